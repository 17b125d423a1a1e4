-- printed by this session's own program (wip/tools/pp.py: the kit's print.py with changes); Lean checks it
import Derived.Test.YtihekdlcfohkkaaGreatDoorQFnNetsx0
import Derived.Test.YtihekdlcfohkkaaGreatDoorQFnNetsx1
import Derived.Test.YtihekdlcfohkkaaGreatDoorQFnNetsx2
namespace Go.Proofs.YtihekdlcfohkkaaGreatDoor.QFnNets
open Go.RowKit Go.Proofs.YtihekdlcfohkkaaGreatDoorW.PrintWords Go.Proofs.YtihekdlcfohkkaaGreatDoorW.PrintLast Go.Proofs.YtihekdlcfohkkaaGreatDoorW.PrintMore
attribute [local go_sem] max2_int min2_int max_two min_two max_three min_three max_four min_four strLss strGtr strLeq strGeq
set_option linter.unusedVariables false
set_option linter.unusedSimpArgs false
set_option maxHeartbeats 16000000
set_option maxRecDepth 100000
def eG.l0:Nat→List ByteArray→ByteArray→Int→Option (List ByteArray)
  |0,_,_,_=>none
  |k+1,x0,x1,x5=>if x5<(x0.length:Int) then (if 0≤x5 then (if ((Op.bytesLess x1.toList ((aQ ByteArray.empty x0 x5).toList))=true) then ((some (([]:List ByteArray):List ByteArray)).bind fun FP=>(if x5≤(x0.length:Int) then (if FP.length+(x0.take (x5:Int).toNat).length<8796093022208 then ((some (FP++(x0.take (x5:Int).toNat):List ByteArray)).bind fun Am=>(if Am.length<8796093022208 then ((some (Am++[x1]:List ByteArray)).bind fun vq=>(if vq.length+(x0.drop (x5:Int).toNat).length<8796093022208 then (some (vq++(x0.drop (x5:Int).toNat))) else (none))) else (none))) else (none)) else (none))) else (eG.l0 k x0 x1 (wrap64 (x5+1)))) else (none)) else ((some (([]:List ByteArray):List ByteArray)).bind fun FO=>(if 0≤x5 then (if x5≤(x0.length:Int) then (if FO.length+(x0.take (x5:Int).toNat).length<8796093022208 then ((some (FO++(x0.take (x5:Int).toNat):List ByteArray)).bind fun Al=>(if Al.length<8796093022208 then ((some (Al++[x1]:List ByteArray)).bind fun vp=>(if vp.length+(x0.drop (x5:Int).toNat).length<8796093022208 then (some (vp++(x0.drop (x5:Int).toNat))) else (none))) else (none))) else (none)) else (none)) else (none)))
def eG.f (k:Nat) (l0:List ByteArray) (a1:ByteArray):Option (List ByteArray):=eG.l0 k l0 a1 0
theorem eG.calls (k:Nat) (A0:Option Addr) (c0:Nat) (l0:List ByteArray) (a1:ByteArray) (r:List ByteArray) (w:World) (ff:Kd.C Kd.string w A0 l0.length l0) (fL:l0.length≤c0) (h:eG.f k l0 a1=some r):
  Calls Tryz.prog 114 #[.slice A0 l0.length c0,.string a1] w fun e w'=>∃lG:Value,e= .returned (lG)∧Kd.R Kd.string 9 w' w.heap.size (fun _=>True) lG r∧Below w.heap.size w w':=by
 have fZ:=ak ff;have ki:=ak fL;clear ff fL
 have HB:=ak (Below.refl w.heap.size w)
 have H:(eG.l0 k l0 a1 0)=some r:=h
 clear h
 have H':=ak H
 clear H
 go_enter Tryz.func114,Tryz.ntmps114
 go_wp2
 go_loopg [5] k (fun kq v5 w'=>∃(dM:Int),v5= .int .i64 dM∧Aside0 (eG.l0 kq l0 a1 dM=some r)∧Aside0 (kq≤k)∧Aside0 (Below w.heap.size w w'))
 case atStart=>exact ⟨(0),er,H',⟨Nat.le_refl _⟩,⟨aq HB⟩⟩
 case round=>
  clear H'
  obtain ⟨dM,rfl,HA,gf,HB⟩:=hrel
  cases gk with
  |zero=>exact absurd HA.out (by simp [eG.l0])
  |succ k1=>
   have H:=HA.out;clear HA
   simp only [eG.l0] at H
   by_cases c3:dM<(l0.length:Int)
   ·rw [if_pos c3] at H
    have jX:=decide_eq_true c3
    clear c3;replace H:=dy H;obtain ⟨c4,H⟩:=H;have jn:=decide_eq_true c4;clear c4
    by_cases c5:((Op.bytesLess a1.toList ((aQ ByteArray.empty l0 dM).toList))=true)
    ·rw [if_pos c5] at H
     have mh:(Op.bytesLess a1.toList ((aQ ByteArray.empty l0 dM).toList))=true:=c5
     clear c5
     obtain ⟨FP,ez⟩:∃y_:List ByteArray,y_=(([]:List ByteArray)):=⟨_,rfl⟩
     replace H:(if dM≤(l0.length:Int) then (if FP.length+(l0.take (dM:Int).toNat).length<8796093022208 then ((some (FP++(l0.take (dM:Int).toNat):List ByteArray)).bind fun Am=>(if Am.length<8796093022208 then ((some (Am++[a1]:List ByteArray)).bind fun vq=>(if vq.length+(l0.drop (dM:Int).toNat).length<8796093022208 then (some (vq++(l0.drop (dM:Int).toNat))) else (none))) else (none))) else (none)) else (none))=some r:=yH
     have UG:=ak ez;clear ez
     have kO:=eq_true (da:0≤dM)
     replace H:=dy H;obtain ⟨c7,H⟩:=H;have tw:=eq_true c7
     have Sz:decide (dM≤(l0.length:Int))=true:=decide_eq_true c7
     clear c7;replace H:=dy H;obtain ⟨c8,H⟩:=H;have Yu:=ak c8;clear c8
     obtain ⟨Am,ez⟩:∃y_:List ByteArray,y_=(FP++(l0.take (dM:Int).toNat)):=⟨_,rfl⟩
     replace H:(if Am.length<8796093022208 then ((some (Am++[a1]:List ByteArray)).bind fun vq=>(if vq.length+(l0.drop (dM:Int).toNat).length<8796093022208 then (some (vq++(l0.drop (dM:Int).toNat))) else (none))) else (none))=some r:=yH
     have adv:=ak ez;clear ez;replace H:=dy H;obtain ⟨c9,H⟩:=H;have ahJ:=ak c9;clear c9
     obtain ⟨vq,ez⟩:∃y_:List ByteArray,y_=(Am++[a1]):=⟨_,rfl⟩
     replace H:(if vq.length+(l0.drop (dM:Int).toNat).length<8796093022208 then (some (vq++(l0.drop (dM:Int).toNat))) else (none))=some r:=yH
     have adu:=ak ez;clear ez
     have kY:=eq_true (da:0≤dM)
     have nM:=eq_true (da:dM≤(l0.length:Int))
     replace H:=dy H;obtain ⟨nW,H⟩:=H;have PN:=ak nW;clear nW
     obtain ⟨aeD,ez⟩:∃y_:List ByteArray,y_=(vq++(l0.drop (dM:Int).toNat)):=⟨_,rfl⟩
     replace H:(some aeD)=some r:=yH
     have adt:=ak ez;clear ez
     obtain rfl:=Option.some.inj H
     have GC:0≤(dM:Int):=da
     have Gm:dM<(l0.length:Int):=da
     obtain ⟨Pn,XR,pV⟩:=Kd.bq fZ.out dM GC Gm
     cases XR
     replace pV:=(HB.out.cell (World.block_lt_of_cell? w _ pV)).trans pV
     replace GC:=eq_true GC;replace Gm:=eq_true Gm
     go_wp2_with (first|((with_reducible refine av (N:=21) rfl ?_);refine Kd.gD Kd.string _ 9 ?hg (N:=21) ?hd (xs:=([]:List ByteArray)) (inner:=[]) (ok:=fun _=>True) (okp:=fun _=>True) ?hr ?hp (fun _ hk=>hk) trivial (Below.refl _ _) (Nat.le_refl _) (by simp) ?_;(case hd=>rfl);(case hg=>rfl);(case hr=>exact rZ);(case hp=>exact (bT.none _ _));intro v154 w13 N8 hb bK dP;clear bK dP;(first|rw [←UG.out] at N8|(simp only [Int.reduceToNat] at N8;rw [←UG.out] at N8));have UX:=ak (Kd.dz N8 (aX (aq HB)));replace HB:=ak (aH (aq HB) hb);clear hb N8;obtain ⟨ajX,TN,_,Tw,_⟩:=info_parts fu;obtain ⟨agx,abh,abd⟩:=oE (P:=Tryz.prog) Value.string (⟨#[]⟩:ByteArray) 62 9 .i64 Tryz.underlying62 TN Tw (some Pn) c0 l0 dM (da) (da) ki.out;have PY:=ak (Kd.lE (h1:=fun _=>rfl) (abh _ (Kd.lC fZ.out)));have aiV:=ak abd;clear abh abd TN Tw)|((with_reducible refine bw (b:= .append) (xs:= #[.tmp 21,.tmp 24]) rfl ?_);at_builtin;refine Kd.cH Kd.string (w0:=w) w.heap.size rfl (.tmp 21) (.tmp 24) 62 9 (.string ⟨#[]⟩) 16 rfl Tryz.underlying62 fu rfl (by decide) (by omega) v154 FP (l0.take (dM:Int).toNat) _ _ _ (fun _=>True) (fun _=>False) rfl rfl ?aO ?aR (fun _ _ h=>h) (fun _ h=>h.elim) ?aF ?aB ?aS ?aL ?_;(case aR=>first|(refine Eq.mp (congrArg (fun z_=>fH _ _ _ _ z_ _) (show (l0.take (dM:Int).toNat).length=dM.toNat from (by rw [List.length_take];have h_:(dM:Int)≤(l0.length:Int):=da;omega))) ?_;exact cd (Kd.aD PY.out HB.out))|(rw [←show (l0.take (dM:Int).toNat).length=dM.toNat from (by rw [List.length_take];have h_:(dM:Int)≤(l0.length:Int):=da;omega)];exact cd (Kd.aD PY.out HB.out))|(exact cd (Kd.aD PY.out HB.out)));(case aB=>exact (aq HB));(case aF=>exact (fun _ _=>trivial));(case aO=>exact (dH UX));(case aS=>exact (aX (aq HB)));(case aL=>have:=Yu.out;have Wx:=(show (l0.take (dM:Int).toNat).length=dM.toNat from (by rw [List.length_take];have h_:(dM:Int)≤(l0.length:Int):=da;omega));omega);intro aeR Ml ho hb hg eC;rw [←adv.out] at ho;replace HB:=ak (hb);have UW:=ak (ho);clear UX;clear ho hb hg eC)|((with_reducible refine bw (b:= .append) (xs:= #[.tmp 26,.tmp 28]) rfl ?_);at_builtin;refine Kd.ig Kd.string (w0:=w) w.heap.size rfl (.tmp 26) (.tmp 28) 62 9 (.string ⟨#[]⟩) 16 rfl Tryz.underlying62 fu rfl (by decide) (by omega) aeR Am a1 [.string a1] (fun _=>True) (fun _=>False) rfl rfl ?aP (fun _ hk=>hk.elim) ?aF ?aO ?aB ?aS ?aL ?_;(case aP=>exact rfl);(case aB=>exact (aq HB));(case aF=>exact (fun _ _=>trivial));(case aO=>exact (dH UW));(case aS=>exact (aX (aq HB)));(case aL=>have:=ahJ.out;omega);intro aeQ L6 ho hb hg eC;rw [←adu.out] at ho;replace HB:=ak (hb);have UU:=ak (ho);clear UW;clear ho hb hg eC;obtain ⟨ajW,TM,_,Tv,_⟩:=info_parts fu;obtain ⟨A18,agw,abg,abc⟩:=sE (P:=Tryz.prog) Value.string (⟨#[]⟩:ByteArray) 62 9 .i64 Tryz.underlying62 TM Tv (some Pn) c0 l0 dM (da) (da) ki.out;have PX:=ak (Kd.lE (h1:=fun _=>rfl) (abg _ (Kd.lC fZ.out)));have aiU:=ak abc;clear abg abc TM Tv)|((with_reducible refine bw (b:= .append) (xs:= #[.tmp 30,.tmp 33]) rfl ?_);at_builtin;refine Kd.cH Kd.string (w0:=w) w.heap.size rfl (.tmp 30) (.tmp 33) 62 9 (.string ⟨#[]⟩) 16 rfl Tryz.underlying62 fu rfl (by decide) (by omega) aeQ vq (l0.drop (dM:Int).toNat) _ _ _ (fun _=>True) (fun _=>False) rfl rfl ?aO ?aR (fun _ _ h=>h) (fun _ h=>h.elim) ?aF ?aB ?aS ?aL ?_;(case aR=>first|(refine Eq.mp (congrArg (fun z_=>fH _ _ _ _ z_ _) (show (l0.drop (dM:Int).toNat).length=(l0.length-dM.toNat) from List.length_drop)) ?_;exact cd (Kd.aD PX.out HB.out))|(rw [←show (l0.drop (dM:Int).toNat).length=(l0.length-dM.toNat) from List.length_drop];exact cd (Kd.aD PX.out HB.out))|(exact cd (Kd.aD PX.out HB.out)));(case aB=>exact (aq HB));(case aF=>exact (fun _ _=>trivial));(case aO=>exact (dH UU));(case aS=>exact (aX (aq HB)));(case aL=>have:=PN.out;have Wx:=(show (l0.drop (dM:Int).toNat).length=(l0.length-dM.toNat) from List.length_drop);omega);intro ajt w19 ho hb hg eC;rw [←adt.out] at ho;replace HB:=ak (hb);have adY:=ak (ho);clear UU;clear ho hb hg eC))
     go_ret
     exact ⟨_,kK,by (with_reducible repeat (first|apply Kd.cz|apply Kd.cy|apply Kd.cD));exact adY.out,aq HB⟩
    ·rw [if_neg c5] at H
     have mh:(Op.bytesLess a1.toList ((aQ ByteArray.empty l0 dM).toList))=false:=by simpa using c5
     clear c5
     have H':=ak H
     clear H
     have GC:0≤(dM:Int):=da
     have Gm:dM<(l0.length:Int):=da
     obtain ⟨Pn,XR,pV⟩:=Kd.bq fZ.out dM GC Gm
     cases XR
     replace pV:=(HB.out.cell (World.block_lt_of_cell? w _ pV)).trans pV
     replace GC:=eq_true GC;replace Gm:=eq_true Gm;go_wp2
     go_roundg k1
     case measure=>have:=gf.out;omega
     case rel=>exact ⟨(wrap64 (dM+1)),er,H',⟨by have:=gf.out;omega⟩,⟨aq HB⟩⟩
   ·rw [if_neg c3] at H
    have jX:=decide_eq_false c3
    clear c3
    obtain ⟨FO,ez⟩:∃y_:List ByteArray,y_=(([]:List ByteArray)):=⟨_,rfl⟩
    replace H:(if 0≤dM then (if dM≤(l0.length:Int) then (if FO.length+(l0.take (dM:Int).toNat).length<8796093022208 then ((some (FO++(l0.take (dM:Int).toNat):List ByteArray)).bind fun Al=>(if Al.length<8796093022208 then ((some (Al++[a1]:List ByteArray)).bind fun vp=>(if vp.length+(l0.drop (dM:Int).toNat).length<8796093022208 then (some (vp++(l0.drop (dM:Int).toNat))) else (none))) else (none))) else (none)) else (none)) else (none))=some r:=yH
    have UF:=ak ez;clear ez;replace H:=dy H;obtain ⟨BK,H⟩:=H;have uK:=eq_true BK
    have aiE:decide (0≤dM)=true:=decide_eq_true BK
    clear BK;replace H:=dy H;obtain ⟨H7,H⟩:=H;have BJ:=eq_true H7
    have ach:decide (dM≤(l0.length:Int))=true:=decide_eq_true H7
    clear H7;replace H:=dy H;obtain ⟨DH,H⟩:=H;have adC:=ak DH;clear DH
    obtain ⟨Al,ez⟩:∃y_:List ByteArray,y_=(FO++(l0.take (dM:Int).toNat)):=⟨_,rfl⟩
    replace H:(if Al.length<8796093022208 then ((some (Al++[a1]:List ByteArray)).bind fun vp=>(if vp.length+(l0.drop (dM:Int).toNat).length<8796093022208 then (some (vp++(l0.drop (dM:Int).toNat))) else (none))) else (none))=some r:=yH
    have ads:=ak ez;clear ez;replace H:=dy H;obtain ⟨H6,H⟩:=H;have adB:=ak H6;clear H6
    obtain ⟨vp,ez⟩:∃y_:List ByteArray,y_=(Al++[a1]):=⟨_,rfl⟩
    replace H:(if vp.length+(l0.drop (dM:Int).toNat).length<8796093022208 then (some (vp++(l0.drop (dM:Int).toNat))) else (none))=some r:=yH
    have adr:=ak ez;clear ez
    have Ug:=eq_true (da:0≤dM)
    have OX:=eq_true (da:dM≤(l0.length:Int))
    replace H:=dy H;obtain ⟨OW,H⟩:=H;have adA:=ak OW;clear OW
    obtain ⟨aeC,ez⟩:∃y_:List ByteArray,y_=(vp++(l0.drop (dM:Int).toNat)):=⟨_,rfl⟩
    replace H:(some aeC)=some r:=yH
    have adq:=ak ez;clear ez
    obtain rfl:=Option.some.inj H
    go_wp2_with (first|((with_reducible refine av (N:=21) rfl ?_);refine Kd.gD Kd.string _ 9 ?hg (N:=21) ?hd (xs:=([]:List ByteArray)) (inner:=[]) (ok:=fun _=>True) (okp:=fun _=>True) ?hr ?hp (fun _ hk=>hk) trivial (Below.refl _ _) (Nat.le_refl _) (by simp) ?_;(case hd=>rfl);(case hg=>rfl);(case hr=>exact rZ);(case hp=>exact (bT.none _ _));intro v168 w27 N3 hb bK dP;clear bK dP;(first|rw [←UF.out] at N3|(simp only [Int.reduceToNat] at N3;rw [←UF.out] at N3));have UT:=ak (Kd.dz N3 (aX (aq HB)));replace HB:=ak (aH (aq HB) hb);clear hb N3;obtain ⟨ajV,TK,_,Tu,_⟩:=info_parts fu;obtain ⟨agv,abf,abb⟩:=oE (P:=Tryz.prog) Value.string (⟨#[]⟩:ByteArray) 62 9 .i64 Tryz.underlying62 TK Tu A0 c0 l0 dM (da) (da) ki.out;have PW:=ak (Kd.lE (h1:=fun _=>rfl) (abf _ (Kd.lC fZ.out)));have aiT:=ak abb;clear abf abb TK Tu)|((with_reducible refine bw (b:= .append) (xs:= #[.tmp 21,.tmp 24]) rfl ?_);at_builtin;refine Kd.cH Kd.string (w0:=w) w.heap.size rfl (.tmp 21) (.tmp 24) 62 9 (.string ⟨#[]⟩) 16 rfl Tryz.underlying62 fu rfl (by decide) (by omega) v168 FO (l0.take (dM:Int).toNat) _ _ _ (fun _=>True) (fun _=>False) rfl rfl ?aO ?aR (fun _ _ h=>h) (fun _ h=>h.elim) ?aF ?aB ?aS ?aL ?_;(case aR=>first|(refine Eq.mp (congrArg (fun z_=>fH _ _ _ _ z_ _) (show (l0.take (dM:Int).toNat).length=dM.toNat from (by rw [List.length_take];have h_:(dM:Int)≤(l0.length:Int):=da;omega))) ?_;exact cd (Kd.aD PW.out HB.out))|(rw [←show (l0.take (dM:Int).toNat).length=dM.toNat from (by rw [List.length_take];have h_:(dM:Int)≤(l0.length:Int):=da;omega)];exact cd (Kd.aD PW.out HB.out))|(exact cd (Kd.aD PW.out HB.out)));(case aB=>exact (aq HB));(case aF=>exact (fun _ _=>trivial));(case aO=>exact (dH UT));(case aS=>exact (aX (aq HB)));(case aL=>have:=adC.out;have Wx:=(show (l0.take (dM:Int).toNat).length=dM.toNat from (by rw [List.length_take];have h_:(dM:Int)≤(l0.length:Int):=da;omega));omega);intro aeP w30 ho hb hg eC;rw [←ads.out] at ho;replace HB:=ak (hb);have US:=ak (ho);clear UT;clear ho hb hg eC)|((with_reducible refine bw (b:= .append) (xs:= #[.tmp 26,.tmp 28]) rfl ?_);at_builtin;refine Kd.ig Kd.string (w0:=w) w.heap.size rfl (.tmp 26) (.tmp 28) 62 9 (.string ⟨#[]⟩) 16 rfl Tryz.underlying62 fu rfl (by decide) (by omega) aeP Al a1 [.string a1] (fun _=>True) (fun _=>False) rfl rfl ?aP (fun _ hk=>hk.elim) ?aF ?aO ?aB ?aS ?aL ?_;(case aP=>exact rfl);(case aB=>exact (aq HB));(case aF=>exact (fun _ _=>trivial));(case aO=>exact (dH US));(case aS=>exact (aX (aq HB)));(case aL=>have:=adB.out;omega);intro v175 w31 ho hb hg eC;rw [←adr.out] at ho;replace HB:=ak (hb);have UR:=ak (ho);clear US;clear ho hb hg eC;obtain ⟨ajU,TJ,_,Tt,_⟩:=info_parts fu;obtain ⟨A32,agu,abe,aba⟩:=sE (P:=Tryz.prog) Value.string (⟨#[]⟩:ByteArray) 62 9 .i64 Tryz.underlying62 TJ Tt A0 c0 l0 dM (da) (da) ki.out;have PV:=ak (Kd.lE (h1:=fun _=>rfl) (abe _ (Kd.lC fZ.out)));have aiS:=ak aba;clear abe aba TJ Tt)|((with_reducible refine bw (b:= .append) (xs:= #[.tmp 30,.tmp 33]) rfl ?_);at_builtin;refine Kd.cH Kd.string (w0:=w) w.heap.size rfl (.tmp 30) (.tmp 33) 62 9 (.string ⟨#[]⟩) 16 rfl Tryz.underlying62 fu rfl (by decide) (by omega) v175 vp (l0.drop (dM:Int).toNat) _ _ _ (fun _=>True) (fun _=>False) rfl rfl ?aO ?aR (fun _ _ h=>h) (fun _ h=>h.elim) ?aF ?aB ?aS ?aL ?_;(case aR=>first|(refine Eq.mp (congrArg (fun z_=>fH _ _ _ _ z_ _) (show (l0.drop (dM:Int).toNat).length=(l0.length-dM.toNat) from List.length_drop)) ?_;exact cd (Kd.aD PV.out HB.out))|(rw [←show (l0.drop (dM:Int).toNat).length=(l0.length-dM.toNat) from List.length_drop];exact cd (Kd.aD PV.out HB.out))|(exact cd (Kd.aD PV.out HB.out)));(case aB=>exact (aq HB));(case aF=>exact (fun _ _=>trivial));(case aO=>exact (dH UR));(case aS=>exact (aX (aq HB)));(case aL=>have:=adA.out;have Wx:=(show (l0.drop (dM:Int).toNat).length=(l0.length-dM.toNat) from List.length_drop);omega);intro ajs w33 ho hb hg eC;rw [←adq.out] at ho;replace HB:=ak (hb);have adX:=ak (ho);clear UR;clear ho hb hg eC))
    go_ret
    exact ⟨_,kK,by (with_reducible repeat (first|apply Kd.cz|apply Kd.cy|apply Kd.cD));exact adX.out,aq HB⟩
def bQ.T3:Bool×List (List Nat×List Nat):=(true,[([],[]),([0],[0]),([],[]),([],[]),([3],[3]),([],[]),([4,5],[4,5]),([6],[6]),([],[]),([7,8],[7,8]),([1,2,0,1,2,3,4,5,6,7,8,9],[1,2]),([10,9,9,0,1,2,3,4,5,6,7,8,9],[9,10])])
def bQ.B3:List Nat:=[0,1,0,0,8,0,56,120,0,504,1023,2047]
theorem bQ.FX:gz .any (opsOf Tryz.f89 3)=bQ.T3:=by kernel_rfl
theorem bQ.zJ:dZ bQ.T3.2 bQ.B3=true:=by kernel_rfl
def bQ.T4:Bool×List (List Nat×List Nat):=(true,[([],[]),([0],[0]),([],[]),([],[]),([3],[3]),([],[]),([4,5],[4,5]),([6],[6]),([],[]),([7,8],[7,8]),([1,2,0,1,2,3,4,5,6,7,8,9],[1,2]),([10,9,9,0,1,2,3,4,5,6,7,8,9],[9,10])])
def bQ.B4:List Nat:=[0,1,0,0,8,0,56,120,0,504,1023,2047]
theorem bQ.Ci:gz .any (opsOf Tryz.f89 4)=bQ.T4:=by kernel_rfl
theorem bQ.uL:dZ bQ.T4.2 bQ.B4=true:=by kernel_rfl
def bQ.f (k:Nat) (n:Nt) (i:Int) (s:ByteArray):Option Nt:=if 0≤i∧i<(n.ps.length:Int)∧i<(n.ss.length:Int) then (eH.f k (n.ss.getD i.toNat []) s).bind fun b=>if b=true∨(n.ss.getD i.toNat []).length=100 then some n else (eG.f k (n.ss.getD i.toNat []) s).bind fun S=>(eG.f k (n.ps.getD i.toNat []) s).bind fun P=>some ⟨n.ks,n.ps.set i.toNat P,n.ss.set i.toNat S,n.ib,n.sd⟩ else none
theorem bQ.keeps {k:Nat} {n m:Nt} {i:Int} {s:ByteArray} (h:bQ.f k n i s=some m):m.ks=n.ks∧m.ib=n.ib∧m.sd=n.sd:=by
 unfold bQ.f at h
 replace h:=dy h;obtain ⟨-,h⟩:=h
 replace h:=bS h;obtain ⟨b,-,h⟩:=h
 split at h
 ·obtain rfl:=Option.some.inj h;exact ⟨rfl,rfl,rfl⟩
 ·replace h:=bS h;obtain ⟨_,-,h⟩:=h;replace h:=bS h;obtain ⟨_,-,h⟩:=h;obtain rfl:=Option.some.inj h;exact ⟨rfl,rfl,rfl⟩
theorem bQ.calls {k:Nat} {v0 v1 v2 v3:Value} {n m:Nt} {i:Int} {s:ByteArray} {L:List SA} {w0 w:World} (hs:Sep w0 w (eO v0 v1 v2 v3 n++L)) (h:bQ.f k n i s=some m):
    Calls Tryz.prog 89 #[.agg #[v0,v1,v2,v3,.int .i64 n.sd],.int .i64 i,.string s] w fun e w'=>e= .returned (.agg #[v0,v1,v2,v3,.int .i64 n.sd])∧Sep w0 w' (eO v0 v1 v2 v3 m++L):=by
 have lg:=Tryz.underlying27
 obtain ⟨ks,ps,ss,ib,sd⟩:=n
 have HS:Sep w0 w (rA KI 3 v0 ks::sA KT 62 v1 ps::sA KT 62 v2 ss::sA KT 62 v3 ib::L):=hs
 clear hs
 unfold bQ.f at h
 dsimp only at h⊢
 replace h:=dy h;obtain ⟨⟨i0,i1,i2⟩,h⟩:=h
 obtain ⟨A0,c0,rfl⟩:=HS.lz 0
 obtain ⟨A3,c3,rfl⟩:=HS.gY 3
 obtain ⟨g1,q1,rfl⟩:=HS.addr 1 (hx:=by omega)
 obtain ⟨g2,q2,rfl⟩:=HS.addr 2 (hx:=by omega)
 have p0:(0≤i)=True:=eq_true i0
 have p1:(i<(ps.length:Int))=True:=eq_true i1
 have p2:(i<(ss.length:Int))=True:=eq_true i2
 obtain ⟨AP,qP,HS,-,-⟩:=HS.mE.yS i i0 i1
 obtain ⟨AS,qS,HS,-,-⟩:=HS.vm.yS i i0 i2
 generalize hS:ss.getD i.toNat []=S at HS h
 generalize hP:ps.getD i.toNat []=P at HS h
 have GS:=ak hS;have GP:=ak hP;clear hS hP
 replace h:=bS h;obtain ⟨b,T1,h⟩:=h
 by_cases hb:b=true∨S.length=100
 ·rw [if_pos hb] at h
  obtain rfl:=Option.some.inj h
  clear h
  have hl:b=false→((S.length:Int)==100)=true:=fun e=>beq_iff_eq.2 (by rcases hb with h|h;(rw [e] at h;cases h);omega)
  clear hb
  cases b
  all_goals
   first|replace hl:=hl rfl|clear hl
   go_enter Tryz.func89,Tryz.ntmps89
   go_wp2_with (first|((with_reducible refine av (N:=3) rfl ?_);refine bN 3 #[.slice A0 ks.length c0,.slice (some ⟨g1,0,none⟩) ps.length q1,.slice (some ⟨g2,0,none⟩) ss.length q2,.slice A3 ib.length c3,.int .i64 sd] 27 ?_;intro b3 bK W_ bD aW;replace HS:=HS.box bK bD aW;clear bK bD aW;have bL:=an (HS.aI 0))|((with_reducible refine av (N:=6) rfl ?_);refine bN 6 #[.slice none 0 0,.slice none 0 0,.slice none 0 0,.slice none 0 0,.int .i64 0] 27 ?_;intro b6 bK W_ bD aW;replace HS:=HS.box bK bD aW;clear bK bD aW;clear bL;have jZ:=an (HS.aI 0);clear jZ;have jZ:=an (HS.aI 0);have bL:=an (HS.aI 1);obtain ⟨gK,jf⟩:=HS.me.hole i0 i2)|(go_at_call 83;have cE:=eH.calls k _ _ S s _ _ (HS.mA 3).2.2 (HS.mA 3).2.1 T1.out;refine cE.mono ?_;clear cE;rintro e W_ ⟨rfl,iC,rfl⟩;replace HS:=HS.drewN iC;generalize World.drewN _ iC=W_ at HS⊢;clear jZ bL gK jf;have jZ:=an (HS.aI 0);have bL:=an (HS.aI 1);obtain ⟨gK,jf⟩:=HS.me.hole i0 i2))
   have HF:=HS.iw 0 (.slice A0 ks.length c0) (.slice (some ⟨g1,0,none⟩) ps.length q1) (.slice (some ⟨g2,0,none⟩) ss.length q2) (.slice A3 ib.length c3) (.int .i64 sd)
   refine bodyPost_ret (results_cell_row rfl _ _ b6 27 #[.slice A0 ks.length c0,.slice (some ⟨g1,0,none⟩) ps.length q1,.slice (some ⟨g2,0,none⟩) ss.length q2,.slice A3 ib.length c3,.int .i64 sd] (0,0) _ rfl (by exact (HF.aI 0).out) Tryz.underlying27 rfl (by kernel_rfl)) rfl ?_
   replace HS:=HF
   replace HS:=HS.vm.vm.sP GS
   replace HS:=HS.j9.j9.sP GP
   replace HS:=HS.me.tail
   replace HS:=HS.me.tail
   exact ⟨rfl,HS.vm.me.me.vm⟩
 ·rw [if_neg hb] at h
  obtain ⟨Oq,L9⟩:=not_or.1 hb
  obtain rfl:b=false:=by simpa using Oq
  have hl:((S.length:Int)==100)=false:=beq_eq_false_iff_ne.2 (fun e=>L9 (by omega))
  clear hb Oq L9
  replace h:=bS h;obtain ⟨S',T2,h⟩:=h
  replace h:=bS h;obtain ⟨P',T3,h⟩:=h
  obtain rfl:=Option.some.inj h
  clear h
  go_enter Tryz.func89,Tryz.ntmps89
  go_upto_region 3 with (first|((with_reducible refine av (N:=3) rfl ?_);refine bN 3 #[.slice A0 ks.length c0,.slice (some ⟨g1,0,none⟩) ps.length q1,.slice (some ⟨g2,0,none⟩) ss.length q2,.slice A3 ib.length c3,.int .i64 sd] 27 ?_;intro b3 bK W_ bD aW;replace HS:=HS.box bK bD aW;clear bK bD aW;have bL:=an (HS.aI 0))|((with_reducible refine av (N:=6) rfl ?_);refine bN 6 #[.slice none 0 0,.slice none 0 0,.slice none 0 0,.slice none 0 0,.int .i64 0] 27 ?_;intro b6 bK W_ bD aW;replace HS:=HS.box bK bD aW;clear bK bD aW;clear bL;have jZ:=an (HS.aI 0);clear jZ;have jZ:=an (HS.aI 0);have bL:=an (HS.aI 1);obtain ⟨gK,jf⟩:=HS.me.hole i0 i2)|(go_at_call 83;have cE:=eH.calls k _ _ S s _ _ (HS.mA 3).2.2 (HS.mA 3).2.1 T1.out;refine cE.mono ?_;clear cE;rintro e W_ ⟨rfl,iC,rfl⟩;replace HS:=HS.drewN iC;generalize World.drewN _ iC=W_ at HS⊢;clear jZ bL gK jf;have jZ:=an (HS.aI 0);have bL:=an (HS.aI 1);obtain ⟨gK,jf⟩:=HS.me.hole i0 i2))
  clear jZ bL gK jf
  have bL:=an (HS.aI 1)
  obtain ⟨gK,jf⟩:=HS.me.hole i0 i2
  refine dV (n:=12) (S:=fun w'=>w'.cell? ⟨b3,0,none⟩=some (.slice A0 ks.length c0)∧w'.cell? ⟨b3,1,none⟩=some (.slice (some ⟨g1,0,none⟩) ps.length q1)∧w'.cell? ⟨b3,2,none⟩=some (.slice (some ⟨g2,0,none⟩) ss.length q2)∧w'.cell? ⟨b3,3,none⟩=some (.slice A3 ib.length c3)∧w'.cell? ⟨b3,4,none⟩=some (.int .i64 sd)∧w'.cell? ⟨g2,i.toNat,none⟩=some (.slice AS S.length qS)) (ds:=[11]) (bl 12 0) (by kernel_rfl) rfl rfl ⟨bL.1,bL.2.1,bL.2.2.1,bL.2.2.2.1,bL.2.2.2.2.1,gK⟩ (fun ah=> ?_);refine bZ bQ.FX bQ.zJ (fun aA ef=> ?_)
  clear bL gK jf
  replace HS:=HS.drew
  generalize World.drew _=tD at HS ah⊢
  refine ag 0 (some 24) 12 1 aA ?_
  refine cg 1 (some 25) 12 3 aA ef ah ?_ (hy:=by rintro w' ⟨s0,s1,s2,s3,s4,s5⟩;go_simp;with_reducible rfl)
  refine ag 2 (some 26) 12 7 aA ?_
  refine ag 3 (some 27) 12 15 aA ?_
  refine cg 4 (some 28) 12 31 aA ef ah ?_ (hy:=by rintro w' ⟨s0,s1,s2,s3,s4,s5⟩;go_simp;with_reducible rfl)
  refine ag 5 (some 29) 12 63 aA ?_
  refine ag 6 (some 30) 12 127 aA ?_
  refine cg 7 (some 31) 12 255 aA ef ah ?_ (hy:=by rintro w' ⟨s0,s1,s2,s3,s4,s5⟩;go_simp;with_reducible rfl)
  refine ag 8 (some 32) 12 511 aA ?_
  refine fJ 9 (some 33) 12 1023 aA (fun K hK=> ?_)
  refine fM Tryz.func114 (by kernel_rfl) rfl #[.slice AS S.length qS,.string s] (by rfl) rfl rfl (by (try simp only [List.map_toArray,List.map_cons,List.map_nil]);first|done|rfl) ?_
  have cE:=eG.calls k _ _ S s S' _ (HS.mA 3).2.2 (HS.mA 3).2.1 T2.out
  refine cE.mono ?_
  clear cE ah
  rintro e W_ ⟨u_,rfl,bD,aW⟩
  refine ⟨_,rfl,?_⟩
  replace HS:=HS.new (A:=rA Kd.string 9 u_ S') aW bD
  obtain ⟨AS1,qS1,rfl⟩:=HS.lz 0
  clear bD aW
  have bL:=an (HS.aI 2)
  obtain ⟨gK,jf⟩:=HS.vm.hole i0 i2
  refine hK.out _ _ ⟨bL.1,bL.2.1,bL.2.2.1,bL.2.2.2.1,bL.2.2.2.2.1,gK⟩ (fun ah=> ?_)
  clear hK K bL gK jf
  refine cM (a':= ?_) ?_ ?_
  rotate_left
  ·show Act.put _ (some 33) _=_
   simp only [Act.put,List.setIfInBounds_toArray,List.set_cons_zero,List.set_cons_succ,bW,cA]
   rfl
  refine ag 10 (some 34) 12 2047 aA ?_
  refine lH (i:=11) (N:=none) (bl 12 4095) rfl rfl (jd aA.out (by kernel_rfl)) (by decide) (fun K hK=> ?_)
  clear ah
  obtain ⟨gK,jf⟩:=HS.vm.hole i0 i2
  refine jV (w1:= ?_) (by rfl) rfl ?_ ?_
  rotate_left
  ·go_simp
   rfl
  clear gK jf
  replace HS:=HS.vm.C2 i0 i2 (.slice AS1 S'.length qS1) rfl
  refine hK.out _ _ ?_
  clear hK K
  refine eZ (cV aA.out (by kernel_rfl)) ?_
  clear aA ef
  obtain ⟨rC,gU,gX⟩:=HS.gen
  rw [gU]
  clear HS gU
  have HS:=gX
  clear gX
  replace HS:=HS.back
  replace HS:=HS.vm.tail
  go_upto_region 4 with fail
  have bL:=an (HS.aI 2)
  obtain ⟨m7,pZ⟩:=HS.vm.hole i0 i1
  refine dV (n:=12) (S:=fun w'=>w'.cell? ⟨b3,0,none⟩=some (.slice A0 ks.length c0)∧w'.cell? ⟨b3,1,none⟩=some (.slice (some ⟨g1,0,none⟩) ps.length q1)∧w'.cell? ⟨b3,2,none⟩=some (.slice (some ⟨g2,0,none⟩) ss.length q2)∧w'.cell? ⟨b3,3,none⟩=some (.slice A3 ib.length c3)∧w'.cell? ⟨b3,4,none⟩=some (.int .i64 sd)∧w'.cell? ⟨g1,i.toNat,none⟩=some (.slice AP P.length qP)) (ds:=[11]) (bl 12 0) (by kernel_rfl) rfl rfl ⟨bL.1,bL.2.1,bL.2.2.1,bL.2.2.2.1,bL.2.2.2.2.1,m7⟩ (fun ah=> ?_);refine bZ bQ.Ci bQ.uL (fun aA ef=> ?_)
  clear bL m7 pZ
  replace HS:=HS.drew
  generalize World.drew _=tD at HS ah⊢
  refine ag 0 (some 35) 12 1 aA ?_
  refine cg 1 (some 36) 12 3 aA ef ah ?_ (hy:=by rintro w' ⟨s0,s1,s2,s3,s4,s5⟩;go_simp;with_reducible rfl)
  refine ag 2 (some 37) 12 7 aA ?_
  refine ag 3 (some 38) 12 15 aA ?_
  refine cg 4 (some 39) 12 31 aA ef ah ?_ (hy:=by rintro w' ⟨s0,s1,s2,s3,s4,s5⟩;go_simp;with_reducible rfl)
  refine ag 5 (some 40) 12 63 aA ?_
  refine ag 6 (some 41) 12 127 aA ?_
  refine cg 7 (some 42) 12 255 aA ef ah ?_ (hy:=by rintro w' ⟨s0,s1,s2,s3,s4,s5⟩;go_simp;with_reducible rfl)
  refine ag 8 (some 43) 12 511 aA ?_
  refine fJ 9 (some 44) 12 1023 aA (fun K hK=> ?_)
  refine fM Tryz.func114 (by kernel_rfl) rfl #[.slice AP P.length qP,.string s] (by rfl) rfl rfl (by (try simp only [List.map_toArray,List.map_cons,List.map_nil]);first|done|rfl) ?_
  have cE:=eG.calls k _ _ P s P' _ (HS.mA 4).2.2 (HS.mA 4).2.1 T3.out
  refine cE.mono ?_
  clear cE ah
  rintro e W_ ⟨u_,rfl,bD,aW⟩
  refine ⟨_,rfl,?_⟩
  replace HS:=HS.new (A:=rA Kd.string 9 u_ P') aW bD
  obtain ⟨AP1,qP1,rfl⟩:=HS.lz 0
  clear bD aW
  have bL:=an (HS.aI 3)
  obtain ⟨m7,pZ⟩:=HS.j9.hole i0 i1
  refine hK.out _ _ ⟨bL.1,bL.2.1,bL.2.2.1,bL.2.2.2.1,bL.2.2.2.2.1,m7⟩ (fun ah=> ?_)
  clear hK K bL m7 pZ
  refine cM (a':= ?_) ?_ ?_
  rotate_left
  ·show Act.put _ (some 44) _=_
   simp only [Act.put,List.setIfInBounds_toArray,List.set_cons_zero,List.set_cons_succ,bW,cA]
   rfl
  refine ag 10 (some 45) 12 2047 aA ?_
  refine lH (i:=11) (N:=none) (bl 12 4095) rfl rfl (jd aA.out (by kernel_rfl)) (by decide) (fun K hK=> ?_)
  clear ah
  obtain ⟨m7,pZ⟩:=HS.j9.hole i0 i1
  refine jV (w1:= ?_) (by rfl) rfl ?_ ?_
  rotate_left
  ·go_simp
   rfl
  clear m7 pZ
  replace HS:=HS.j9.C2 i0 i1 (.slice AP1 P'.length qP1) rfl
  refine hK.out _ _ ?_
  clear hK K
  refine eZ (cV aA.out (by kernel_rfl)) ?_
  clear aA ef
  obtain ⟨rC,gU,gX⟩:=HS.gen
  rw [gU]
  clear HS gU
  have HS:=gX
  clear gX
  replace HS:=HS.back
  replace HS:=HS.j9.tail
  have jZ:=an (HS.aI 2)
  have bL:=an (HS.aI 3)
  go_wp2
  have HF:=HS.iw 2 (.slice A0 ks.length c0) (.slice (some ⟨g1,0,none⟩) ps.length q1) (.slice (some ⟨g2,0,none⟩) ss.length q2) (.slice A3 ib.length c3) (.int .i64 sd)
  refine bodyPost_ret (results_cell_row rfl _ _ b6 27 #[.slice A0 ks.length c0,.slice (some ⟨g1,0,none⟩) ps.length q1,.slice (some ⟨g2,0,none⟩) ss.length q2,.slice A3 ib.length c3,.int .i64 sd] (0,0) _ rfl (by exact (HF.aI 2).out) Tryz.underlying27 rfl (by kernel_rfl)) rfl ?_
  replace HS:=HF
  replace HS:=HS.me.tail
  replace HS:=HS.me.tail
  exact ⟨rfl,HS.vm.me.me.vm⟩
def bB.T12:Bool×List (List Nat×List Nat):=(true,[([],[]),([0],[0]),([],[]),([],[]),([3],[3]),([],[]),([4,5],[4,5]),([6],[6]),([],[]),([8],[8]),([9],[9]),([7,10],[7,10]),([1,2,0,1,2,3,4,5,6,7,8,9,10,11],[1,2]),([12,11,11,0,1,2,3,4,5,6,7,8,9,10,11],[11,12])])
def bB.B12:List Nat:=[0,1,0,0,8,0,56,120,0,256,768,2040,4095,8191]
theorem bB.aam:gz .any (opsOf Tryz.f53 12)=bB.T12:=by kernel_rfl
theorem bB.Yj:dZ bB.T12.2 bB.B12=true:=by kernel_rfl
def bB.l0 (k:Nat) (i:Int) (z:Bool):List ByteArray→Nt→Option Nt
  |[],n=>some n
  |s::r,n=>if i<(n.ks.length:Int) then (dX.f k (rd n.ks i) s).bind fun (x,y,b,o)=>if o=false then bB.l0 k i z r n else if z=false then (if x=1 then (bQ.f k n (wrap64 (i+1)) y).bind fun n'=>bB.l0 k i z r n' else bB.l0 k i z r n) else (bE.f (wrap64 (x-2)) 0 3).bind fun c=>if c=false then bB.l0 k i z r n else if b=(⟨#[]⟩:ByteArray) then bB.l0 k i z r n else if 0≤wrap64 (x-2)∧wrap64 (x-2)<(n.ib.length:Int) then (if (n.ib.getD (wrap64 (x-2)).toNat []).length<60 then bB.l0 k i z r ⟨n.ks,n.ps,n.ss,n.ib.set (wrap64 (x-2)).toNat (n.ib.getD (wrap64 (x-2)).toNat []++[b]),n.sd⟩ else bB.l0 k i z r n) else none else none
def bB.f (k:Nat) (n:Nt) (i:Int):Option Nt:=if 0≤i∧i<(n.ps.length:Int)∧i<(n.ks.length:Int)∧0<n.ib.length∧(n.ps.getD i.toNat []).length≤1048576 then bB.l0 k i (i==wrap64 ((n.ks.length:Int)-1)) (n.ps.getD i.toNat []) ⟨n.ks,n.ps.set i.toNat [],n.ss,n.ib,n.sd⟩ else none
theorem bB.calls {k:Nat} {v0 v1 v2 v3:Value} {n m:Nt} {i:Int} {L:List SA} {w0 w:World} (hs:Sep w0 w (eO v0 v1 v2 v3 n++L)) (h:bB.f k n i=some m):
    Calls Tryz.prog 53 #[.agg #[v0,v1,v2,v3,.int .i64 n.sd],.int .i64 i] w fun e w'=>e= .returned (.agg #[v0,v1,v2,v3,.int .i64 n.sd])∧Sep w0 w' (eO v0 v1 v2 v3 m++L):=by
 have lg:=Tryz.underlying27
 obtain ⟨ks,ps,ss,ib,sd⟩:=n
 have HS:Sep w0 w (rA KI 3 v0 ks::sA KT 62 v1 ps::sA KT 62 v2 ss::sA KT 62 v3 ib::L):=hs
 clear hs
 unfold bB.f at h
 dsimp only at h⊢
 replace h:=dy h;obtain ⟨⟨i0,i1,i2,i3,i4⟩,h⟩:=h
 obtain ⟨A2,c2,rfl⟩:=HS.gY 2
 obtain ⟨g0,q0,rfl⟩:=HS.uN 0 (hx:=by omega)
 obtain ⟨g1,q1,rfl⟩:=HS.addr 1 (hx:=by omega)
 obtain ⟨g3,q3,rfl⟩:=HS.addr 3 (hx:=by omega)
 have p0:(0≤i)=True:=eq_true i0
 have p1:(i<(ps.length:Int))=True:=eq_true i1
 have p2:(i<(ks.length:Int))=True:=eq_true i2
 obtain ⟨AP,qP,HS,-,-⟩:=HS.mE.yS i i0 i1
 generalize ps.getD i.toNat []=P at HS h i4
 have I4:=ak i4;have H':=ak h;clear i4 h
 have hz_:∃z,(i==wrap64 ((ks.length:Int)-1))=z:=⟨_,rfl⟩
 obtain ⟨z,hz⟩:=hz_
 rw [hz] at H'
 go_enter Tryz.func53,Tryz.ntmps53
 go_upto_region 3 with (first|((with_reducible refine av (N:=2) rfl ?_);refine bN 2 #[.slice (some ⟨g0,0,none⟩) ks.length q0,.slice (some ⟨g1,0,none⟩) ps.length q1,.slice A2 ss.length c2,.slice (some ⟨g3,0,none⟩) ib.length q3,.int .i64 sd] 27 ?_;intro b2 bK W_ bD aW;replace HS:=HS.box bK bD aW;clear bK bD aW;have cJ:=an (HS.aI 0))|((with_reducible refine av (N:=4) rfl ?_);refine bN 4 #[.slice none 0 0,.slice none 0 0,.slice none 0 0,.slice none 0 0,.int .i64 0] 27 ?_;intro b4 bK W_ bD aW;replace HS:=HS.box bK bD aW;clear bK bD aW;clear cJ;have eR:=an (HS.aI 0);clear eR;have eR:=an (HS.aI 0);have cJ:=an (HS.aI 1);obtain ⟨m7,pZ⟩:=HS.me.hole i0 i1))
 clear eR cJ m7 pZ
 replace HS:=HS.me.C2 i0 i1 (.slice none 0 0) rfl
 obtain ⟨rC,gU,gX⟩:=HS.gen
 rw [gU]
 clear HS gU
 have HS:=gX
 clear gX
 replace HS:=HS.tg Kd.string 9
 replace HS:=HS.mE.back
 replace HS:=HS.vm.jw.jw.vm.jw.jR.jw
 try go_wp2
 go_loopg [23] P.length (fun kq v23 w'=>∃(j:Nat) (sD sy pe:List (List ByteArray)),v23= .int .i64 (j:Int)∧Aside0 (bB.l0 k i z (P.drop j) ⟨ks,sD,sy,pe,sd⟩=some m)∧j≤P.length∧P.length-j≤kq∧pe.length=ib.length∧Sep w0 w' (bA b2 #[.slice (some ⟨g0,0,none⟩) ks.length q0,.slice (some ⟨g1,0,none⟩) ps.length q1,.slice A2 ss.length c2,.slice (some ⟨g3,0,none⟩) ib.length q3,.int .i64 sd] 27::bA b4 #[.slice none 0 0,.slice none 0 0,.slice none 0 0,.slice none 0 0,.int .i64 0] 27::rA KI 3 (.slice (some ⟨g0,0,none⟩) ks.length q0) ks::sA KT 62 (.slice (some ⟨g1,0,none⟩) ps.length q1) sD::sA KT 62 (.slice A2 ss.length c2) sy::sA KT 62 (.slice (some ⟨g3,0,none⟩) ib.length q3) pe::rA Kd.string 9 (.slice AP P.length qP) P::L))
 case atStart=>exact ⟨0,_,_,_,rfl,H',Nat.zero_le _,Nat.le_refl _,rfl,HS⟩
 case round=>
  clear HS H'
  obtain ⟨j,sD,sy,pe,rfl,HA,j1,j2,ER,HS⟩:=hrel
  have h:=HA.out;clear HA
  by_cases hj:j<P.length
  ·obtain ⟨s,hsj⟩:∃s,aQ ByteArray.empty P (j:Int)=s:=⟨_,rfl⟩
   have hd:P.drop j=s::P.drop (j+1):=by rw [←hsj,List.drop_eq_getElem_cons hj];simp [aQ,List.getD_eq_getElem?_getD,List.getElem?_eq_getElem hj]
   rw [hd] at h
   simp only [bB.l0] at h
   rw [if_pos i2] at h
   replace h:=bS h;obtain ⟨⟨x,y,b,o⟩,T1,h⟩:=h
   obtain ⟨gP,qP',e⟩:=HS.uN 6 (hx:=by omega)
   obtain rfl:AP=some ⟨gP,0,none⟩:=by injection e
   clear e
   have Li:decide ((j:Int)<(P.length:Int))=true:=decide_eq_true (by omega)
   have pj0:(0≤(j:Int))=True:=eq_true (by omega)
   have pj1:((j:Int)<(P.length:Int))=True:=eq_true (by omega)
   have Wq:=HS.cellS 6 (n:=P.length) (j:Int) (by omega) (by omega)
   rw [hsj] at Wq
   rw [Int.toNat_natCast] at Wq
   have Wz:=HS.Fa 2 i i0 i2
   have cJ:=an (HS.aI 0)
   go_upto_region 7 with (first|(go_at_call 88;refine (dX.calls k _ _ x y b o _ T1.out).mono ?_;rintro e W_ ⟨rfl,aW⟩;replace HS:=HS.below aW;clear aW Wq Wz;clear cJ;have cJ:=an (HS.aI 0);have Wz:=HS.Fa 2 i i0 i2)|((with_reducible refine av (N:=8) rfl ?_);refine bN 8 #[.int .i64 0,.string (⟨#[]⟩:ByteArray),.string (⟨#[]⟩:ByteArray)] 105 ?_;intro b8 bK W_ bD aW;replace HS:=HS.box bK bD aW;clear bK bD aW;clear cJ;have kZ:=ck (HS.aI 0);clear Wz;clear kZ;have cJ:=an (HS.aI 1);have kZ:=ck (HS.aI 0)))
   clear cJ kZ
   obtain ⟨rC,gU,gX⟩:=(((HS.cq 0 0 (.int .i64 x) #[.int .i64 x,.string (⟨#[]⟩:ByteArray),.string (⟨#[]⟩:ByteArray)]).cq 0 1 (.string y) #[.int .i64 x,.string y,.string (⟨#[]⟩:ByteArray)]).cq 0 2 (.string b) #[.int .i64 x,.string y,.string b]).gen
   rw [gU]
   clear HS gU
   have HS:=gX
   clear gX
   have cJ:=an (HS.aI 1)
   have kZ:=ck (HS.aI 0)
   go_upto_region 9 with fail
   generalize wrap64 (x-2)=u at h⊢
   cases o with
   |false=>
    rw [if_pos rfl] at h
    go_wp2
    replace HS:=HS.tail
    go_roundg (P.length-(j+1))
    case measure=>omega
    case rel=>exact ⟨j+1,sD,sy,pe,gZ hj I4.out,⟨h⟩,hj,Nat.le_refl _,ER,HS⟩
   |true=>
    rw [if_neg (by decide)] at h
    cases z with
    |false=>
     rw [if_pos rfl] at h
     by_cases hx:x=1
     ·rw [if_pos hx] at h
      have Wh:(x==1)=true:=beq_iff_eq.2 hx
      clear hx
      replace h:=bS h;obtain ⟨⟨Ny,KR,Ky,NP,KJ⟩,T3,h⟩:=h
      obtain ⟨e1,e2,e3⟩:=bQ.keeps T3.out
      dsimp only at e1 e2 e3
      replace e1:=e1.symm;replace e2:=e2.symm;replace e3:=e3.symm
      subst e1 e2 e3
      go_wp2_with (first|(go_at_call 89;have cE:=bQ.calls (n:=⟨ks,sD,sy,pe,sd⟩) (HS.jw.jw.jw.jw) T3.out;refine cE.mono ?_;clear cE;rintro e W_ ⟨rfl,fX⟩;clear HS;have HS:=fX;clear fX;dsimp only [eO,List.cons_append,List.nil_append] at HS;clear cJ kZ;have cJ:=an (HS.aI 5);have kZ:=ck (HS.aI 4)))
      replace HS:=HS.jR.VQ (.slice (some ⟨g0,0,none⟩) ks.length q0) (.slice (some ⟨g1,0,none⟩) ps.length q1) (.slice A2 ss.length c2) (.slice (some ⟨g3,0,none⟩) ib.length q3) (.int .i64 sd)
      replace HS:=HS.jR.tail
      go_roundg (P.length-(j+1))
      case measure=>omega
      case rel=>exact ⟨j+1,KR,Ky,pe,gZ hj I4.out,⟨h⟩,hj,Nat.le_refl _,ER,HS.jw.jR.jR.jR.jR.jw.jw⟩
     ·rw [if_neg hx] at h
      have Wh:(x==1)=false:=beq_eq_false_iff_ne.2 hx
      clear hx
      go_wp2
      replace HS:=HS.tail
      go_roundg (P.length-(j+1))
      case measure=>omega
      case rel=>exact ⟨j+1,sD,sy,pe,gZ hj I4.out,⟨h⟩,hj,Nat.le_refl _,ER,HS⟩
    |true=>
     rw [if_neg (by decide)] at h
     replace h:=bS h;obtain ⟨c,T2,h⟩:=h
     rcases Bool.eq_false_or_eq_true (x==1) with Wh|Wh
     all_goals
      cases c with
      |false=>
       rw [if_pos rfl] at h
       go_wp2_with (first|(go_at_call 79;refine (bE.calls _ _ _ _ _ T2.out).mono ?_;rintro e W_ ⟨rfl,iC,rfl⟩;replace HS:=HS.drewN iC;generalize World.drewN _ iC=W_ at HS⊢;clear cJ kZ;have cJ:=an (HS.aI 1);have kZ:=ck (HS.aI 0)))
       replace HS:=HS.tail
       go_roundg (P.length-(j+1))
       case measure=>omega
       case rel=>exact ⟨j+1,sD,sy,pe,gZ hj I4.out,⟨h⟩,hj,Nat.le_refl _,ER,HS⟩
      |true=>
       rw [if_neg (by decide)] at h
       by_cases hb:b=(⟨#[]⟩:ByteArray)
       ·rw [if_pos hb] at h
        subst hb
        go_wp2_with (first|(go_at_call 79;refine (bE.calls _ _ _ _ _ T2.out).mono ?_;rintro e W_ ⟨rfl,iC,rfl⟩;replace HS:=HS.drewN iC;generalize World.drewN _ iC=W_ at HS⊢;clear cJ kZ;have cJ:=an (HS.aI 1);have kZ:=ck (HS.aI 0)))
        replace HS:=HS.tail
        go_roundg (P.length-(j+1))
        case measure=>omega
        case rel=>exact ⟨j+1,sD,sy,pe,gZ hj I4.out,⟨h⟩,hj,Nat.le_refl _,ER,HS⟩
       ·rw [if_neg hb] at h
        have hbb:=oe hb
        clear hb
        replace h:=dy h;obtain ⟨⟨u0,u1⟩,h⟩:=h
        rw [ER] at u1
        have pu0:(0≤u)=True:=eq_true u0
        have pu1:(u<(ib.length:Int))=True:=eq_true u1
        obtain ⟨AI,qI,HS,-,-⟩:=HS.jw.yS u u0 u1
        generalize hI:pe.getD u.toNat []=I at HS h
        have GI:=ak hI;clear hI
        clear cJ kZ
        have cJ:=an (HS.aI 3)
        have kZ:=ck (HS.aI 2)
        obtain ⟨ga,iF⟩:=HS.hole u0 u1
        by_cases hn:I.length<60
        ·rw [if_pos hn] at h
         have hnb:decide ((I.length:Int)<60)=true:=decide_eq_true (by omega)
         generalize hIb:I++[b]=I' at h
         go_upto_region 12 with (first|(go_at_call 79;refine (bE.calls _ _ _ _ _ T2.out).mono ?_;rintro e W_ ⟨rfl,iC,rfl⟩;replace HS:=HS.drewN iC;generalize World.drewN _ iC=W_ at HS⊢;clear cJ kZ ga iF;have cJ:=an (HS.aI 3);have kZ:=ck (HS.aI 2);obtain ⟨ga,iF⟩:=HS.hole u0 u1))
         clear cJ kZ ga iF
         have cJ:=an (HS.aI 3)
         have kZ:=ck (HS.aI 2)
         obtain ⟨ga,iF⟩:=HS.hole u0 u1
         refine dV (n:=14) (S:=fun w'=>w'.cell? ⟨b2,0,none⟩=some (.slice (some ⟨g0,0,none⟩) ks.length q0)∧w'.cell? ⟨b2,1,none⟩=some (.slice (some ⟨g1,0,none⟩) ps.length q1)∧w'.cell? ⟨b2,2,none⟩=some (.slice A2 ss.length c2)∧w'.cell? ⟨b2,3,none⟩=some (.slice (some ⟨g3,0,none⟩) ib.length q3)∧w'.cell? ⟨b2,4,none⟩=some (.int .i64 sd)∧w'.cell? ⟨b8,0,none⟩=some (.int .i64 x)∧w'.cell? ⟨b8,1,none⟩=some (.string y)∧w'.cell? ⟨b8,2,none⟩=some (.string b)∧w'.cell? ⟨g3,u.toNat,none⟩=some (.slice AI I.length qI)) (ds:=[13]) (bl 14 0) (by kernel_rfl) rfl rfl ⟨cJ.1,cJ.2.1,cJ.2.2.1,cJ.2.2.2.1,cJ.2.2.2.2.1,kZ.1,kZ.2.1,kZ.2.2.1,ga⟩ (fun ah=> ?_);refine bZ bB.aam bB.Yj (fun aA ef=> ?_)
         clear cJ kZ ga iF
         replace HS:=HS.drew
         generalize World.drew _=tD at HS ah⊢
         refine ag 0 (some 86) 14 1 aA ?_
         refine cg 1 (some 87) 14 3 aA ef ah ?_ (hy:=by rintro w' ⟨s0,s1,s2,s3,s4,s5,s6,s7,s8⟩;go_simp;with_reducible rfl)
         refine ag 2 (some 88) 14 7 aA ?_
         refine ag 3 (some 89) 14 15 aA ?_
         refine cg 4 (some 90) 14 31 aA ef ah ?_ (hy:=by rintro w' ⟨s0,s1,s2,s3,s4,s5,s6,s7,s8⟩;go_simp;with_reducible rfl)
         refine ag 5 (some 91) 14 63 aA ?_
         refine ag 6 (some 92) 14 127 aA ?_
         refine cg 7 (some 93) 14 255 aA ef ah ?_ (hy:=by rintro w' ⟨s0,s1,s2,s3,s4,s5,s6,s7,s8⟩;go_simp;with_reducible rfl)
         refine ag 8 (some 94) 14 511 aA ?_
         refine cg 9 (some 95) 14 1023 aA ef ah ?_ (hy:=by rintro w' ⟨s0,s1,s2,s3,s4,s5,s6,s7,s8⟩;go_simp;with_reducible rfl)
         refine fJ 10 (some 96) 14 2047 aA (fun K hK=> ?_)
         clear ah
         refine Kd.iJ Kd.string _ 9 ?hg (N:=96) ?hd (xs:=([b]:List ByteArray)) (inner:=[.string b]) (ok:=fun _=>True) (okp:=fun _=>True) ?hr ?hp (fun _ hk=>hk) trivial (Below.refl _ _) (Nat.le_refl _) (by simp) ?_
         (case hd=>rfl)
         (case hg=>rfl)
         (case hr=>first|(go_simp;done)|(go_simp;rfl))
         (case hp=>exact bT.one (show Kd.M Kd.string _ _ _ b [.string b] from rfl) (bT.none _ _))
         intro vU W_ bD aW _ _
         replace HS:=HS.new (A:=rA Kd.string 9 vU [b]) aW bD
         clear bD aW
         obtain ⟨AU,qU,rfl⟩:=HS.lz 0
         have cJ:=an (HS.aI 4)
         have kZ:=ck (HS.aI 3)
         obtain ⟨ga,iF⟩:=HS.mE.hole u0 u1
         refine hK.out _ _ ⟨cJ.1,cJ.2.1,cJ.2.2.1,cJ.2.2.2.1,cJ.2.2.2.2.1,kZ.1,kZ.2.1,kZ.2.2.1,ga⟩ (fun ah=> ?_)
         clear hK K cJ kZ ga iF
         refine cM (a':= ?_) ?_ ?_
         rotate_left
         ·show Act.put _ (some 96) _=_
          simp only [Act.put,List.setIfInBounds_toArray,List.set_cons_zero,List.set_cons_succ,bW,cA]
          rfl
         refine fJ 11 (some 97) 14 4095 aA (fun K hK=> ?_)
         clear ah
         have HU:=(HS.mA 0).2.2
         replace HS:=HS.me
         refine Sep.append Kd.string (by rfl) (.tmp 93) (.tmp 96) 62 9 (.string ⟨#[]⟩) 16 rfl Tryz.underlying62 fu rfl (by decide) (by omega) (.slice AI I.length qI) I [b] AU 1 qU rfl rfl HS HU (fun _ _ _ _ h=>h) (by omega) ?_
         clear HS HU
         intro vI W_ HS
         rw [hIb] at HS
         obtain ⟨Y6,VD,rfl⟩:=HS.lz 0
         have cJ:=an (HS.aI 4)
         have kZ:=ck (HS.aI 3)
         obtain ⟨ga,iF⟩:=HS.me.hole u0 u1
         refine hK.out _ _ ⟨cJ.1,cJ.2.1,cJ.2.2.1,cJ.2.2.2.1,cJ.2.2.2.2.1,kZ.1,kZ.2.1,kZ.2.2.1,ga⟩ (fun ah=> ?_)
         clear hK K cJ kZ ga iF
         refine cM (a':= ?_) ?_ ?_
         rotate_left
         ·show Act.put _ (some 97) _=_
          simp only [Act.put,List.setIfInBounds_toArray,List.set_cons_zero,List.set_cons_succ,bW,cA]
          rfl
         refine ag 12 (some 98) 14 8191 aA ?_
         refine lH (i:=13) (N:=none) (bl 14 16383) rfl rfl (jd aA.out (by kernel_rfl)) (by decide) (fun K hK=> ?_)
         clear ah
         obtain ⟨ga,iF⟩:=HS.me.hole u0 u1
         refine jV (w1:= ?_) (by rfl) rfl ?_ ?_
         rotate_left
         ·go_simp
          rfl
         clear ga iF
         replace HS:=HS.me.C2 u0 u1 (.slice Y6 I'.length VD) rfl
         refine hK.out _ _ ?_
         clear hK K
         refine eZ (cV aA.out (by kernel_rfl)) ?_
         clear aA ef
         obtain ⟨rC,gU,gX⟩:=HS.gen
         rw [gU]
         clear HS gU
         have HS:=gX
         clear gX
         replace HS:=HS.back
         have WB:(pe.set u.toNat I').length=ib.length:=by rw [List.length_set];exact ER
         go_wp2
         replace HS:=HS.me.tail
         replace HS:=HS.mE.tail
         go_roundg (P.length-(j+1))
         case measure=>omega
         case rel=>exact ⟨j+1,sD,sy,pe.set u.toNat I',gZ hj I4.out,⟨h⟩,hj,Nat.le_refl _,WB,HS.jw.mE.jw.jw.jw.jw.jw⟩
        ·rw [if_neg hn] at h
         have hnb:decide ((I.length:Int)<60)=false:=decide_eq_false (by omega)
         go_wp2_with (first|(go_at_call 79;refine (bE.calls _ _ _ _ _ T2.out).mono ?_;rintro e W_ ⟨rfl,iC,rfl⟩;replace HS:=HS.drewN iC;generalize World.drewN _ iC=W_ at HS⊢;clear cJ kZ ga iF;have cJ:=an (HS.aI 3);have kZ:=ck (HS.aI 2);obtain ⟨ga,iF⟩:=HS.hole u0 u1))
         replace HS:=HS.sP GI
         replace HS:=HS.mE.tail
         go_roundg (P.length-(j+1))
         case measure=>omega
         case rel=>exact ⟨j+1,sD,sy,pe,gZ hj I4.out,⟨h⟩,hj,Nat.le_refl _,ER,HS.jw.mE.jw.jw.jw.jw.jw⟩
  ·have hd:P.drop j=[]:=List.drop_eq_nil_of_le (by omega)
   rw [hd] at h
   simp only [bB.l0] at h
   obtain rfl:=Option.some.inj h
   have Li:decide ((j:Int)<(P.length:Int))=false:=decide_eq_false (by omega)
   have cJ:=an (HS.aI 0)
   have eR:=an (HS.aI 1)
   go_wp2
   have HF:=HS.mE.VQ (.slice (some ⟨g0,0,none⟩) ks.length q0) (.slice (some ⟨g1,0,none⟩) ps.length q1) (.slice A2 ss.length c2) (.slice (some ⟨g3,0,none⟩) ib.length q3) (.int .i64 sd)
   refine bodyPost_ret (results_cell_row rfl _ _ b4 27 #[.slice (some ⟨g0,0,none⟩) ks.length q0,.slice (some ⟨g1,0,none⟩) ps.length q1,.slice A2 ss.length c2,.slice (some ⟨g3,0,none⟩) ib.length q3,.int .i64 sd] (0,0) _ rfl (by exact (HF.aI 0).out) Tryz.underlying27 rfl (by kernel_rfl)) rfl ?_
   replace HS:=HF
   replace HS:=HS.tail
   replace HS:=HS.tail
   replace HS:=HS.j9.tail
   exact ⟨rfl,HS⟩
theorem bB.oh {k:Nat} {i:Int} {z:Bool} :∀ {P:List ByteArray} {n m:Nt},bB.l0 k i z P n=some m→m.ks=n.ks∧m.sd=n.sd
 |[],n,m,h=>by
  simp only [bB.l0] at h
  obtain rfl:=Option.some.inj h
  exact ⟨rfl,rfl⟩
 |s::r,n,m,h=>by
  have ih:∀n':Nt,bB.l0 k i z r n'=some m→m.ks=n'.ks∧m.sd=n'.sd:=fun n' h'=>bB.oh h'
  simp only [bB.l0] at h
  replace h:=dy h;obtain ⟨-,h⟩:=h
  replace h:=bS h;obtain ⟨⟨x,y,b,o⟩,-,h⟩:=h
  dsimp only at h
  repeat' split at h
  all_goals
   first
   |exact ih _ h
   |(replace h:=bS h;obtain ⟨n',T,h⟩:=h;obtain ⟨e1,e2,e3⟩:=bQ.keeps T.out;have:=ih _ h;exact ⟨this.1.trans e1,this.2.trans e3⟩)
   |(replace h:=bS h;obtain ⟨c,-,h⟩:=h;(repeat' split at h);(all_goals first|exact ih _ h|(have h2:=ih _ h;exact h2)|cases h))
theorem bB.keeps {k:Nat} {n m:Nt} {i:Int} (h:bB.f k n i=some m):m.ks=n.ks∧m.sd=n.sd:=by
 unfold bB.f at h
 replace h:=dy h;obtain ⟨-,h⟩:=h
 exact bB.oh (n:=⟨n.ks,n.ps.set i.toNat [],n.ss,n.ib,n.sd⟩) h
theorem aj.KZ {k:Nat} {v0 v1 v2 v3:Value} {n:Nt} {r:Bool} {w:World} (hn:NC w v0 v1 v2 v3 n) (h:aj.f k n.ks n.ps n.ss n.ib n.sd=some r):
    Calls Tryz.prog 42 #[.agg #[v0,v1,v2,v3,.int .i64 n.sd]] w fun e w'=>e= .returned (.bool r)∧Below w.heap.size w w':=by
  obtain ⟨A0,c0,A1,c1,A2,c2,A3,c3,⟨rfl,rfl,rfl,rfl⟩,⟨x0,y0⟩,⟨x1,y1⟩,⟨x2,y2⟩,⟨x3,y3⟩⟩:=hn
  exact aj.calls k A0 c0 n.ks A1 c1 n.ps A2 c2 n.ss A3 c3 n.ib n.sd r w x0 y0 x1 y1 x2 y2 x3 y3 h
def dW.l0 (k:Nat):Nat→Nat→Nt→Option Nt
 |0,_,n=>some n
 |d+1,j,n=>(bB.f k n (j:Int)).bind fun n'=>dW.l0 k d (j+1) n'
def dW.f (k:Nat) (n:Nt):Option (Nt×Bool):=(aj.f k n.ks n.ps n.ss n.ib n.sd).bind fun g=>if g=false then some (⟨[],[],[],[],0⟩,false) else (cT.f k n).bind fun n1=>if n1.ks.length≤1048576 then (dW.l0 k n1.ks.length 0 n1).bind fun n2=>(cT.f k n2).bind fun n3=>some (n3,true) else none
theorem dW.calls {k:Nat} {v0 v1 v2 v3:Value} {n m:Nt} {r:Bool} {w:World} (hn:NC w v0 v1 v2 v3 n) (h:dW.f k n=some (m,r)):
    Calls Tryz.prog 9 #[.agg #[v0,v1,v2,v3,.int .i64 n.sd]] w (qc w m r):=by
 have lg:=Tryz.underlying27
 unfold dW.f at h
 obtain ⟨A0,c0,A1,c1,A2,c2,A3,c3,e_,x_⟩:=hn
 have HN:=ak (show NC w v0 v1 v2 v3 n from ⟨A0,c0,A1,c1,A2,c2,A3,c3,e_,x_⟩)
 obtain ⟨rfl,rfl,rfl,rfl⟩:=e_
 clear x_
 obtain ⟨ks,ps,ss,ib,sd⟩:=n
 dsimp only at HN h⊢
 have HS:=Sep.nil w
 replace h:=bS h;obtain ⟨g,T0,h⟩:=h
 cases g with
 |false=>
  rw [if_pos rfl] at h
  obtain ⟨rfl,rfl⟩:=(Prod.mk.injEq _ _ _ _).mp (Option.some.inj h)
  clear h
  go_enter Tryz.func9,Tryz.ntmps9
  go_wp2_with (first|((with_reducible refine av (N:=1) rfl ?_);refine bN 1 #[.slice A0 ks.length c0,.slice A1 ps.length c1,.slice A2 ss.length c2,.slice A3 ib.length c3,.int .i64 sd] 27 ?_;intro b1 bK W_ bD aW;replace HS:=HS.box bK bD aW;clear bK bD aW;have fY:=an (HS.aI 0))|((with_reducible refine av (N:=2) rfl ?_);refine bN 2 #[.slice none 0 0,.slice none 0 0,.slice none 0 0,.slice none 0 0,.int .i64 0] 27 ?_;intro b2 bK W_ bD aW;replace HS:=HS.box bK bD aW;clear bK bD aW;clear fY;have cJ:=an (HS.aI 0);clear cJ;have cJ:=an (HS.aI 0);have fY:=an (HS.aI 1))|(go_at_call 42;have cE:=aj.KZ (n:=⟨ks,ps,ss,ib,sd⟩) (HN.out.below HS.base) T0.out;refine cE.mono ?_;clear cE;rintro e W_ ⟨rfl,aW⟩;replace HS:=HS.below aW;clear aW;clear cJ fY;have cJ:=an (HS.aI 0);have fY:=an (HS.aI 1)))
  have HF:=HS.iw 0 (.slice none 0 0) (.slice none 0 0) (.slice none 0 0) (.slice none 0 0) (.int .i64 0)
  refine bodyPost_ret (cK rfl _ _ b2 27 #[.slice none 0 0,.slice none 0 0,.slice none 0 0,.slice none 0 0,.int .i64 0] (0,0) _ rfl (by exact (HF.aI 0).out) Tryz.underlying27 rfl (by kernel_rfl)) rfl ?_
  exact ⟨_,_,_,_,rfl,rU HF,HF.base⟩
 |true=>
  rw [if_neg (by decide)] at h
  replace h:=bS h;obtain ⟨⟨k1,p1,s1,i1,d1⟩,T1,h⟩:=h
  replace h:=dy h;obtain ⟨kl,h⟩:=h
  have KL:=ak kl;clear kl
  replace h:=bS h;obtain ⟨n2,T2,h⟩:=h
  go_enter Tryz.func9,Tryz.ntmps9
  go_upto_region 4 with (first|((with_reducible refine av (N:=1) rfl ?_);refine bN 1 #[.slice A0 ks.length c0,.slice A1 ps.length c1,.slice A2 ss.length c2,.slice A3 ib.length c3,.int .i64 sd] 27 ?_;intro b1 bK W_ bD aW;replace HS:=HS.box bK bD aW;clear bK bD aW;have fY:=an (HS.aI 0))|((with_reducible refine av (N:=2) rfl ?_);refine bN 2 #[.slice none 0 0,.slice none 0 0,.slice none 0 0,.slice none 0 0,.int .i64 0] 27 ?_;intro b2 bK W_ bD aW;replace HS:=HS.box bK bD aW;clear bK bD aW;clear fY;have cJ:=an (HS.aI 0);clear cJ;have cJ:=an (HS.aI 0);have fY:=an (HS.aI 1))|(go_at_call 42;have cE:=aj.KZ (n:=⟨ks,ps,ss,ib,sd⟩) (HN.out.below HS.base) T0.out;refine cE.mono ?_;clear cE;rintro e W_ ⟨rfl,aW⟩;replace HS:=HS.below aW;clear aW;clear cJ fY;have cJ:=an (HS.aI 0);have fY:=an (HS.aI 1))|(go_at_call 52;have cE:=cT.calls (n:=⟨ks,ps,ss,ib,sd⟩) (HN.out.below HS.base) T1.out;refine cE.mono ?_;clear cE;rintro e W_ ⟨u0,u1,u2,u3,rfl,ie,aW⟩;replace HS:=HS.news aW ie;clear ie aW;dsimp only [eO,List.cons_append,List.nil_append] at HS;obtain ⟨B0,r8,rfl⟩:=HS.lz 0;obtain ⟨B1,tG,rfl⟩:=HS.gY 1;obtain ⟨B2,wM,rfl⟩:=HS.gY 2;obtain ⟨B3,Ag,rfl⟩:=HS.gY 3;clear cJ fY;have cJ:=an (HS.aI 4);have fY:=an (HS.aI 5))|((with_reducible refine av (N:=4) rfl ?_);refine bN 4 #[.slice none 0 0,.slice none 0 0,.slice none 0 0,.slice none 0 0,.int .i64 0] 27 ?_;intro b4 bK W_ bD aW;replace HS:=HS.box bK bD aW;clear bK bD aW;clear cJ fY;have eR:=an (HS.aI 0);clear eR;have eR:=an (HS.aI 0)))
  clear eR
  obtain ⟨rC,gU,gX⟩:=(((((HS.cq 0 0 (.slice B0 k1.length r8) #[.slice B0 k1.length r8,.slice none 0 0,.slice none 0 0,.slice none 0 0,.int .i64 0]).cq 0 1 (.slice B1 p1.length tG) #[.slice B0 k1.length r8,.slice B1 p1.length tG,.slice none 0 0,.slice none 0 0,.int .i64 0]).cq 0 2 (.slice B2 s1.length wM) #[.slice B0 k1.length r8,.slice B1 p1.length tG,.slice B2 s1.length wM,.slice none 0 0,.int .i64 0]).cq 0 3 (.slice B3 i1.length Ag) #[.slice B0 k1.length r8,.slice B1 p1.length tG,.slice B2 s1.length wM,.slice B3 i1.length Ag,.int .i64 0]).cq 0 4 (.int .i64 d1) #[.slice B0 k1.length r8,.slice B1 p1.length tG,.slice B2 s1.length wM,.slice B3 i1.length Ag,.int .i64 d1]).gen
  rw [gU]
  clear HS gU
  have HS:=gX
  clear gX
  replace h:=bS h;obtain ⟨n3,T3,h⟩:=h
  obtain ⟨rfl,rfl⟩:=(Prod.mk.injEq _ _ _ _).mp (Option.some.inj h)
  clear h
  have H':=T2;clear T2
  have eR:=an (HS.aI 0)
  go_wp2
  clear eR
  go_loopg [15] k1.length (fun kq v15 w'=>∃(j:Nat) (sD sy pe:List (List ByteArray)),v15= .int .i64 (j:Int)∧Aside0 (dW.l0 k (k1.length-j) j ⟨k1,sD,sy,pe,d1⟩=some n2)∧j≤k1.length∧k1.length-j≤kq∧Sep w w' (bA b4 #[.slice B0 k1.length r8,.slice B1 p1.length tG,.slice B2 s1.length wM,.slice B3 i1.length Ag,.int .i64 d1] 27::bA b2 #[.slice none 0 0,.slice none 0 0,.slice none 0 0,.slice none 0 0,.int .i64 0] 27::bA b1 #[.slice A0 ks.length c0,.slice A1 ps.length c1,.slice A2 ss.length c2,.slice A3 ib.length c3,.int .i64 sd] 27::rA KI 3 (.slice B0 k1.length r8) k1::sA KT 62 (.slice B1 p1.length tG) sD::sA KT 62 (.slice B2 s1.length wM) sy::sA KT 62 (.slice B3 i1.length Ag) pe::[]))
  case atStart=>exact ⟨0,_,_,_,rfl,H',Nat.zero_le _,Nat.le_refl _,HS.j9.j9.j9.j9.jw.jw.jw⟩
  case round=>
   clear HS H'
   obtain ⟨j,sD,sy,pe,rfl,HA,j1,j2,HS⟩:=hrel
   have h:=HA.out;clear HA
   by_cases hj:j<k1.length
   ·have Li:decide ((j:Int)<(k1.length:Int))=true:=decide_eq_true (by omega)
    rw [show k1.length-j=(k1.length-(j+1))+1 from by omega] at h
    simp only [dW.l0] at h
    replace h:=bS h;obtain ⟨⟨Ny,KR,Ky,NP,KJ⟩,T1,h⟩:=h
    obtain ⟨e1,e3⟩:=bB.keeps T1.out
    dsimp only at e1 e3
    replace e1:=e1.symm;replace e3:=e3.symm
    subst e1 e3
    have eR:=an (HS.aI 0)
    go_wp2_with (first|(go_at_call 53;have cE:=bB.calls (n:=⟨k1,sD,sy,pe,d1⟩) (HS.jw.jw.jw.jw) T1.out;refine cE.mono ?_;clear cE;rintro e W_ ⟨rfl,fX⟩;clear HS;have HS:=fX;clear fX;dsimp only [eO,List.cons_append,List.nil_append] at HS;clear eR;have eR:=an (HS.aI 4)))
    replace HS:=HS.j9.VQ (.slice B0 k1.length r8) (.slice B1 p1.length tG) (.slice B2 s1.length wM) (.slice B3 i1.length Ag) (.int .i64 d1)
    go_roundg (k1.length-(j+1))
    case measure=>omega
    case rel=>exact ⟨j+1,_,_,_,gZ hj KL.out,⟨h⟩,hj,Nat.le_refl _,HS.j9.j9.j9.j9.jw.jw.jw⟩
   ·obtain rfl:j=k1.length:=by omega
    rw [Nat.sub_self] at h
    simp only [dW.l0] at h
    have Li:decide ((k1.length:Int)<(k1.length:Int))=false:=decide_eq_false (by omega)
    obtain rfl:=Option.some.inj h
    have eR:=an (HS.aI 0)
    have cJ:=an (HS.aI 1)
    go_wp2_with (first|(go_at_call 52;have cE:=cT.calls (n:=⟨k1,sD,sy,pe,d1⟩) (jW HS 3) T3.out;refine cE.mono ?_;clear cE;rintro e W_ ⟨z0,z1,z2,z3,rfl,ie,aW⟩;replace HS:=HS.news aW ie;clear ie aW;dsimp only [eO,List.cons_append,List.nil_append] at HS;obtain ⟨E0,f0,rfl⟩:=HS.lz 0;obtain ⟨E1,f1,rfl⟩:=HS.gY 1;obtain ⟨E2,f2,rfl⟩:=HS.gY 2;obtain ⟨E3,f3,rfl⟩:=HS.gY 3;clear eR cJ;have eR:=an (HS.aI 4);have cJ:=an (HS.aI 5)))
    have HF:=HS.iw 5 (.slice E0 n3.ks.length f0) (.slice E1 n3.ps.length f1) (.slice E2 n3.ss.length f2) (.slice E3 n3.ib.length f3) (.int .i64 n3.sd)
    refine bodyPost_ret (cK rfl _ _ b2 27 #[.slice E0 n3.ks.length f0,.slice E1 n3.ps.length f1,.slice E2 n3.ss.length f2,.slice E3 n3.ib.length f3,.int .i64 n3.sd] (0,0) _ rfl (by exact (HF.aI 5).out) Tryz.underlying27 rfl (by kernel_rfl)) rfl ?_
    replace HS:=HF
    have HF:=HS
    exact ⟨_,_,_,_,rfl,ld HF,HF.base⟩
def bk.f (a0:Int) (a1:Int) (a2:Int):Option (Bool):=if a0≥a1 then (some (decide (a0≤a2))) else (some false)
theorem bk.calls (a0:Int) (a1:Int) (a2:Int) (r:Bool) (w:World) (h:bk.f a0 a1 a2=some r):
  Calls Tryz.prog 70 #[.int .i64 a0,.int .i64 a1,.int .i64 a2] w fun e w'=>e= .returned (.bool r)∧cQ w w':=by
 have H:(if a0≥a1 then (some (decide (a0≤a2))) else (some false))=some r:=h
 clear h
 by_cases c4:a0≥a1
 ·rw [if_pos c4] at H
  have jn:=geT c4
  clear c4
  obtain rfl:=Option.some.inj H
  go_enter Tryz.func70,Tryz.ntmps70
  go_wp2
  go_ret
  exact ⟨er,gV⟩
 ·rw [if_neg c4] at H
  have jn:=geF c4
  clear c4
  obtain rfl:=Option.some.inj H
  go_enter Tryz.func70,Tryz.ntmps70
  go_wp2
  go_ret
  exact ⟨er,gV⟩
def dO.l0:Nat→Int→Int→List Int→Int→Int→Option (Bool)
  |0,_,_,_,_,_=>none
  |k+1,x1,x2,x9,iO,qE=>if qE<iO then (if 0≤qE then (if qE<(x9.length:Int) then ((bk.f (rd x9 qE) x1 x2).bind fun t182=>(if t182=true then (dO.l0 k x1 x2 x9 iO (wrap64 (qE+1))) else (some false))) else (none)) else (none)) else (some true)
def dO.f (k:Nat) (l0:List Int) (a1:Int) (a2:Int):Option (Bool):=dO.l0 k a1 a2 l0 (l0.length:Int) 0
theorem dO.calls (k:Nat) (A0:Option Addr) (c0:Nat) (l0:List Int) (a1:Int) (a2:Int) (r:Bool) (w:World) (ff:Kd.C (Kd.int .i64) w A0 l0.length l0) (fL:l0.length≤c0) (h:dO.f k l0 a1 a2=some r):
  Calls Tryz.prog 102 #[.slice A0 l0.length c0,.int .i64 a1,.int .i64 a2] w fun e w'=>e= .returned (.bool r)∧cQ w w':=by
 have fZ:=ak ff;have ki:=ak fL;clear ff fL
 have H:(dO.l0 k a1 a2 l0 (l0.length:Int) 0)=some r:=h
 clear h
 have H':=ak H
 clear H
 go_enter Tryz.func102,Tryz.ntmps102
 go_wp2
 go_loopg [11] k (fun kq v11 w'=>∃(fW:Int),v11= .int .i64 fW∧Aside0 (dO.l0 kq a1 a2 l0 (l0.length:Int) fW=some r)∧Aside0 (kq≤k)∧cQ w w')
 case atStart=>exact ⟨(0),er,H',⟨Nat.le_refl _⟩,gV⟩
 case round=>
  clear H'
  obtain ⟨fW,rfl,HA,gf,⟨m1,rfl⟩⟩:=hrel
  cases gk with
  |zero=>exact absurd HA.out (by simp [dO.l0])
  |succ k1=>
   have H:=HA.out;clear HA
   simp only [dO.l0] at H
   by_cases c4:fW<(l0.length:Int)
   ·rw [if_pos c4] at H
    have jn:=decide_eq_true c4
    clear c4;replace H:=dy H;obtain ⟨c5,H⟩:=H;have mh:=decide_eq_true c5;clear c5;replace H:=dy H;obtain ⟨c6,H⟩:=H;have kO:=decide_eq_true c6;clear c6;replace H:=bS H;obtain ⟨t182,A7,H⟩:=H
    by_cases c8:t182=true
    ·subst c8
     have H1:(dO.l0 k1 a1 a2 l0 (l0.length:Int) (wrap64 (fW+1)))=some r:=by rw [if_pos rfl] at H;exact H
     clear H
     have H:=H1
     clear H1
     have H':=ak H
     clear H
     obtain ⟨afU,afE,acU,XQ,RP⟩:=ng (Kd.jS fZ.out fW)
     cases XQ
     go_wp2_with (first|(go_at_call 70;(with_reducible refine (bk.calls (rd l0 fW) a1 a2 true _ A7.out).mono ?_);rintro e w' ⟨rfl,⟨nd,rfl⟩⟩))
     go_roundg k1
     case measure=>have:=gf.out;omega
     case rel=>exact ⟨(wrap64 (fW+1)),er,H',⟨by have:=gf.out;omega⟩,gV⟩
    ·replace c8:=Bool.eq_false_iff.mpr c8
     subst c8
     have H1:(some false)=some r:=by rw [if_neg (show¬(false=true) by decide)] at H;exact H
     clear H
     have H:=H1
     clear H1
     obtain rfl:=Option.some.inj H
     obtain ⟨afU,afE,acU,XQ,RP⟩:=ng (Kd.jS fZ.out fW)
     cases XQ
     go_wp2_with (first|(go_at_call 70;(with_reducible refine (bk.calls (rd l0 fW) a1 a2 false _ A7.out).mono ?_);rintro e w' ⟨rfl,⟨nd,rfl⟩⟩))
     go_ret
     exact ⟨er,gV⟩
   ·rw [if_neg c4] at H
    have jn:=decide_eq_false c4
    clear c4
    obtain rfl:=Option.some.inj H
    go_wp2
    go_ret
    exact ⟨er,gV⟩
def eX.f (k:Nat) (l0:List Int):Option (Bool):=if (l0.length:Int)≤8 then ((dO.f k l0 0 65535).bind fun t183=>(some t183)) else (some false)
theorem eX.calls (k:Nat) (A0:Option Addr) (c0:Nat) (l0:List Int) (r:Bool) (w:World) (ff:Kd.C (Kd.int .i64) w A0 l0.length l0) (fL:l0.length≤c0) (h:eX.f k l0=some r):
  Calls Tryz.prog 71 #[.slice A0 l0.length c0] w fun e w'=>e= .returned (.bool r)∧cQ w w':=by
 have fZ:=ak ff;have ki:=ak fL;clear ff fL
 have H:(if (l0.length:Int)≤8 then ((dO.f k l0 0 65535).bind fun t183=>(some t183)) else (some false))=some r:=h
 clear h
 by_cases c2:(l0.length:Int)≤8
 ·rw [if_pos c2] at H
  have o5:=decide_eq_true c2
  have Fj:decide (l0.length≤8)=true:=decide_eq_true (by omega)
  clear c2;replace H:=bS H;obtain ⟨t183,A3,H⟩:=H
  obtain rfl:=Option.some.inj H
  go_enter Tryz.func71,Tryz.ntmps71
  go_wp2_with (first|(go_at_call 102;(with_reducible refine (dO.calls k _ _ l0 0 65535 t183 _ ?side1 ?side2 A3.out).mono ?_);(case side1=>exact cd fZ.out);(case side2=>exact ki.out);rintro e w' ⟨rfl,⟨nd,rfl⟩⟩))
  go_ret
  exact ⟨er,gV⟩
 ·rw [if_neg c2] at H
  have o5:=decide_eq_false c2
  have Fj:decide (l0.length≤8)=false:=decide_eq_false (by omega)
  clear c2
  obtain rfl:=Option.some.inj H
  go_enter Tryz.func71,Tryz.ntmps71
  go_wp2
  go_ret
  exact ⟨er,gV⟩
def cS.l0:Nat→List ByteArray→List ByteArray→Int→Int→Option (Bool)
  |0,_,_,_,_=>none
  |k+1,x0,x5,x6,x7=>if x7<x6 then (if 0≤x7 then (if x7<(x5.length:Int) then (if ((aQ ByteArray.empty x5 x7).size:Int)=24 then (if x7>0 then (if 0≤(wrap64 (x7-1)) then (if (wrap64 (x7-1))<(x0.length:Int) then (if ((Op.bytesLess ((aQ ByteArray.empty x0 (wrap64 (x7-1))).toList) ((aQ ByteArray.empty x5 x7).toList))=true) then (cS.l0 k x0 x5 x6 (wrap64 (x7+1))) else (some false)) else (none)) else (none)) else (cS.l0 k x0 x5 x6 (wrap64 (x7+1)))) else (some false)) else (none)) else (none)) else (some (decide ((x0.length:Int)≤100)))
def cS.f (k:Nat) (l0:List ByteArray):Option (Bool):=cS.l0 k l0 l0 (l0.length:Int) 0
theorem cS.calls (k:Nat) (A0:Option Addr) (c0:Nat) (l0:List ByteArray) (r:Bool) (w:World) (ff:Kd.C Kd.string w A0 l0.length l0) (fL:l0.length≤c0) (h:cS.f k l0=some r):
  Calls Tryz.prog 72 #[.slice A0 l0.length c0] w fun e w'=>e= .returned (.bool r)∧cQ w w':=by
 have fZ:=ak ff;have ki:=ak fL;clear ff fL
 have H:(cS.l0 k l0 l0 (l0.length:Int) 0)=some r:=h
 clear h
 have H':=ak H
 clear H
 go_enter Tryz.func72,Tryz.ntmps72
 go_wp2
 go_loopg [7] k (fun kq v7 w'=>∃(dD:Int),v7= .int .i64 dD∧Aside0 (cS.l0 kq l0 l0 (l0.length:Int) dD=some r)∧Aside0 (kq≤k)∧cQ w w')
 case atStart=>exact ⟨(0),er,H',⟨Nat.le_refl _⟩,gV⟩
 case round=>
  clear H'
  obtain ⟨dD,rfl,HA,gf,⟨m1,rfl⟩⟩:=hrel
  cases gk with
  |zero=>exact absurd HA.out (by simp [cS.l0])
  |succ k1=>
   have H:=HA.out;clear HA
   simp only [cS.l0] at H
   by_cases c2:dD<(l0.length:Int)
   ·rw [if_pos c2] at H
    have o5:=decide_eq_true c2
    clear c2;replace H:=dy H;obtain ⟨c3,H⟩:=H;have jX:=decide_eq_true c3;clear c3;replace H:=dy H;obtain ⟨c4,H⟩:=H;have jn:=decide_eq_true c4;clear c4
    by_cases c5:((aQ ByteArray.empty l0 dD).size:Int)=24
    ·rw [if_pos c5] at H
     have mh:=lO c5
     have OS:=mR c5
     clear c5
     by_cases c6:dD>0
     ·rw [if_pos c6] at H
      have kO:=Ma c6
      clear c6
      obtain ⟨nJ,vM⟩:∃j_:Int,(wrap64 (dD-1))=j_:=⟨_,rfl⟩
      replace H:(if 0≤(nJ) then (if (nJ)<(l0.length:Int) then (if ((Op.bytesLess ((aQ ByteArray.empty l0 (nJ)).toList) ((aQ ByteArray.empty l0 dD).toList))=true) then (cS.l0 k1 l0 l0 (l0.length:Int) (wrap64 (dD+1))) else (some false)) else (none)) else (none))=some r:=by first|(rw [vM] at H;exact H)|(simp only [vM] at H⊢;exact H)
      have TI:(IntKind.i64.wrap (dD-1))=nJ:=(bW _).trans vM
      replace H:=dy H;obtain ⟨c8,H⟩:=H;have xw:=decide_eq_true c8;clear c8;replace H:=dy H;obtain ⟨c9,H⟩:=H;have mg:=decide_eq_true c9;clear c9
      by_cases gW:((Op.bytesLess ((aQ ByteArray.empty l0 (nJ)).toList) ((aQ ByteArray.empty l0 dD).toList))=true)
      ·rw [if_pos gW] at H
       have kY:(Op.bytesLess ((aQ ByteArray.empty l0 (nJ)).toList) ((aQ ByteArray.empty l0 dD).toList))=true:=gW
       clear gW
       have H':=ak H
       clear H
       obtain ⟨Cv,Cp,Fy,Hz,CY⟩:=ng (Kd.bq fZ.out dD)
       cases Hz
       have GB:0≤((nJ):Int):=da
       have Gl:(nJ)<(l0.length:Int):=da
       obtain ⟨Pm,XP,RO⟩:=Kd.bq fZ.out (nJ) GB Gl
       obtain rfl:Fy=Pm:=(by injection XP)
       replace GB:=eq_true GB;replace Gl:=eq_true Gl;go_wp2
       go_roundg k1
       case measure=>have:=gf.out;omega
       case rel=>exact ⟨(wrap64 (dD+1)),er,H',⟨by have:=gf.out;omega⟩,gV⟩
      ·rw [if_neg gW] at H
       have kY:(Op.bytesLess ((aQ ByteArray.empty l0 (nJ)).toList) ((aQ ByteArray.empty l0 dD).toList))=false:=by simpa using gW
       clear gW
       obtain rfl:=Option.some.inj H
       obtain ⟨Cv,Cp,Fy,Hz,CY⟩:=ng (Kd.bq fZ.out dD)
       cases Hz
       have GB:0≤((nJ):Int):=da
       have Gl:(nJ)<(l0.length:Int):=da
       obtain ⟨Pm,XP,RO⟩:=Kd.bq fZ.out (nJ) GB Gl
       obtain rfl:Fy=Pm:=(by injection XP)
       replace GB:=eq_true GB;replace Gl:=eq_true Gl;go_wp2
       go_ret
       exact ⟨by first|rfl|(simp;done)|(simp only [←vM]<;>(first|rfl|simp))|(simp [*];done),gV⟩
     ·rw [if_neg c6] at H
      have kO:=Mb c6
      clear c6
      have H':=ak H
      clear H
      have Cv:0≤(dD:Int):=da
      have Cp:dD<(l0.length:Int):=da
      obtain ⟨Fy,Hz,CY⟩:=Kd.bq fZ.out dD Cv Cp
      cases Hz
      replace Cv:=eq_true Cv;replace Cp:=eq_true Cp;go_wp2
      go_roundg k1
      case measure=>have:=gf.out;omega
      case rel=>exact ⟨(wrap64 (dD+1)),er,H',⟨by have:=gf.out;omega⟩,gV⟩
    ·rw [if_neg c5] at H
     have mh:=lq c5
     have OS:=mj c5
     obtain rfl:=Option.some.inj H
     have Cv:0≤(dD:Int):=da
     have Cp:dD<(l0.length:Int):=da
     obtain ⟨Fy,Hz,CY⟩:=Kd.bq fZ.out dD Cv Cp
     cases Hz
     replace Cv:=eq_true Cv;replace Cp:=eq_true Cp;go_wp2
     go_ret
     exact ⟨er,gV⟩
   ·rw [if_neg c2] at H
    have o5:=decide_eq_false c2
    clear c2
    obtain rfl:=Option.some.inj H
    go_wp2
    go_ret
    exact ⟨er,gV⟩
end Go.Proofs.YtihekdlcfohkkaaGreatDoor.QFnNets
