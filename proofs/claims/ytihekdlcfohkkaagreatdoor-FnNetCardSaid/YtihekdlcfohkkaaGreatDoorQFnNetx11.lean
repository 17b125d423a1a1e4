-- printed by this session's own program (wip/tools/pp.py: the kit's print.py with changes); Lean checks it
import Derived.Test.YtihekdlcfohkkaaGreatDoorQFnNetx0
import Derived.Test.YtihekdlcfohkkaaGreatDoorQFnNetx1
import Derived.Test.YtihekdlcfohkkaaGreatDoorQFnNetx10
namespace Go.Proofs.YtihekdlcfohkkaaGreatDoor.QFnNet
open Go.RowKit Go.Proofs.YtihekdlcfohkkaaGreatDoorW.PrintWords Go.Proofs.YtihekdlcfohkkaaGreatDoorW.PrintLast Go.Proofs.YtihekdlcfohkkaaGreatDoorW.PrintMore
attribute [local go_sem] max2_int min2_int max_two min_two max_three min_three max_four min_four strLss strGtr strLeq strGeq
set_option linter.unusedVariables false
set_option linter.unusedSimpArgs false
set_option maxHeartbeats 16000000
set_option maxRecDepth 100000
def dR.f (bM:List Int) (ez:Int) (fC:Int) (a1:Int):Option (Bool×Int×Int):=(aJ.f bM ez fC a1).bind fun yx=>(some ((yx.1==0),yx.2.1,yx.2.2))
theorem dR.calls (g:Nat) (bM:List Int) (ez:Int) (fC:Int) (a1:Int) (r1:Bool) (r2:Int) (r3:Int) (w0 w:World) (hI:au w0 w g bM ez fC) (hB:Below w0.heap.size w0 w) (h:dR.f bM ez fC a1=some (r1,r2,r3)):
  Calls Tryz.prog 77 #[.pointer (some ⟨g,0,none⟩),.int .i64 a1] w fun e w'=>e= .returned (.bool r1)∧au w0 w' g bM r2 r3∧Below w0.heap.size w0 w'∧aN w w' g none:=by
 have dH:=ak hI
 have HK:=ak (aN.refl w g none)
 have HL:=ak hB.size
 clear hI
 have Iw:=ak hB.size
 have HB:=ak hB;clear hB
 have H:((aJ.f bM ez fC a1).bind fun yx=>(some ((yx.1==0),yx.2.1,yx.2.2)))=some (r1,r2,r3):=h
 clear h;replace H:=bS H;obtain ⟨⟨acu,acs,acr⟩,A3,H⟩:=H
 dsimp only at H
 simp only [Option.some.injEq,Prod.mk.injEq] at H
 obtain ⟨rfl,rfl,rfl⟩:=H
 go_enter Tryz.func77,Tryz.ntmps77
 go_wp2_with (first|(go_at_call 78;(with_reducible refine (aJ.calls g bM ez fC a1 acu acs acr w0 _ ?side1 ?side2 A3.out).mono ?_);(case side1=>exact au.d dH);(case side2=>exact au.b HB dH);rintro e w4 ⟨rfl,hi,hb,hk⟩;replace HK:=ak (aN.trans (mo HK) hk (.inl rfl));replace HB:=ak (hb);replace dH:=ak (hi);(try clear hb);(try clear hk);(try clear hi)))
 go_ret
 exact ⟨jT,au.d dH,au.b HB dH,mo HK⟩
def cB.f (bM:List Int) (ez:Int) (fC:Int) (l1:List Int):Option (Int×Int×Int):=(aJ.f bM ez fC (l1.length:Int)).bind fun qK=>(if 0≤qK.1 then (if qK.1<(l1.length:Int) then (some (rd l1 qK.1,qK.2.1,qK.2.2)) else (none)) else (none))
theorem cB.calls (g:Nat) (bM:List Int) (ez:Int) (fC:Int) (A1:Option Addr) (c1:Nat) (l1:List Int) (r1:Int) (r2:Int) (r3:Int) (w0 w:World) (hI:au w0 w g bM ez fC) (hB:Below w0.heap.size w0 w) (nY:Kd.C (Kd.int .i64) w A1 l1.length l1) (mY:l1.length≤c1) (Ec:∀ad,A1=some ad→0<l1.length→ad.block≠g) (h:cB.f bM ez fC l1=some (r1,r2,r3)):
  Calls Tryz.prog 100 #[.pointer (some ⟨g,0,none⟩),.slice A1 l1.length c1] w fun e w'=>e= .returned (.int .i64 r1)∧au w0 w' g bM r2 r3∧Below w0.heap.size w0 w'∧aN w w' g none:=by
 have pX:=ak nY;have Ed:=ak mY;clear nY mY;have dH:=ak hI
 have HK:=ak (aN.refl w g none)
 have HL:=ak hB.size
 clear hI
 have Iw:=ak hB.size
 have HB:=ak hB;clear hB
 have H:((aJ.f bM ez fC (l1.length:Int)).bind fun qK=>(if 0≤qK.1 then (if qK.1<(l1.length:Int) then (some (rd l1 qK.1,qK.2.1,qK.2.2)) else (none)) else (none)))=some (r1,r2,r3):=h
 clear h;replace H:=bS H;obtain ⟨⟨Oy,acq,acp⟩,A3,H⟩:=H
 dsimp only at H
 replace H:=cZ H;obtain ⟨c4,H⟩:=H;have iI:=decide_eq_true c4;clear c4;replace H:=cZ H;obtain ⟨c5,H⟩:=H;have jg:=decide_eq_true c5;clear c5
 simp only [Option.some.injEq,Prod.mk.injEq] at H
 obtain ⟨rfl,rfl,rfl⟩:=H
 go_enter Tryz.func100,Tryz.ntmps100
 go_wp2_with (first|(go_at_call 78;(with_reducible refine (aJ.calls g bM ez fC (l1.length:Int) Oy acq acp w0 _ ?side1 ?side2 A3.out).mono ?_);(case side1=>exact au.d dH);(case side2=>exact au.b HB dH);rintro e w6 ⟨rfl,hi,hb,hk⟩;replace HK:=ak (aN.trans (mo HK) hk (.inl rfl));replace HB:=ak (hb);replace dH:=ak (hi);(try clear hb);(try clear hk);(try clear hi);have Ta:0≤(Oy:Int):=da;have SU:Oy<(l1.length:Int):=da;obtain ⟨Z3,aew,G9⟩:=Kd.jA pX.out Oy Ta SU;cases aew;replace G9:=q7 HK.out G9 (by first|(rw [aX];exact Ec _ rfl (by omega))|exact Ec _ rfl (by omega)|exact Ec Z3 rfl (by omega));replace Ta:=eq_true Ta;replace SU:=eq_true SU))
 go_ret
 exact ⟨jT,au.d dH,au.b HB dH,mo HK⟩
def jd.f (bM:List Int) (ez:Int) (fC:Int):Option (Int×Int×Int):=(aJ.f bM ez fC 256).bind fun yw=>((aJ.f bM yw.2.1 yw.2.2 256).bind fun yu=>((aJ.f bM yu.2.1 yu.2.2 256).bind fun yt=>((aJ.f bM yt.2.1 yt.2.2 256).bind fun yq=>((cB.f bM yq.2.1 yq.2.2 (([0,1,65535,wrap64 ((wrap64 (yw.1*256))+yu.1),wrap64 ((wrap64 (yt.1*256))+yq.1)]:List Int))).bind fun qJ=>(some (qJ.1,qJ.2.1,qJ.2.2))))))
theorem jd.calls (g:Nat) (bM:List Int) (ez:Int) (fC:Int) (r1:Int) (r2:Int) (r3:Int) (w0 w:World) (hI:au w0 w g bM ez fC) (hB:Below w0.heap.size w0 w) (h:jd.f bM ez fC=some (r1,r2,r3)):
  Calls Tryz.prog 99 #[.pointer (some ⟨g,0,none⟩)] w fun e w'=>e= .returned (.int .i64 r1)∧au w0 w' g bM r2 r3∧Below w0.heap.size w0 w'∧aN w w' g none:=by
 have dH:=ak hI
 have HK:=ak (aN.refl w g none)
 have HL:=ak hB.size
 clear hI
 have Iw:=ak hB.size
 have HB:=ak hB;clear hB
 have H:((aJ.f bM ez fC 256).bind fun yw=>((aJ.f bM yw.2.1 yw.2.2 256).bind fun yu=>((aJ.f bM yu.2.1 yu.2.2 256).bind fun yt=>((aJ.f bM yt.2.1 yt.2.2 256).bind fun yq=>((cB.f bM yq.2.1 yq.2.2 (([0,1,65535,wrap64 ((wrap64 (yw.1*256))+yu.1),wrap64 ((wrap64 (yt.1*256))+yq.1)]:List Int))).bind fun qJ=>(some (qJ.1,qJ.2.1,qJ.2.2)))))))=some (r1,r2,r3):=h
 clear h;replace H:=bS H;obtain ⟨⟨I6,Xx,Xw⟩,A2,H⟩:=H
 dsimp only at H
 replace H:=bS H;obtain ⟨⟨I5,Xv,Xu⟩,A3,H⟩:=H
 dsimp only at H
 replace H:=bS H;obtain ⟨⟨I3,Xt,Xs⟩,A4,H⟩:=H
 dsimp only at H
 replace H:=bS H;obtain ⟨⟨I2,Ox,Ow⟩,A5,H⟩:=H
 dsimp only at H
 obtain ⟨WG,eZ⟩:∃y_:List Int,y_=(([0,1,65535,wrap64 ((wrap64 (I6*256))+I5),wrap64 ((wrap64 (I3*256))+I2)]:List Int)):=⟨_,rfl⟩
 replace H:((cB.f bM Ox Ow WG).bind fun qJ=>(some (qJ.1,qJ.2.1,qJ.2.2)))=some (r1,r2,r3):=yH
 have RP:=ak eZ;clear eZ;replace H:=bS H;obtain ⟨⟨aco,acn,acm⟩,A6,H⟩:=H
 dsimp only at H
 simp only [Option.some.injEq,Prod.mk.injEq] at H
 obtain ⟨rfl,rfl,rfl⟩:=H
 go_enter Tryz.func99,Tryz.ntmps99
 go_wp2_with (first|((with_reducible refine eG (f:=78) rfl ?_);refine kS (some 5) rfl Tryz.func78 #[.pointer (some ⟨g,0,none⟩),.int .i64 256] rfl ?_;(with_reducible refine (aJ.calls g bM ez fC 256 I6 Xx Xw w0 _ ?side1 ?side2 A2.out).mono ?_);(case side1=>exact au.d dH);(case side2=>exact au.b HB dH);rintro e w7 ⟨rfl,hi,hb,hk⟩;refine ⟨_,rfl,?_⟩;replace HK:=ak (aN.trans (mo HK) hk (.inl rfl));replace HB:=ak (hb);replace dH:=ak (hi);(try clear hb);(try clear hk);(try clear hi))|((with_reducible refine eG (f:=78) rfl ?_);refine kS (some 8) rfl Tryz.func78 #[.pointer (some ⟨g,0,none⟩),.int .i64 256] rfl ?_;(with_reducible refine (aJ.calls g bM Xx Xw 256 I5 Xv Xu w0 _ ?side1 ?side2 A3.out).mono ?_);(case side1=>exact au.d dH);(case side2=>exact au.b HB dH);rintro e w8 ⟨rfl,hi,hb,hk⟩;refine ⟨_,rfl,?_⟩;replace HK:=ak (aN.trans (mo HK) hk (.inl rfl));replace HB:=ak (hb);replace dH:=ak (hi);(try clear hb);(try clear hk);(try clear hi))|((with_reducible refine eG (f:=78) rfl ?_);refine kS (some 11) rfl Tryz.func78 #[.pointer (some ⟨g,0,none⟩),.int .i64 256] rfl ?_;(with_reducible refine (aJ.calls g bM Xv Xu 256 I3 Xt Xs w0 _ ?side1 ?side2 A4.out).mono ?_);(case side1=>exact au.d dH);(case side2=>exact au.b HB dH);rintro e w9 ⟨rfl,hi,hb,hk⟩;refine ⟨_,rfl,?_⟩;replace HK:=ak (aN.trans (mo HK) hk (.inl rfl));replace HB:=ak (hb);replace dH:=ak (hi);(try clear hb);(try clear hk);(try clear hi))|((with_reducible refine eG (f:=78) rfl ?_);refine kS (some 14) rfl Tryz.func78 #[.pointer (some ⟨g,0,none⟩),.int .i64 256] rfl ?_;(with_reducible refine (aJ.calls g bM Xt Xs 256 I2 Ox Ow w0 _ ?side1 ?side2 A5.out).mono ?_);(case side1=>exact au.d dH);(case side2=>exact au.b HB dH);rintro e W5 ⟨rfl,hi,hb,hk⟩;refine ⟨_,rfl,?_⟩;replace HK:=ak (aN.trans (mo HK) hk (.inl rfl));replace HB:=ak (hb);replace dH:=ak (hi);(try clear hb);(try clear hk);(try clear hi))|((with_reducible refine ax (N:=16) rfl ?_);refine Kd.gy (Kd.int .i64) _ 3 ?hg (N:=16) ?hd (xs:=([0,1,65535,wrap64 ((wrap64 (I6*256))+I5),wrap64 ((wrap64 (I3*256))+I2)]:List Int)) (inner:=[.int .i64 0,.int .i64 1,.int .i64 65535,.int .i64 (wrap64 ((wrap64 (I6*256))+I5)),.int .i64 (wrap64 ((wrap64 (I3*256))+I2))]) (ok:=fun _=>True) (okp:=fun _=>True) ?hr ?hp (fun _ hk=>hk) trivial (Below.refl _ _) (Nat.le_refl _) (by simp) ?_;(case hd=>rfl);(case hg=>rfl);(case hr=>exact qg);(case hp=>exact (bN.one (show Kd.M (Kd.int .i64) _ _ _ 0 [.int .i64 0] from rfl) (bN.one (show Kd.M (Kd.int .i64) _ _ _ 1 [.int .i64 1] from rfl) (bN.one (show Kd.M (Kd.int .i64) _ _ _ 65535 [.int .i64 65535] from rfl) (bN.one (show Kd.M (Kd.int .i64) _ _ _ (wrap64 ((wrap64 (I6*256))+I5)) [.int .i64 (wrap64 ((wrap64 (I6*256))+I5))] from rfl) (bN.one (show Kd.M (Kd.int .i64) _ _ _ (wrap64 ((wrap64 (I3*256))+I2)) [.int .i64 (wrap64 ((wrap64 (I3*256))+I2))] from rfl) (bN.none _ _)))))));intro agI w11 Mj hb cg dZ;clear cg dZ;(first|rw [←RP.out] at Mj|(simp only [Int.reduceToNat] at Mj;rw [←RP.out] at Mj));have Ae:=ak (Kd.dB Mj (iD (w:=w) (g:=g) (row:=none) (mo HK)));replace HK:=ak (aN.trans (mo HK) (aN.lN hb g none) (.inl rfl));replace HB:=ak (aE (au.b HB dH) hb);replace dH:=ak (au.below (au.d dH) hb);clear hb Mj;obtain ⟨ahV,aeM,PW⟩:=Kd.dc Ae.out;subst PW)|(go_at_call 100;(with_reducible refine (cB.calls g bM Ox Ow _ _ WG aco acn acm w0 _ ?side1 ?side2 ?side3 ?side4 ?side5 A6.out).mono ?_);(case side1=>exact au.d dH);(case side2=>exact au.b HB dH);(case side3=>exact cd (Kd.bL Ae.out).2.2);(case side4=>exact (Kd.bL Ae.out).2.1);(case side5=>exact m8 (au.lM dH.out Ae.out (by decide)));rintro e w14 ⟨rfl,hi,hb,hk⟩;replace Ae:=ak (Kd.bF (Kd.iB (au.apart (show au w0 _ g bM Ox Ow from au.d dH) (fy Ae) (by decide)) hk (fun _ h=>h.2)) (fun _ h=>h.1));replace HK:=ak (aN.trans (mo HK) hk (.inl rfl));replace HB:=ak (hb);replace dH:=ak (hi);(try clear hb);(try clear hk);(try clear hi)))
 go_ret
 exact ⟨jT,au.d dH,au.b HB dH,mo HK⟩
def bU.l0:Nat→List Int→Int→List Int→Int→Int→Option (List Int×Int×Int)
  |0,_,_,_,_,_=>none
  |k+1,x3,x4,lI,tc,sZ=>if x4>0 then ((jd.f lI tc sZ).bind fun M1=>(if x3.length<17592186044416 then (bU.l0 k (x3++[M1.1]) (wrap64 (x4-1)) lI M1.2.1 M1.2.2) else (none))) else ((dR.f lI tc sZ 20).bind fun DR=>(if DR.1=true then ((cB.f lI DR.2.1 DR.2.2 (([(-1),65536,5]:List Int))).bind fun qG=>(if x3.length<17592186044416 then (some ((x3++[qG.1]),qG.2.1,qG.2.2)) else (none))) else (some (x3,DR.2.1,DR.2.2))))
def bU.f (k:Nat) (bM:List Int) (ez:Int) (fC:Int):Option (List Int×Int×Int):=(aJ.f bM ez fC 4).bind fun yp=>(bU.l0 k ([]:List Int) (wrap64 (1+yp.1)) bM yp.2.1 yp.2.2)
theorem bU.calls (k:Nat) (g:Nat) (bM:List Int) (ez:Int) (fC:Int) (r1:List Int) (r2:Int) (r3:Int) (w0 w:World) (hI:au w0 w g bM ez fC) (hB:Below w0.heap.size w0 w) (h:bU.f k bM ez fC=some (r1,r2,r3)):
  Calls Tryz.prog 65 #[.pointer (some ⟨g,0,none⟩)] w fun e w'=>∃kV:Value,e= .returned (kV)∧Kd.R (Kd.int .i64) 3 w' w.heap.size (fun _=>True) kV r1∧au w0 w' g bM r2 r3∧Below w0.heap.size w0 w'∧aN w w' g none:=by
 have dH:=ak hI
 have HK:=ak (aN.refl w g none)
 have HL:=ak hB.size
 clear hI
 have Iw:=ak hB.size
 have HB:=ak hB;clear hB
 have H:((aJ.f bM ez fC 4).bind fun yp=>(bU.l0 k ([]:List Int) (wrap64 (1+yp.1)) bM yp.2.1 yp.2.2))=some (r1,r2,r3):=h
 clear h;replace H:=bS H;obtain ⟨⟨Xr,Xq,Xp⟩,A2,H⟩:=H
 dsimp only at H
 have H':=ak H
 clear H
 go_enter Tryz.func65,Tryz.ntmps65
 go_wp2_with (first|(go_at_call 78;(with_reducible refine (aJ.calls g bM ez fC 4 Xr Xq Xp w0 _ ?side1 ?side2 A2.out).mono ?_);(case side1=>exact au.d dH);(case side2=>exact au.b HB dH);rintro e w3 ⟨rfl,hi,hb,hk⟩;replace HK:=ak (aN.trans (mo HK) hk (.inl rfl));replace HB:=ak (hb);replace dH:=ak (hi);(try clear hb);(try clear hk);(try clear hi)))
 go_loopg [3,4] k (fun kq v3 v4 w'=>∃(iN:List Int) (gC:Int) (mV:Int) (mU:Int),v4= .int .i64 gC∧Aside0 (bU.l0 kq iN gC bM mV mU=some (r1,r2,r3))∧Aside0 (kq≤k)∧Aside0 (Kd.R (Kd.int .i64) 3 w' w.heap.size (fun _=>True) v3 iN)∧Aside0 (au w0 w' g bM mV mU)∧Aside0 (aN w w' g none)∧Aside0 (Below w0.heap.size w0 w'))
 case atStart=>exact ⟨(([]:List Int)),(wrap64 (1+Xr)),(Xq),(Xp),er,H',⟨Nat.le_refl _⟩,⟨AQ⟩,⟨au.d dH⟩,⟨mo HK⟩,⟨au.b HB dH⟩⟩
 case round=>
  clear H'
  obtain ⟨iN,gC,mV,mU,rfl,HA,fP,eJ,dH,HK,HB⟩:=hrel
  cases gk with
  |zero=>exact absurd HA.out (by simp [bU.l0])
  |succ k1=>
   have H:=HA.out;clear HA
   simp only [bU.l0] at H
   by_cases c4:gC>0
   ·rw [if_pos c4] at H
    have iI:=H6 c4
    clear c4;replace H:=bS H;obtain ⟨⟨Ov,SG,SF⟩,A5,H⟩:=H
    dsimp only at H
    replace H:=cZ H;obtain ⟨c6,H⟩:=H;have Vv:=ak c6;clear c6
    obtain ⟨WE,eZ⟩:∃y_:List Int,y_=(iN++[Ov]):=⟨_,rfl⟩
    replace H:(bU.l0 k1 WE (wrap64 (gC-1)) bM SG SF)=some (r1,r2,r3):=yH
    have aaE:=ak eZ;clear eZ
    have H':=ak H
    clear H
    go_wp2_with (first|(go_at_call 99;(with_reducible refine (jd.calls g bM mV mU Ov SG SF w0 _ ?side1 ?side2 A5.out).mono ?_);(case side1=>exact au.d dH);(case side2=>exact au.b HB dH);rintro e w7 ⟨rfl,hi,hb,hk⟩;replace eJ:=ak (Kd.bF (Kd.iB (au.apart (show au w0 _ g bM mV mU from au.d dH) (fy eJ) (by decide)) hk (fun _ h=>h.2)) (fun _ h=>h.1));replace HK:=ak (aN.trans (mo HK) hk (.inl rfl));replace HB:=ak (hb);replace dH:=ak (hi);(try clear hb);(try clear hk);(try clear hi))|((with_reducible refine cr (b:= .append) (xs:= #[.tmp 12,.tmp 15]) rfl ?_);at_builtin;refine Kd.lS (Kd.int .i64) w.heap.size rfl (.tmp 12) (.tmp 15) 22 3 (.int .i64 0) 8 rfl Tryz.underlying22 xR rfl (by decide) (by omega) u3 iN Ov [.int .i64 Ov] (fun _=>True) (fun _=>False) rfl rfl ?aP (fun _ hk=>hk.elim) ?aF ?aO (Below.refl _ _) ?aS ?aL ?_;(case aP=>exact rfl);(case aF=>exact (fun _ _=>trivial));(case aO=>exact (fy eJ));(case aS=>exact (iD (w:=w) (g:=g) (row:=none) (mo HK)));(case aL=>have:=Vv.out;omega);intro agH w8 ho hb hg gV;rw [←aaE.out] at ho;replace HB:=ak (mZ (au.b HB dH) HL.out hb);replace dH:=ak (au.grown (au.d dH) hg (au.lM dH.out eJ.out (by decide)));replace HK:=ak (aN.trans (mo HK) (aN.nk hg g) (Kd.wU eJ.out));have aba:=ak (ho);clear eJ;clear ho hb hg gV))
    go_roundg k1
    case measure=>have:=fP.out;omega
    case rel=>exact ⟨(WE),(wrap64 (gC-1)),(SG),(SF),er,H',⟨by have:=fP.out;omega⟩,⟨fy aba⟩,⟨au.d dH⟩,⟨mo HK⟩,⟨au.b HB dH⟩⟩
   ·rw [if_neg c4] at H
    have iI:=H7 c4
    clear c4;replace H:=bS H;obtain ⟨⟨ack,CN,CL⟩,A9,H⟩:=H
    dsimp only at H
    by_cases gu:ack=true
    ·subst gu
     have H1:((cB.f bM CN CL (([(-1),65536,5]:List Int))).bind fun qG=>(if iN.length<17592186044416 then (some ((iN++[qG.1]),qG.2.1,qG.2.2)) else (none)))=some (r1,r2,r3):=by rw [if_pos rfl] at H;exact H
     clear H
     have H:=H1
     clear H1
     obtain ⟨So,eZ⟩:∃y_:List Int,y_=(([(-1),65536,5]:List Int)):=⟨_,rfl⟩
     replace H:((cB.f bM CN CL So).bind fun qG=>(if iN.length<17592186044416 then (some ((iN++[qG.1]),qG.2.1,qG.2.2)) else (none)))=some (r1,r2,r3):=yH
     have RO:=ak eZ;clear eZ;replace H:=bS H;obtain ⟨⟨Ou,Xo,Xn⟩,NX,H⟩:=H
     dsimp only at H
     replace H:=cZ H;obtain ⟨nL,H⟩:=H;have Nw:=ak nL;clear nL
     obtain ⟨abJ,eZ⟩:∃y_:List Int,y_=(iN++[Ou]):=⟨_,rfl⟩
     replace H:(some (abJ,Xo,Xn))=some (r1,r2,r3):=yH
     have aaD:=ak eZ;clear eZ
     simp only [Option.some.injEq,Prod.mk.injEq] at H
     obtain ⟨rfl,rfl,rfl⟩:=H
     go_wp2_with (first|(go_at_call 77;(with_reducible refine (dR.calls g bM mV mU 20 true CN CL w0 _ ?side1 ?side2 A9.out).mono ?_);(case side1=>exact au.d dH);(case side2=>exact au.b HB dH);rintro e w13 ⟨rfl,hi,hb,hk⟩;replace eJ:=ak (Kd.bF (Kd.iB (au.apart (show au w0 _ g bM mV mU from au.d dH) (fy eJ) (by decide)) hk (fun _ h=>h.2)) (fun _ h=>h.1));replace HK:=ak (aN.trans (mo HK) hk (.inl rfl));replace HB:=ak (hb);replace dH:=ak (hi);(try clear hb);(try clear hk);(try clear hi))|((with_reducible refine ax (N:=21) rfl ?_);refine Kd.gy (Kd.int .i64) _ 3 ?hg (N:=21) ?hd (xs:=([(-1),65536,5]:List Int)) (inner:=[.int .i64 (-1),.int .i64 65536,.int .i64 5]) (ok:=fun _=>True) (okp:=fun _=>True) ?hr ?hp (fun _ hk=>hk) trivial (Below.refl _ _) (Nat.le_refl _) (by simp) ?_;(case hd=>rfl);(case hg=>rfl);(case hr=>exact qg);(case hp=>exact (bN.one (show Kd.M (Kd.int .i64) _ _ _ (-1) [.int .i64 (-1)] from rfl) (bN.one (show Kd.M (Kd.int .i64) _ _ _ 65536 [.int .i64 65536] from rfl) (bN.one (show Kd.M (Kd.int .i64) _ _ _ 5 [.int .i64 5] from rfl) (bN.none _ _)))));intro agG w14 vZ hb cg dZ;clear cg dZ;(first|rw [←RO.out] at vZ|(simp only [Int.reduceToNat] at vZ;rw [←RO.out] at vZ));have uw:=ak (Kd.dB (Kd.qN vZ (Kd.rH (fy eJ))) (iD (w:=w) (g:=g) (row:=none) (mo HK)));replace eJ:=ak (Kd.mq (fy eJ) (Kd.nE vZ) hb);replace HK:=ak (aN.trans (mo HK) (aN.lN hb g none) (.inl rfl));replace HB:=ak (aE (au.b HB dH) hb);replace dH:=ak (au.below (au.d dH) hb);clear hb vZ;obtain ⟨Qy,ML,wj⟩:=Kd.dc uw.out;subst wj)|(go_at_call 100;(with_reducible refine (cB.calls g bM CN CL _ _ So Ou Xo Xn w0 _ ?side1 ?side2 ?side3 ?side4 ?side5 NX.out).mono ?_);(case side1=>exact au.d dH);(case side2=>exact au.b HB dH);(case side3=>exact cd (Kd.bL uw.out).2.2);(case side4=>exact (Kd.bL uw.out).2.1);(case side5=>exact m8 (au.lM dH.out uw.out (by decide)));rintro e Ko ⟨rfl,hi,hb,hk⟩;replace eJ:=ak (Kd.bF (Kd.iB (au.apart (show au w0 _ g bM CN CL from au.d dH) (fy eJ) (by decide)) hk (fun _ h=>h.2)) (fun _ h=>h.1));replace uw:=ak (Kd.bF (Kd.iB (au.apart (show au w0 _ g bM CN CL from au.d dH) (fy uw) (by decide)) hk (fun _ h=>h.2)) (fun _ h=>h.1));replace HK:=ak (aN.trans (mo HK) hk (.inl rfl));replace HB:=ak (hb);replace dH:=ak (hi);(try clear hb);(try clear hk);(try clear hi))|((with_reducible refine cr (b:= .append) (xs:= #[.tmp 19,.tmp 23]) rfl ?_);at_builtin;refine Kd.lS (Kd.int .i64) w.heap.size rfl (.tmp 19) (.tmp 23) 22 3 (.int .i64 0) 8 rfl Tryz.underlying22 xR rfl (by decide) (by omega) u3 iN Ou [.int .i64 Ou] (fun k_=>some k_≠(.slice Qy So.length ML:Value).ownBlock) (fun _=>False) rfl rfl ?aP (fun _ hk=>hk.elim) ?aF ?aO (Below.refl _ _) ?aS ?aL ?_;(case aP=>exact rfl);(case aF=>exact (fun k_ hk=>Kd.sL (Kd.rH (fy uw)) k_ hk));(case aO=>exact (by (with_reducible repeat (first|apply Kd.cu|apply Kd.ct|apply Kd.cy));exact Kd.bF eJ.out (fun _ hk=>hk.2)));(case aS=>exact (iD (w:=w) (g:=g) (row:=none) (mo HK)));(case aL=>have:=Nw.out;omega);intro agF NZ ho hb hg gV;rw [←aaD.out] at ho;replace uw:=ak (Kd.oc (ok:=(fun _=>True)) (fy uw) hg gV);replace HB:=ak (mZ (au.b HB dH) HL.out hb);replace dH:=ak (au.grown (au.d dH) hg (au.lM dH.out eJ.out (by decide)));replace HK:=ak (aN.trans (mo HK) (aN.nk hg g) (Kd.wU eJ.out));have aa9:=ak (ho);clear eJ;clear ho hb hg gV))
     go_ret
     exact ⟨_,jT,by (with_reducible repeat (first|apply Kd.cu|apply Kd.ct|apply Kd.cy));exact Kd.bF aa9.out (fun _ hk=>trivial),au.d dH,au.b HB dH,mo HK⟩
    ·replace gu:=Bool.eq_false_iff.mpr gu
     subst gu
     have H1:(some (iN,CN,CL))=some (r1,r2,r3):=by rw [if_neg (show¬(false=true) by decide)] at H;exact H
     clear H
     have H:=H1
     clear H1
     simp only [Option.some.injEq,Prod.mk.injEq] at H
     obtain ⟨rfl,rfl,rfl⟩:=H
     go_wp2_with (first|(go_at_call 77;(with_reducible refine (dR.calls g bM mV mU 20 false CN CL w0 _ ?side1 ?side2 A9.out).mono ?_);(case side1=>exact au.d dH);(case side2=>exact au.b HB dH);rintro e w19 ⟨rfl,hi,hb,hk⟩;replace eJ:=ak (Kd.bF (Kd.iB (au.apart (show au w0 _ g bM mV mU from au.d dH) (fy eJ) (by decide)) hk (fun _ h=>h.2)) (fun _ h=>h.1));replace HK:=ak (aN.trans (mo HK) hk (.inl rfl));replace HB:=ak (hb);replace dH:=ak (hi);(try clear hb);(try clear hk);(try clear hi)))
     go_ret
     exact ⟨_,jT,by (with_reducible repeat (first|apply Kd.cu|apply Kd.ct|apply Kd.cy));exact eJ.out,au.d dH,au.b HB dH,mo HK⟩
def fe.f (bM:List Int) (ez:Int) (fC:Int) (l1:List ByteArray):Option (ByteArray×Int×Int):=(aJ.f bM ez fC (l1.length:Int)).bind fun qF=>(if 0≤qF.1 then (if qF.1<(l1.length:Int) then (some (aV ByteArray.empty l1 qF.1,qF.2.1,qF.2.2)) else (none)) else (none))
theorem fe.calls (g:Nat) (bM:List Int) (ez:Int) (fC:Int) (A1:Option Addr) (c1:Nat) (l1:List ByteArray) (r1:ByteArray) (r2:Int) (r3:Int) (w0 w:World) (hI:au w0 w g bM ez fC) (hB:Below w0.heap.size w0 w) (nY:Kd.C Kd.string w A1 l1.length l1) (mY:l1.length≤c1) (Ec:∀ad,A1=some ad→0<l1.length→ad.block≠g) (h:fe.f bM ez fC l1=some (r1,r2,r3)):
  Calls Tryz.prog 101 #[.pointer (some ⟨g,0,none⟩),.slice A1 l1.length c1] w fun e w'=>e= .returned (.string r1)∧au w0 w' g bM r2 r3∧Below w0.heap.size w0 w'∧aN w w' g none:=by
 have pX:=ak nY;have Ed:=ak mY;clear nY mY;have dH:=ak hI
 have HK:=ak (aN.refl w g none)
 have HL:=ak hB.size
 clear hI
 have Iw:=ak hB.size
 have HB:=ak hB;clear hB
 have H:((aJ.f bM ez fC (l1.length:Int)).bind fun qF=>(if 0≤qF.1 then (if qF.1<(l1.length:Int) then (some (aV ByteArray.empty l1 qF.1,qF.2.1,qF.2.2)) else (none)) else (none)))=some (r1,r2,r3):=h
 clear h;replace H:=bS H;obtain ⟨⟨Ot,acj,aci⟩,A3,H⟩:=H
 dsimp only at H
 replace H:=cZ H;obtain ⟨c4,H⟩:=H;have iI:=decide_eq_true c4;clear c4;replace H:=cZ H;obtain ⟨c5,H⟩:=H;have jg:=decide_eq_true c5;clear c5
 simp only [Option.some.injEq,Prod.mk.injEq] at H
 obtain ⟨rfl,rfl,rfl⟩:=H
 go_enter Tryz.func101,Tryz.ntmps101
 go_wp2_with (first|(go_at_call 78;(with_reducible refine (aJ.calls g bM ez fC (l1.length:Int) Ot acj aci w0 _ ?side1 ?side2 A3.out).mono ?_);(case side1=>exact au.d dH);(case side2=>exact au.b HB dH);rintro e w6 ⟨rfl,hi,hb,hk⟩;replace HK:=ak (aN.trans (mo HK) hk (.inl rfl));replace HB:=ak (hb);replace dH:=ak (hi);(try clear hb);(try clear hk);(try clear hi);have S9:0≤(Ot:Int):=da;have SS:Ot<(l1.length:Int):=da;obtain ⟨Z2,aev,G8⟩:=Kd.bh pX.out Ot S9 SS;cases aev;replace G8:=q7 HK.out G8 (by first|(rw [aX];exact Ec _ rfl (by omega))|exact Ec _ rfl (by omega)|exact Ec Z2 rfl (by omega));replace S9:=eq_true S9;replace SS:=eq_true SS))
 go_ret
 exact ⟨jT,au.d dH,au.b HB dH,mo HK⟩
mutual
def aA.j0:Nat→List (iK)→Int→List Int→Int→Int→Option ((List (iK))×Int×Int)
  |0,_,_,_,_,_=>none
  |k+1,x3,x4,lI,tc,sZ=>aA.l0 k x3 x4 lI tc sZ
def aA.l0:Nat→List (iK)→Int→List Int→Int→Int→Option ((List (iK))×Int×Int)
  |0,_,_,_,_,_=>none
  |k+1,x3,x4,lI,tc,sZ=>if x4>0 then ((cB.f lI tc sZ (([1,1,1,2,2,2,3]:List Int))).bind fun qC=>((aJ.f lI qC.2.1 qC.2.2 4).bind fun oR=>(if qC.1=1 then ((fe.f lI oR.2.1 oR.2.2 (([(⟨#[97]⟩:ByteArray),(⟨#[98]⟩:ByteArray),(⟨#[]⟩:ByteArray),(⟨#[104,101,108,108,111]⟩:ByteArray),(⟨#[102,111,117,114,116,101,101,110,32,98,121,116,101,115]⟩:ByteArray),(⟨#[102,105,102,116,101,101,110,32,98,121,116,101,115,46,46]⟩:ByteArray),(⟨#[128]⟩:ByteArray)]:List ByteArray))).bind fun qB=>(aA.j2 k x3 x4 lI qB.2.1 qB.2.2 qC.1 oR.1 qB.1)) else (aA.j2 k x3 x4 lI oR.2.1 oR.2.2 qC.1 oR.1 (⟨#[]⟩:ByteArray))))) else (some (x3,tc,sZ))
def aA.j2:Nat→List (iK)→Int→List Int→Int→Int→Int→Int→ByteArray→Option ((List (iK))×Int×Int)
  |0,_,_,_,_,_,_,_,_=>none
  |k+1,x3,x4,lI,tc,sZ,N8,N7,N6=>(dR.f lI tc sZ 40).bind fun DQ=>(if DQ.1=true then ((aJ.f lI DQ.2.1 DQ.2.2 5).bind fun ym=>((cB.f lI ym.2.1 ym.2.2 (([(-1),0,4,60]:List Int))).bind fun qA=>((fe.f lI qA.2.1 qA.2.2 (([(⟨#[]⟩:ByteArray),(⟨#[120]⟩:ByteArray)]:List ByteArray))).bind fun nx=>(if x3.length<4398046511104 then (aA.l0 k (x3++[(⟨ym.1,qA.1,nx.1⟩:iK)]) (wrap64 (x4-1)) lI nx.2.1 nx.2.2) else (none))))) else (if x3.length<4398046511104 then (aA.l0 k (x3++[(⟨N8,N7,N6⟩:iK)]) (wrap64 (x4-1)) lI DQ.2.1 DQ.2.2) else (none)))
end
def aA.f (k:Nat) (bM:List Int) (ez:Int) (fC:Int):Option ((List (iK))×Int×Int):=(aJ.f bM ez fC 24).bind fun yo=>((dR.f bM yo.2.1 yo.2.2 20).bind fun qE=>(if qE.1=true then ((aJ.f bM qE.2.1 qE.2.2 3).bind fun qD=>(aA.j0 k ([]:List (iK)) (wrap64 (59+qD.1)) bM qD.2.1 qD.2.2)) else (aA.j0 k ([]:List (iK)) yo.1 bM qE.2.1 qE.2.2)))
theorem aA.calls (k:Nat) (g:Nat) (bM:List Int) (ez:Int) (fC:Int) (r1:List (iK)) (r2:Int) (r3:Int) (w0 w:World) (hI:au w0 w g bM ez fC) (hB:Below w0.heap.size w0 w) (h:aA.f k bM ez fC=some (r1,r2,r3)):
  Calls Tryz.prog 66 #[.pointer (some ⟨g,0,none⟩)] w fun e w'=>∃kV:Value,e= .returned (kV)∧Kd.R zN 53 w' w.heap.size (fun _=>True) kV r1∧au w0 w' g bM r2 r3∧Below w0.heap.size w0 w'∧aN w w' g none:=by
 have Fl:=Tryz.underlying53
 have dH:=ak hI
 have HK:=ak (aN.refl w g none)
 have HL:=ak hB.size
 clear hI
 have Iw:=ak hB.size
 have HB:=ak hB;clear hB
 have H:((aJ.f bM ez fC 24).bind fun yo=>((dR.f bM yo.2.1 yo.2.2 20).bind fun qE=>(if qE.1=true then ((aJ.f bM qE.2.1 qE.2.2 3).bind fun qD=>(aA.j0 k ([]:List (iK)) (wrap64 (59+qD.1)) bM qD.2.1 qD.2.2)) else (aA.j0 k ([]:List (iK)) yo.1 bM qE.2.1 qE.2.2))))=some (r1,r2,r3):=h
 clear h;replace H:=bS H;obtain ⟨⟨SE,Xm,Xl⟩,A2,H⟩:=H
 dsimp only at H
 replace H:=bS H;obtain ⟨⟨Xk,KX,KW⟩,A3,H⟩:=H
 dsimp only at H
 have Gf:=ak H;clear H
 go_enter Tryz.func66,Tryz.ntmps66
 go_upto_if 9 with (first|(go_at_call 78;(with_reducible refine (aJ.calls g bM ez fC 24 SE Xm Xl w0 _ ?side1 ?side2 A2.out).mono ?_);(case side1=>exact au.d dH);(case side2=>exact au.b HB dH);rintro e w5 ⟨rfl,hi,hb,hk⟩;replace HK:=ak (aN.trans (mo HK) hk (.inl rfl));replace HB:=ak (hb);replace dH:=ak (hi);(try clear hb);(try clear hk);(try clear hi))|(go_at_call 77;(with_reducible refine (dR.calls g bM Xm Xl 20 Xk KX KW w0 _ ?side1 ?side2 A3.out).mono ?_);(case side1=>exact au.d dH);(case side2=>exact au.b HB dH);rintro e w6 ⟨rfl,hi,hb,hk⟩;replace HK:=ak (aN.trans (mo HK) hk (.inl rfl));replace HB:=ak (hb);replace dH:=ak (hi);(try clear hb);(try clear hk);(try clear hi)))
 (try simp only [Act.put,List.setIfInBounds_toArray,List.set_cons_zero,List.set_cons_succ])
 go_cut [4] (fun v4 wc=>∃(kq:Nat) (N5:Int) (wD:Int) (wC:Int),v4= .int .i64 N5∧Aside0 (aA.j0 kq ([]:List (iK)) N5 bM wD wC=some (r1,r2,r3))∧Aside0 (kq≤k)∧Aside0 (Kd.R zN 53 wc w.heap.size (fun _=>True) (.slice none 0 0) ([]:List (iK)))∧Aside0 (au w0 wc g bM wD wC)∧Aside0 (aN w wc g none)∧Aside0 (Below w0.heap.size w0 wc))
 case first=>
  have H:=Gf.out;clear Gf
  by_cases c7:Xk=true
  ·subst c7
   have H1:((aJ.f bM KX KW 3).bind fun qD=>(aA.j0 k ([]:List (iK)) (wrap64 (59+qD.1)) bM qD.2.1 qD.2.2))=some (r1,r2,r3):=by rw [if_pos rfl] at H;exact H
   clear H
   have H:=H1
   clear H1;replace H:=bS H;obtain ⟨⟨Xj,Xi,Xh⟩,A8,H⟩:=H
   dsimp only at H
   have H':=ak H
   clear H
   go_wp2_with (first|(go_at_call 78;(with_reducible refine (aJ.calls g bM KX KW 3 Xj Xi Xh w0 _ ?side1 ?side2 A8.out).mono ?_);(case side1=>exact au.d dH);(case side2=>exact au.b HB dH);rintro e w9 ⟨rfl,hi,hb,hk⟩;replace HK:=ak (aN.trans (mo HK) hk (.inl rfl));replace HB:=ak (hb);replace dH:=ak (hi);(try clear hb);(try clear hk);(try clear hi)))
   go_meet
   case rel=>exact ⟨_,(wrap64 (59+Xj)),(Xi),(Xh),er,H',⟨by first|omega|exact Nat.le_refl _⟩,⟨AQ⟩,⟨au.d dH⟩,⟨mo HK⟩,⟨au.b HB dH⟩⟩
  ·replace c7:=Bool.eq_false_iff.mpr c7
   subst c7
   have H1:(aA.j0 k ([]:List (iK)) SE bM KX KW)=some (r1,r2,r3):=by rw [if_neg (show¬(false=true) by decide)] at H;exact H
   clear H
   have H:=H1
   clear H1
   have H':=ak H
   clear H;go_wp2
   go_meet
   case rel=>exact ⟨_,(SE),(KX),(KW),er,H',⟨by first|omega|exact Nat.le_refl _⟩,⟨AQ⟩,⟨au.d dH⟩,⟨mo HK⟩,⟨au.b HB dH⟩⟩
 case rest=>
  clear Gf
  obtain ⟨kq,N5,wD,wC,rfl,HA,vn,eJ,dH,HK,HB⟩:=hcut
  cases kq with
  |zero=>exact absurd HA.out (by simp [aA.j0])
  |succ Ea=>
   have H:=HA.out;clear HA
   simp only [aA.j0] at H
   have H':=ak H
   clear H;go_wp2
   go_loopg [3,4] Ea (fun kq v3 v4 w'=>∃(oB:List (iK)) (rD:Int) (oZ:Int) (oY:Int),v4= .int .i64 rD∧Aside0 (aA.l0 kq oB rD bM oZ oY=some (r1,r2,r3))∧Aside0 (kq≤Ea)∧Aside0 (Kd.R zN 53 w' w.heap.size (fun _=>True) v3 oB)∧Aside0 (au w0 w' g bM oZ oY)∧Aside0 (aN w w' g none)∧Aside0 (Below w0.heap.size w0 w'))
   case atStart=>exact ⟨(([]:List (iK))),(N5),(wD),(wC),er,H',⟨Nat.le_refl _⟩,⟨fy eJ⟩,⟨au.d dH⟩,⟨mo HK⟩,⟨au.b HB dH⟩⟩
   case round=>
    clear H'
    obtain ⟨oB,rD,oZ,oY,rfl,HA,jj,eJ,dH,HK,HB⟩:=hrel
    cases gk with
    |zero=>exact absurd HA.out (by simp [aA.l0])
    |succ k2=>
     have H:=HA.out;clear HA
     simp only [aA.l0] at H
     by_cases gu:rD>0
     ·rw [if_pos gu] at H
      have kC:=H6 gu
      clear gu
      obtain ⟨WD,eZ⟩:∃y_:List Int,y_=(([1,1,1,2,2,2,3]:List Int)):=⟨_,rfl⟩
      replace H:((cB.f bM oZ oY WD).bind fun qC=>((aJ.f bM qC.2.1 qC.2.2 4).bind fun oR=>(if qC.1=1 then ((fe.f bM oR.2.1 oR.2.2 (([(⟨#[97]⟩:ByteArray),(⟨#[98]⟩:ByteArray),(⟨#[]⟩:ByteArray),(⟨#[104,101,108,108,111]⟩:ByteArray),(⟨#[102,111,117,114,116,101,101,110,32,98,121,116,101,115]⟩:ByteArray),(⟨#[102,105,102,116,101,101,110,32,98,121,116,101,115,46,46]⟩:ByteArray),(⟨#[128]⟩:ByteArray)]:List ByteArray))).bind fun qB=>(aA.j2 k2 oB rD bM qB.2.1 qB.2.2 qC.1 oR.1 qB.1)) else (aA.j2 k2 oB rD bM oR.2.1 oR.2.2 qC.1 oR.1 (⟨#[]⟩:ByteArray)))))=some (r1,r2,r3):=yH
      have RN:=ak eZ;clear eZ;replace H:=bS H;obtain ⟨⟨oE,Oq,Oo⟩,NX,H⟩:=H
      dsimp only at H
      replace H:=bS H;obtain ⟨⟨o5,y7,y6⟩,Kl,H⟩:=H
      dsimp only at H
      have VR:=ak H;clear H
      go_upto_if 25 with (first|((with_reducible refine ax (N:=18) rfl ?_);refine Kd.gy (Kd.int .i64) _ 3 ?hg (N:=18) ?hd (xs:=([1,1,1,2,2,2,3]:List Int)) (inner:=[.int .i64 1,.int .i64 1,.int .i64 1,.int .i64 2,.int .i64 2,.int .i64 2,.int .i64 3]) (ok:=fun _=>True) (okp:=fun _=>True) ?hr ?hp (fun _ hk=>hk) trivial (Below.refl _ _) (Nat.le_refl _) (by simp) ?_;(case hd=>rfl);(case hg=>rfl);(case hr=>exact qg);(case hp=>exact (bN.one (show Kd.M (Kd.int .i64) _ _ _ 1 [.int .i64 1] from rfl) (bN.one (show Kd.M (Kd.int .i64) _ _ _ 1 [.int .i64 1] from rfl) (bN.one (show Kd.M (Kd.int .i64) _ _ _ 1 [.int .i64 1] from rfl) (bN.one (show Kd.M (Kd.int .i64) _ _ _ 2 [.int .i64 2] from rfl) (bN.one (show Kd.M (Kd.int .i64) _ _ _ 2 [.int .i64 2] from rfl) (bN.one (show Kd.M (Kd.int .i64) _ _ _ 2 [.int .i64 2] from rfl) (bN.one (show Kd.M (Kd.int .i64) _ _ _ 3 [.int .i64 3] from rfl) (bN.none _ _)))))))));intro agE w14 vZ hb cg dZ;clear cg dZ;(first|rw [←RN.out] at vZ|(simp only [Int.reduceToNat] at vZ;rw [←RN.out] at vZ));replace eJ:=ak (Kd.ey (fy eJ) hb);have oe:=ak (Kd.dB vZ (iD (w:=w) (g:=g) (row:=none) (mo HK)));replace HK:=ak (aN.trans (mo HK) (aN.lN hb g none) (.inl rfl));replace HB:=ak (aE (au.b HB dH) hb);replace dH:=ak (au.below (au.d dH) hb);clear hb vZ;obtain ⟨Qy,ML,wj⟩:=Kd.dc oe.out;subst wj)|(go_at_call 100;(with_reducible refine (cB.calls g bM oZ oY _ _ WD oE Oq Oo w0 _ ?side1 ?side2 ?side3 ?side4 ?side5 NX.out).mono ?_);(case side1=>exact au.d dH);(case side2=>exact au.b HB dH);(case side3=>exact cd (Kd.bL oe.out).2.2);(case side4=>exact (Kd.bL oe.out).2.1);(case side5=>exact m8 (au.lM dH.out oe.out (by decide)));rintro e Ko ⟨rfl,hi,hb,hk⟩;replace eJ:=ak (Kd.bF (Kd.iB (au.apart (show au w0 _ g bM oZ oY from au.d dH) (fy eJ) (by decide)) hk (fun _ h=>h.2)) (fun _ h=>h.1));replace oe:=ak (Kd.bF (Kd.iB (au.apart (show au w0 _ g bM oZ oY from au.d dH) (fy oe) (by decide)) hk (fun _ h=>h.2)) (fun _ h=>h.1));replace HK:=ak (aN.trans (mo HK) hk (.inl rfl));replace HB:=ak (hb);replace dH:=ak (hi);(try clear hb);(try clear hk);(try clear hi))|(go_at_call 78;(with_reducible refine (aJ.calls g bM Oq Oo 4 o5 y7 y6 w0 _ ?side1 ?side2 Kl.out).mono ?_);(case side1=>exact au.d dH);(case side2=>exact au.b HB dH);rintro e NZ ⟨rfl,hi,hb,hk⟩;replace eJ:=ak (Kd.bF (Kd.iB (au.apart (show au w0 _ g bM Oq Oo from au.d dH) (fy eJ) (by decide)) hk (fun _ h=>h.2)) (fun _ h=>h.1));replace oe:=ak (Kd.bF (Kd.iB (au.apart (show au w0 _ g bM Oq Oo from au.d dH) (fy oe) (by decide)) hk (fun _ h=>h.2)) (fun _ h=>h.1));replace HK:=ak (aN.trans (mo HK) hk (.inl rfl));replace HB:=ak (hb);replace dH:=ak (hi);(try clear hb);(try clear hk);(try clear hi))|((with_reducible refine ax (N:=5) rfl ?_);refine jG ?hg (N:=5) ?hd (cs:= #[.int .i64 0,.int .i64 0,.string (⟨#[]⟩:ByteArray)]) (t:=53) ?hr ?_;(case hd=>rfl);(case hg=>rfl);(case hr=>exact qg);intro iH hg w19 dO hb;replace eJ:=ak (Kd.ey (Kd.Nq (fy eJ) iH (Nat.le_of_eq hg.symm)) hb);replace oe:=ak (Kd.ey (fy oe) hb);replace HB:=ak (aE (au.b HB dH) hb);have gz:=ak (dO);have lD:=ak ((by rw [hg];exact (iD (w:=w) (g:=g) (row:=none) (mo HK)):w.heap.size≤iH));have nJ:=ak ((Nat.le_trans Iw.out (by rw [hg];exact (iD (w:=w) (g:=g) (row:=none) (mo HK)):w.heap.size≤iH):w0.heap.size≤iH));replace HK:=ak (aN.trans (mo HK) (aN.lN hb g none) (.inl rfl));have fc:=ak ((by rw [hg];exact Nat.ne_of_lt (au.lt (show au w0 _ g bM y7 y6 from au.d dH)):g≠iH));have mg:=ak ((by rw [hg];exact Nat.ne_of_gt (au.lt (show au w0 _ g bM y7 y6 from au.d dH)):iH≠g));replace dH:=ak (au.below (au.d dH) hb);clear hb dO hg;have afy:=mg.out;have afr:=fc.out;obtain ⟨PO,PN,PM,PK,PJ,PI⟩:=cA gz))
      (try simp only [Act.put,List.setIfInBounds_toArray,List.set_cons_zero,List.set_cons_succ])
      go_cut [] (fun wc=>∃(kq:Nat) (nc:Int) (m9:Int) (fQ:ByteArray),Aside0 (aA.j2 kq oB rD bM nc m9 oE o5 fQ=some (r1,r2,r3))∧Aside0 (kq≤k2)∧Aside0 (Kd.R zN 53 wc w.heap.size (fun k_=>k_≠iH) u3 oB)∧Aside0 (wc.heap[iH]? =some (.cells #[.int .i64 oE,.int .i64 o5,.string fQ] 53 (0,0)))∧Aside0 (au w0 wc g bM nc m9)∧Aside0 (aN w wc g none)∧Aside0 (Below w0.heap.size w0 wc))
      case first=>
       have H:=VR.out;clear VR
       by_cases Ca:oE=1
       ·rw [if_pos Ca] at H
        have rV:=kI Ca
        have Zv:=kH Ca
        clear Ca
        (first|rw [rV]|(simp only [bX,cL];rw [rV])|skip)
        obtain ⟨WC,eZ⟩:∃y_:List ByteArray,y_=(([(⟨#[97]⟩:ByteArray),(⟨#[98]⟩:ByteArray),(⟨#[]⟩:ByteArray),(⟨#[104,101,108,108,111]⟩:ByteArray),(⟨#[102,111,117,114,116,101,101,110,32,98,121,116,101,115]⟩:ByteArray),(⟨#[102,105,102,116,101,101,110,32,98,121,116,101,115,46,46]⟩:ByteArray),(⟨#[128]⟩:ByteArray)]:List ByteArray)):=⟨_,rfl⟩
        replace H:((fe.f bM y7 y6 WC).bind fun qB=>(aA.j2 k2 oB rD bM qB.2.1 qB.2.2 oE o5 qB.1))=some (r1,r2,r3):=yH
        have RM:=ak eZ;clear eZ;replace H:=bS H;obtain ⟨⟨SD,Xg,Xf⟩,A23,H⟩:=H
        dsimp only at H
        have H':=ak H
        clear H
        go_wp2_with (first|((with_reducible refine ax (N:=27) rfl ?_);refine Kd.gy Kd.string _ 9 ?hg (N:=27) ?hd (xs:=([(⟨#[97]⟩:ByteArray),(⟨#[98]⟩:ByteArray),(⟨#[]⟩:ByteArray),(⟨#[104,101,108,108,111]⟩:ByteArray),(⟨#[102,111,117,114,116,101,101,110,32,98,121,116,101,115]⟩:ByteArray),(⟨#[102,105,102,116,101,101,110,32,98,121,116,101,115,46,46]⟩:ByteArray),(⟨#[128]⟩:ByteArray)]:List ByteArray)) (inner:=[.string (⟨#[97]⟩:ByteArray),.string (⟨#[98]⟩:ByteArray),.string (⟨#[]⟩:ByteArray),.string (⟨#[104,101,108,108,111]⟩:ByteArray),.string (⟨#[102,111,117,114,116,101,101,110,32,98,121,116,101,115]⟩:ByteArray),.string (⟨#[102,105,102,116,101,101,110,32,98,121,116,101,115,46,46]⟩:ByteArray),.string (⟨#[128]⟩:ByteArray)]) (ok:=fun _=>True) (okp:=fun _=>True) ?hr ?hp (fun _ hk=>hk) trivial (Below.refl _ _) (Nat.le_refl _) (by simp) ?_;(case hd=>rfl);(case hg=>rfl);(case hr=>exact qg);(case hp=>exact (bN.one (show Kd.M Kd.string _ _ _ (⟨#[97]⟩:ByteArray) [.string (⟨#[97]⟩:ByteArray)] from rfl) (bN.one (show Kd.M Kd.string _ _ _ (⟨#[98]⟩:ByteArray) [.string (⟨#[98]⟩:ByteArray)] from rfl) (bN.one (show Kd.M Kd.string _ _ _ (⟨#[]⟩:ByteArray) [.string (⟨#[]⟩:ByteArray)] from rfl) (bN.one (show Kd.M Kd.string _ _ _ (⟨#[104,101,108,108,111]⟩:ByteArray) [.string (⟨#[104,101,108,108,111]⟩:ByteArray)] from rfl) (bN.one (show Kd.M Kd.string _ _ _ (⟨#[102,111,117,114,116,101,101,110,32,98,121,116,101,115]⟩:ByteArray) [.string (⟨#[102,111,117,114,116,101,101,110,32,98,121,116,101,115]⟩:ByteArray)] from rfl) (bN.one (show Kd.M Kd.string _ _ _ (⟨#[102,105,102,116,101,101,110,32,98,121,116,101,115,46,46]⟩:ByteArray) [.string (⟨#[102,105,102,116,101,101,110,32,98,121,116,101,115,46,46]⟩:ByteArray)] from rfl) (bN.one (show Kd.M Kd.string _ _ _ (⟨#[128]⟩:ByteArray) [.string (⟨#[128]⟩:ByteArray)] from rfl) (bN.none _ _)))))))));intro agD w24 Me hb cg dZ;clear cg dZ;(first|rw [←RM.out] at Me|(simp only [Int.reduceToNat] at Me;rw [←RM.out] at Me));replace eJ:=ak (Kd.ey (by (with_reducible repeat (first|apply Kd.cu|apply Kd.ct|apply Kd.cy));exact (Kd.bF (mO (Kd.bF eJ.out (fun k_ hk=>(⟨hk,hk.2⟩:_∧k_≠iH)))) (fun _ h_=>h_.1))) hb);replace oe:=ak (Kd.ey (by (with_reducible repeat (first|apply Kd.cu|apply Kd.ct|apply Kd.cy));exact (Kd.bF (mO (Kd.jB oe.out gz.out (by decide))) (fun _ h_=>h_.1))) hb);have Ac:=ak (Kd.dB Me (iD (w:=w) (g:=g) (row:=none) (oJ HK lD)));replace gz:=ak (eP (g:=iH) (o:= .cells #[.int .i64 oE,.int .i64 o5,.string (⟨#[]⟩:ByteArray)] 53 (0,0)) (by (with_reducible repeat (first|refine dL ?_ _|refine ee ?_|refine dM ?_ _));refine fF (cs:= #[.int .i64 oE,.int .i64 o5,.string (⟨#[]⟩:ByteArray)]) ?_ 2 _ rfl;(with_reducible repeat (first|refine dL ?_ _|refine ee ?_|refine dM ?_ _));refine fF (cs:= #[.int .i64 oE,.int .i64 0,.string (⟨#[]⟩:ByteArray)]) ?_ 1 _ rfl;(with_reducible repeat (first|refine dL ?_ _|refine ee ?_|refine dM ?_ _));refine fF (cs:= #[.int .i64 0,.int .i64 0,.string (⟨#[]⟩:ByteArray)]) ?_ 0 _ rfl;(with_reducible repeat (first|refine dL ?_ _|refine ee ?_|refine dM ?_ _));exact gz.out) hb);replace HK:=ak (aN.trans (oJ HK lD) (aN.lN hb g none) (.inl rfl));replace HB:=ak (aE (au.bg HB dH nJ) hb);replace dH:=ak (au.below (show au w0 (((w19.setCell ⟨iH,0,none⟩ (.int .i64 oE)).setCell ⟨iH,1,none⟩ (.int .i64 o5)).setCell ⟨iH,2,none⟩ (.string (⟨#[]⟩:ByteArray))) g bM y7 y6 from au.df dH fc) hb);clear hb Me;obtain ⟨ahS,ahz,aeg⟩:=Kd.dc Ac.out;subst aeg)|(go_at_call 101;(with_reducible refine (fe.calls g bM y7 y6 _ _ WC SD Xg Xf w0 _ ?side1 ?side2 ?side3 ?side4 ?side5 A23.out).mono ?_);(case side1=>exact au.df dH fc);(case side2=>exact au.bg HB dH nJ);(case side3=>exact cd (Kd.bL Ac.out).2.2);(case side4=>exact (Kd.bL Ac.out).2.1);(case side5=>exact m8 (au.lM dH.out Ac.out (by decide)));rintro e w27 ⟨rfl,hi,hb,hk⟩;replace eJ:=ak (Kd.bF (Kd.iB (au.apart (show au w0 _ g bM y7 y6 from au.df dH fc) (fy eJ) (by decide)) hk (fun _ h=>h.2)) (fun _ h=>h.1));replace oe:=ak (Kd.bF (Kd.iB (au.apart (show au w0 _ g bM y7 y6 from au.df dH fc) (fy oe) (by decide)) hk (fun _ h=>h.2)) (fun _ h=>h.1));replace gz:=ak (aN.bf hk (g':=iH) (o:= .cells #[.int .i64 oE,.int .i64 o5,.string (⟨#[]⟩:ByteArray)] 53 (0,0)) (fk gz) mg.out (by simp));replace Ac:=ak (Kd.bF (Kd.iB (au.apart (show au w0 _ g bM y7 y6 from au.df dH fc) (fy Ac) (by decide)) hk (fun _ h=>h.2)) (fun _ h=>h.1));replace HK:=ak (aN.trans (oJ HK lD) hk (.inl rfl));replace HB:=ak (hb);replace dH:=ak (hi);(try clear hb);(try clear hk);(try clear hi);have Yc:=mg.out;have Yb:=fc.out;have abT:=cA gz))
        go_meet
        case rel=>exact ⟨_,(Xg),(Xf),(SD),H',⟨by have:=vn.out;have:=jj.out;first|omega|exact Nat.le_refl _⟩,⟨by (with_reducible repeat (first|apply Kd.cu|apply Kd.ct|apply Kd.cy));exact Kd.bF (Kd.aao (p:=⟨iH,2,none⟩) (Kd.bF eJ.out (fun k_ hk=>(⟨hk,hk.2⟩:_∧k_≠iH))) (fun _ hk=>hk.2) (.string SD)) (fun _ hk=>hk.1.2)⟩,⟨by (with_reducible repeat (first|refine dL ?_ _|refine ee ?_|refine dM ?_ _));refine fF (cs:= #[.int .i64 oE,.int .i64 o5,.string (⟨#[]⟩:ByteArray)]) ?_ 2 _ rfl;(with_reducible repeat (first|refine dL ?_ _|refine ee ?_|refine dM ?_ _));exact gz.out⟩,⟨au.df dH fc⟩,⟨oJ HK lD⟩,⟨au.bg HB dH nJ⟩⟩
       ·rw [if_neg Ca] at H
        have rV:=jV Ca
        have Zv:=jU Ca
        (first|rw [rV]|(simp only [bX,cL];rw [rV])|skip)
        have H':=ak H
        clear H;go_wp2
        go_meet
        case rel=>exact ⟨_,(y7),(y6),((⟨#[]⟩:ByteArray)),H',⟨by have:=vn.out;have:=jj.out;first|omega|exact Nat.le_refl _⟩,⟨by (with_reducible repeat (first|apply Kd.cu|apply Kd.ct|apply Kd.cy));exact Kd.bF (mO (Kd.bF eJ.out (fun k_ hk=>(⟨hk,hk.2⟩:_∧k_≠iH)))) (fun _ hk=>hk.1.2)⟩,⟨by (with_reducible repeat (first|refine dL ?_ _|refine ee ?_|refine dM ?_ _));refine fF (cs:= #[.int .i64 oE,.int .i64 o5,.string (⟨#[]⟩:ByteArray)]) ?_ 2 _ rfl;(with_reducible repeat (first|refine dL ?_ _|refine ee ?_|refine dM ?_ _));refine fF (cs:= #[.int .i64 oE,.int .i64 0,.string (⟨#[]⟩:ByteArray)]) ?_ 1 _ rfl;(with_reducible repeat (first|refine dL ?_ _|refine ee ?_|refine dM ?_ _));refine fF (cs:= #[.int .i64 0,.int .i64 0,.string (⟨#[]⟩:ByteArray)]) ?_ 0 _ rfl;(with_reducible repeat (first|refine dL ?_ _|refine ee ?_|refine dM ?_ _));exact gz.out⟩,⟨au.df dH fc⟩,⟨oJ HK lD⟩,⟨au.bg HB dH nJ⟩⟩
      case rest=>
       clear VR;(try clear kC);(try clear PO);(try clear PN);(try clear PM);(try clear PK);(try clear PJ);(try clear PI)
       obtain ⟨kq,nc,m9,fQ,HA,Qm,eJ,gz,dH,HK,HB⟩:=hcut
       cases kq with
       |zero=>exact absurd HA.out (by simp [aA.j2])
       |succ De=>
        have H:=HA.out;clear HA
        simp only [aA.j2] at H
        replace H:=bS H;obtain ⟨⟨ach,CK,CJ⟩,A30,H⟩:=H
        dsimp only at H
        by_cases yh:ach=true
        ·subst yh
         have H1:((aJ.f bM CK CJ 5).bind fun ym=>((cB.f bM ym.2.1 ym.2.2 (([(-1),0,4,60]:List Int))).bind fun qA=>((fe.f bM qA.2.1 qA.2.2 (([(⟨#[]⟩:ByteArray),(⟨#[120]⟩:ByteArray)]:List ByteArray))).bind fun nx=>(if oB.length<4398046511104 then (aA.l0 De (oB++[(⟨ym.1,qA.1,nx.1⟩:iK)]) (wrap64 (rD-1)) bM nx.2.1 nx.2.2) else (none)))))=some (r1,r2,r3):=by rw [if_pos rfl] at H;exact H
         clear H
         have H:=H1
         clear H1;replace H:=bS H;obtain ⟨⟨uO,KV,KU⟩,A32,H⟩:=H
         dsimp only at H
         obtain ⟨WB,eZ⟩:∃y_:List Int,y_=(([(-1),0,4,60]:List Int)):=⟨_,rfl⟩
         replace H:((cB.f bM KV KU WB).bind fun qA=>((fe.f bM qA.2.1 qA.2.2 (([(⟨#[]⟩:ByteArray),(⟨#[120]⟩:ByteArray)]:List ByteArray))).bind fun nx=>(if oB.length<4398046511104 then (aA.l0 De (oB++[(⟨uO,qA.1,nx.1⟩:iK)]) (wrap64 (rD-1)) bM nx.2.1 nx.2.2) else (none))))=some (r1,r2,r3):=yH
         have RL:=ak eZ;clear eZ;replace H:=bS H;obtain ⟨⟨y5,I1,I0⟩,A33,H⟩:=H
         dsimp only at H
         obtain ⟨WA,eZ⟩:∃y_:List ByteArray,y_=(([(⟨#[]⟩:ByteArray),(⟨#[120]⟩:ByteArray)]:List ByteArray)):=⟨_,rfl⟩
         replace H:((fe.f bM I1 I0 WA).bind fun nx=>(if oB.length<4398046511104 then (aA.l0 De (oB++[(⟨uO,y5,nx.1⟩:iK)]) (wrap64 (rD-1)) bM nx.2.1 nx.2.2) else (none)))=some (r1,r2,r3):=yH
         have RK:=ak eZ;clear eZ;replace H:=bS H;obtain ⟨⟨Er,On,Om⟩,A34,H⟩:=H
         dsimp only at H
         replace H:=cZ H;obtain ⟨c35,H⟩:=H;have aaR:=ak c35;clear c35
         obtain ⟨Wz,eZ⟩:∃y_:List (iK),y_=(oB++[(⟨uO,y5,Er⟩:iK)]):=⟨_,rfl⟩
         replace H:(aA.l0 De Wz (wrap64 (rD-1)) bM On Om)=some (r1,r2,r3):=yH
         have aaC:=ak eZ;clear eZ
         have H':=ak H
         clear H
         go_wp2_with (first|(go_at_call 77;(with_reducible refine (dR.calls g bM nc m9 40 true CK CJ w0 _ ?side1 ?side2 A30.out).mono ?_);(case side1=>exact au.df dH fc);(case side2=>exact au.bg HB dH nJ);rintro e w36 ⟨rfl,hi,hb,hk⟩;replace eJ:=ak (Kd.bF (Kd.iB (au.apart (show au w0 _ g bM nc m9 from au.df dH fc) (fy eJ) (by decide)) hk (fun _ h=>h.2)) (fun _ h=>h.1));replace gz:=ak (aN.bf hk (g':=iH) (fk gz) mg.out (by simp));replace HK:=ak (aN.trans (oJ HK lD) hk (.inl rfl));replace HB:=ak (hb);replace dH:=ak (hi);(try clear hb);(try clear hk);(try clear hi))|(go_at_call 78;(with_reducible refine (aJ.calls g bM CK CJ 5 uO KV KU w0 _ ?side1 ?side2 A32.out).mono ?_);(case side1=>exact au.df dH fc);(case side2=>exact au.bg HB dH nJ);rintro e w37 ⟨rfl,hi,hb,hk⟩;replace eJ:=ak (Kd.bF (Kd.iB (au.apart (show au w0 _ g bM CK CJ from au.df dH fc) (fy eJ) (by decide)) hk (fun _ h=>h.2)) (fun _ h=>h.1));replace gz:=ak (aN.bf hk (g':=iH) (fk gz) mg.out (by simp));replace HK:=ak (aN.trans (oJ HK lD) hk (.inl rfl));replace HB:=ak (hb);replace dH:=ak (hi);(try clear hb);(try clear hk);(try clear hi))|((with_reducible refine ax (N:=35) rfl ?_);refine Kd.gy (Kd.int .i64) _ 3 ?hg (N:=35) ?hd (xs:=([(-1),0,4,60]:List Int)) (inner:=[.int .i64 (-1),.int .i64 0,.int .i64 4,.int .i64 60]) (ok:=fun _=>True) (okp:=fun _=>True) ?hr ?hp (fun _ hk=>hk) trivial (Below.refl _ _) (Nat.le_refl _) (by simp) ?_;(case hd=>rfl);(case hg=>rfl);(case hr=>exact qg);(case hp=>exact (bN.one (show Kd.M (Kd.int .i64) _ _ _ (-1) [.int .i64 (-1)] from rfl) (bN.one (show Kd.M (Kd.int .i64) _ _ _ 0 [.int .i64 0] from rfl) (bN.one (show Kd.M (Kd.int .i64) _ _ _ 4 [.int .i64 4] from rfl) (bN.one (show Kd.M (Kd.int .i64) _ _ _ 60 [.int .i64 60] from rfl) (bN.none _ _))))));intro agC w38 Mb hb cg dZ;clear cg dZ;(first|rw [←RL.out] at Mb|(simp only [Int.reduceToNat] at Mb;rw [←RL.out] at Mb));replace eJ:=ak (Kd.ey (fy eJ) hb);have pY:=ak (Kd.dB Mb (iD (w:=w) (g:=g) (row:=none) (oJ HK lD)));replace gz:=ak (eP (fk gz) hb);replace HK:=ak (aN.trans (oJ HK lD) (aN.lN hb g none) (.inl rfl));replace HB:=ak (aE (au.bg HB dH nJ) hb);replace dH:=ak (au.below (au.df dH fc) hb);clear hb Mb;obtain ⟨ahQ,ahx,aef⟩:=Kd.dc pY.out;subst aef)|(go_at_call 100;(with_reducible refine (cB.calls g bM KV KU _ _ WB y5 I1 I0 w0 _ ?side1 ?side2 ?side3 ?side4 ?side5 A33.out).mono ?_);(case side1=>exact au.df dH fc);(case side2=>exact au.bg HB dH nJ);(case side3=>exact cd (Kd.bL pY.out).2.2);(case side4=>exact (Kd.bL pY.out).2.1);(case side5=>exact m8 (au.lM dH.out pY.out (by decide)));rintro e w41 ⟨rfl,hi,hb,hk⟩;replace eJ:=ak (Kd.bF (Kd.iB (au.apart (show au w0 _ g bM KV KU from au.df dH fc) (fy eJ) (by decide)) hk (fun _ h=>h.2)) (fun _ h=>h.1));replace gz:=ak (aN.bf hk (g':=iH) (fk gz) mg.out (by simp));replace pY:=ak (Kd.bF (Kd.iB (au.apart (show au w0 _ g bM KV KU from au.df dH fc) (fy pY) (by decide)) hk (fun _ h=>h.2)) (fun _ h=>h.1));replace HK:=ak (aN.trans (oJ HK lD) hk (.inl rfl));replace HB:=ak (hb);replace dH:=ak (hi);(try clear hb);(try clear hk);(try clear hi))|((with_reducible refine ax (N:=38) rfl ?_);refine Kd.gy Kd.string _ 9 ?hg (N:=38) ?hd (xs:=([(⟨#[]⟩:ByteArray),(⟨#[120]⟩:ByteArray)]:List ByteArray)) (inner:=[.string (⟨#[]⟩:ByteArray),.string (⟨#[120]⟩:ByteArray)]) (ok:=fun _=>True) (okp:=fun _=>True) ?hr ?hp (fun _ hk=>hk) trivial (Below.refl _ _) (Nat.le_refl _) (by simp) ?_;(case hd=>rfl);(case hg=>rfl);(case hr=>exact qg);(case hp=>exact (bN.one (show Kd.M Kd.string _ _ _ (⟨#[]⟩:ByteArray) [.string (⟨#[]⟩:ByteArray)] from rfl) (bN.one (show Kd.M Kd.string _ _ _ (⟨#[120]⟩:ByteArray) [.string (⟨#[120]⟩:ByteArray)] from rfl) (bN.none _ _))));intro agB w42 L9 hb cg dZ;clear cg dZ;(first|rw [←RK.out] at L9|(simp only [Int.reduceToNat] at L9;rw [←RK.out] at L9));replace eJ:=ak (Kd.ey (fy eJ) hb);replace pY:=ak (Kd.ey (fy pY) hb);have vP:=ak (Kd.dB L9 (iD (w:=w) (g:=g) (row:=none) (oJ HK lD)));replace gz:=ak (eP (fk gz) hb);replace HK:=ak (aN.trans (oJ HK lD) (aN.lN hb g none) (.inl rfl));replace HB:=ak (aE (au.bg HB dH nJ) hb);replace dH:=ak (au.below (au.df dH fc) hb);clear hb L9;obtain ⟨ahN,ahu,aee⟩:=Kd.dc vP.out;subst aee)|(go_at_call 101;(with_reducible refine (fe.calls g bM I1 I0 _ _ WA Er On Om w0 _ ?side1 ?side2 ?side3 ?side4 ?side5 A34.out).mono ?_);(case side1=>exact au.df dH fc);(case side2=>exact au.bg HB dH nJ);(case side3=>exact cd (Kd.bL vP.out).2.2);(case side4=>exact (Kd.bL vP.out).2.1);(case side5=>exact m8 (au.lM dH.out vP.out (by decide)));rintro e w45 ⟨rfl,hi,hb,hk⟩;replace eJ:=ak (Kd.bF (Kd.iB (au.apart (show au w0 _ g bM I1 I0 from au.df dH fc) (fy eJ) (by decide)) hk (fun _ h=>h.2)) (fun _ h=>h.1));replace gz:=ak (aN.bf hk (g':=iH) (fk gz) mg.out (by simp));replace pY:=ak (Kd.bF (Kd.iB (au.apart (show au w0 _ g bM I1 I0 from au.df dH fc) (fy pY) (by decide)) hk (fun _ h=>h.2)) (fun _ h=>h.1));replace vP:=ak (Kd.bF (Kd.iB (au.apart (show au w0 _ g bM I1 I0 from au.df dH fc) (fy vP) (by decide)) hk (fun _ h=>h.2)) (fun _ h=>h.1));replace HK:=ak (aN.trans (oJ HK lD) hk (.inl rfl));replace HB:=ak (hb);replace dH:=ak (hi);(try clear hb);(try clear hk);(try clear hi);have afv:=mg.out;have afo:=fc.out;have agk:=cA gz)|((with_reducible refine cr (b:= .append) (xs:= #[.tmp 41,.tmp 43]) rfl ?_);at_builtin;refine Kd.lS zN w.heap.size rfl (.tmp 41) (.tmp 43) 40 53 (.agg #[(.int .i64 0),(.int .i64 0),(.string ⟨#[]⟩)]) 32 rfl Tryz.underlying40 LS rfl (by decide) (by omega) u3 oB (⟨uO,y5,Er⟩:iK) [.int .i64 uO,.int .i64 y5,.string Er] (fun k_=>k_≠iH) (fun _=>False) rfl (by first|(go_simp;done)|(go_simp;rfl)) ?aP (fun _ hk=>hk.elim) ?aF ?aO (Below.refl _ _) ?aS ?aL ?_;(case aP=>exact G7 _ _ _ (⟨uO,y5,Er⟩:iK));(case aF=>exact (fun k_ hk=>Kd.FL (g:=iH) (o:= .cells #[.int .i64 uO,.int .i64 y5,.string Er] 53 (0,0)) (by (with_reducible repeat (first|refine dL ?_ _|refine ee ?_|refine dM ?_ _));refine fF (cs:= #[.int .i64 uO,.int .i64 y5,.string fQ]) ?_ 2 _ rfl;(with_reducible repeat (first|refine dL ?_ _|refine ee ?_|refine dM ?_ _));refine fF (cs:= #[.int .i64 uO,.int .i64 o5,.string fQ]) ?_ 1 _ rfl;(with_reducible repeat (first|refine dL ?_ _|refine ee ?_|refine dM ?_ _));refine fF (cs:= #[.int .i64 oE,.int .i64 o5,.string fQ]) ?_ 0 _ rfl;(with_reducible repeat (first|refine dL ?_ _|refine ee ?_|refine dM ?_ _));exact gz.out) k_ hk));(case aO=>exact (by (with_reducible repeat (first|apply Kd.cu|apply Kd.ct|apply Kd.cy));exact Kd.bF (mO (Kd.bF eJ.out (fun k_ hk=>(⟨hk,hk⟩:_∧k_≠iH)))) (fun _ hk=>hk.1)));(case aS=>exact (iD (w:=w) (g:=g) (row:=none) (oJ HK lD)));(case aL=>have:=aaR.out;omega);intro agA w48 ho hb hg gV;rw [←aaC.out] at ho;replace pY:=ak (Kd.Ch (by (with_reducible repeat (first|apply Kd.cu|apply Kd.ct|apply Kd.cy));exact (Kd.bF (mO (Kd.jB pY.out gz.out (by decide))) (fun _ h_=>h_.1))) (Kd.wT (by (with_reducible repeat (first|apply Kd.cu|apply Kd.ct|apply Kd.cy));exact (Kd.bF (mO (Kd.bF eJ.out (fun k_ hk=>(⟨hk,hk⟩:_∧k_≠iH)))) (fun _ h_=>h_.1)))) (by decide) hg);replace vP:=ak (Kd.Ch (by (with_reducible repeat (first|apply Kd.cu|apply Kd.ct|apply Kd.cy));exact (Kd.bF (mO (Kd.jB vP.out gz.out (by decide))) (fun _ h_=>h_.1))) (Kd.wT (by (with_reducible repeat (first|apply Kd.cu|apply Kd.ct|apply Kd.cy));exact (Kd.bF (mO (Kd.bF eJ.out (fun k_ hk=>(⟨hk,hk⟩:_∧k_≠iH)))) (fun _ h_=>h_.1)))) (by decide) hg);replace gz:=ak (lq (g:=iH) (o:= .cells #[.int .i64 uO,.int .i64 y5,.string Er] 53 (0,0)) (by (with_reducible repeat (first|refine dL ?_ _|refine ee ?_|refine dM ?_ _));refine fF (cs:= #[.int .i64 uO,.int .i64 y5,.string fQ]) ?_ 2 _ rfl;(with_reducible repeat (first|refine dL ?_ _|refine ee ?_|refine dM ?_ _));refine fF (cs:= #[.int .i64 uO,.int .i64 o5,.string fQ]) ?_ 1 _ rfl;(with_reducible repeat (first|refine dL ?_ _|refine ee ?_|refine dM ?_ _));refine fF (cs:= #[.int .i64 oE,.int .i64 o5,.string fQ]) ?_ 0 _ rfl;(with_reducible repeat (first|refine dL ?_ _|refine ee ?_|refine dM ?_ _));exact gz.out) hg (Kd.Nr eJ.out (fun _ hk=>hk)));replace HB:=ak (mZ (au.bg HB dH nJ) HL.out hb);replace dH:=ak (au.grown (show au w0 _ g bM On Om from au.df dH fc) hg (au.lM dH.out eJ.out (by decide)));replace HK:=ak (aN.trans (oJ HK lD) (aN.nk hg g) (Kd.wU eJ.out));have aa8:=ak (ho);clear eJ;clear ho hb hg gV))
         go_roundg De
         case measure=>have:=vn.out;have:=jj.out;have:=Qm.out;omega
         case rel=>exact ⟨(Wz),(wrap64 (rD-1)),(On),(Om),er,H',⟨by have:=vn.out;have:=jj.out;have:=Qm.out;omega⟩,⟨by (with_reducible repeat (first|apply Kd.cu|apply Kd.ct|apply Kd.cy));exact Kd.bF aa8.out (fun _ hk=>trivial)⟩,⟨au.df dH fc⟩,⟨oJ HK lD⟩,⟨au.bg HB dH nJ⟩⟩
        ·replace yh:=Bool.eq_false_iff.mpr yh
         subst yh
         have H1:(if oB.length<4398046511104 then (aA.l0 De (oB++[(⟨oE,o5,fQ⟩:iK)]) (wrap64 (rD-1)) bM CK CJ) else (none))=some (r1,r2,r3):=by rw [if_neg (show¬(false=true) by decide)] at H;exact H
         clear H
         have H:=H1
         clear H1;replace H:=cZ H;obtain ⟨Zj,H⟩:=H;have aaQ:=ak Zj;clear Zj
         obtain ⟨Wy,eZ⟩:∃y_:List (iK),y_=(oB++[(⟨oE,o5,fQ⟩:iK)]):=⟨_,rfl⟩
         replace H:(aA.l0 De Wy (wrap64 (rD-1)) bM CK CJ)=some (r1,r2,r3):=yH
         have aaB:=ak eZ;clear eZ
         have H':=ak H
         clear H
         go_wp2_with (first|(go_at_call 77;(with_reducible refine (dR.calls g bM nc m9 40 false CK CJ w0 _ ?side1 ?side2 A30.out).mono ?_);(case side1=>exact au.df dH fc);(case side2=>exact au.bg HB dH nJ);rintro e w50 ⟨rfl,hi,hb,hk⟩;replace eJ:=ak (Kd.bF (Kd.iB (au.apart (show au w0 _ g bM nc m9 from au.df dH fc) (fy eJ) (by decide)) hk (fun _ h=>h.2)) (fun _ h=>h.1));replace gz:=ak (aN.bf hk (g':=iH) (fk gz) mg.out (by simp));replace HK:=ak (aN.trans (oJ HK lD) hk (.inl rfl));replace HB:=ak (hb);replace dH:=ak (hi);(try clear hb);(try clear hk);(try clear hi);have afu:=mg.out;have afn:=fc.out;have agj:=cA gz)|((with_reducible refine cr (b:= .append) (xs:= #[.tmp 41,.tmp 43]) rfl ?_);at_builtin;refine Kd.lS zN w.heap.size rfl (.tmp 41) (.tmp 43) 40 53 (.agg #[(.int .i64 0),(.int .i64 0),(.string ⟨#[]⟩)]) 32 rfl Tryz.underlying40 LS rfl (by decide) (by omega) u3 oB (⟨oE,o5,fQ⟩:iK) [.int .i64 oE,.int .i64 o5,.string fQ] (fun k_=>k_≠iH) (fun _=>False) rfl rfl ?aP (fun _ hk=>hk.elim) ?aF ?aO (Below.refl _ _) ?aS ?aL ?_;(case aP=>exact G7 _ _ _ (⟨oE,o5,fQ⟩:iK));(case aF=>exact (fun k_ hk=>Kd.FL (fk gz) k_ hk));(case aO=>exact (fy eJ));(case aS=>exact (iD (w:=w) (g:=g) (row:=none) (oJ HK lD)));(case aL=>have:=aaQ.out;omega);intro agz w53 ho hb hg gV;rw [←aaB.out] at ho;replace gz:=ak (lq (fk gz) hg (Kd.Nr eJ.out (fun _ hk=>hk)));replace HB:=ak (mZ (au.bg HB dH nJ) HL.out hb);replace dH:=ak (au.grown (au.df dH fc) hg (au.lM dH.out eJ.out (by decide)));replace HK:=ak (aN.trans (oJ HK lD) (aN.nk hg g) (Kd.wU eJ.out));have aa7:=ak (ho);clear eJ;clear ho hb hg gV))
         go_roundg De
         case measure=>have:=vn.out;have:=jj.out;have:=Qm.out;omega
         case rel=>exact ⟨(Wy),(wrap64 (rD-1)),(CK),(CJ),er,H',⟨by have:=vn.out;have:=jj.out;have:=Qm.out;omega⟩,⟨by (with_reducible repeat (first|apply Kd.cu|apply Kd.ct|apply Kd.cy));exact Kd.bF aa7.out (fun _ hk=>trivial)⟩,⟨au.df dH fc⟩,⟨oJ HK lD⟩,⟨au.bg HB dH nJ⟩⟩
     ·rw [if_neg gu] at H
      have kC:=H7 gu
      clear gu
      simp only [Option.some.injEq,Prod.mk.injEq] at H
      obtain ⟨rfl,rfl,rfl⟩:=H;go_wp2
      go_ret
      exact ⟨_,jT,by (with_reducible repeat (first|apply Kd.cu|apply Kd.ct|apply Kd.cy));exact eJ.out,au.d dH,au.b HB dH,mo HK⟩
def fM.f (k:Nat) (l0:List Int):Option (List Int×(List (iK))):=(bU.f k l0 0 0).bind fun yl=>((aA.f k l0 yl.2.1 yl.2.2).bind fun M0=>(some (yl.1,M0.1)))
theorem fM.calls (k:Nat) (A0:Option Addr) (c0:Nat) (l0:List Int) (r1:List Int) (r2:List (iK)) (w:World) (eT:Kd.C (Kd.int .u8) w A0 l0.length l0) (fE:l0.length≤c0) (h:fM.f k l0=some (r1,r2)):
  Calls Tryz.prog 31 #[.slice A0 l0.length c0] w fun e w'=>∃kV zq:Value,e= .returned (.tuple #[kV,zq])∧Kd.R (Kd.int .i64) 3 w' w.heap.size (fun _=>True) kV r1∧Kd.R zN 53 w' w.heap.size (fun _=>True) zq r2∧Below w.heap.size w w':=by
 have ado:=Tryz.underlying89
 have fB:=ak eT;have jD:=ak fE;clear eT fE
 have HB:=ak (Below.refl w.heap.size w)
 have H:((bU.f k l0 0 0).bind fun yl=>((aA.f k l0 yl.2.1 yl.2.2).bind fun M0=>(some (yl.1,M0.1))))=some (r1,r2):=h
 clear h;replace H:=bS H;obtain ⟨⟨acg,SC,SB⟩,A2,H⟩:=H
 dsimp only at H
 replace H:=bS H;obtain ⟨⟨acf,ace,acd⟩,A3,H⟩:=H
 dsimp only at H
 simp only [Option.some.injEq,Prod.mk.injEq] at H
 obtain ⟨rfl,rfl⟩:=H
 go_enter Tryz.func31,Tryz.ntmps31
 go_wp2_with (first|((with_reducible refine ax (N:=7) rfl ?_);refine cm 7 #[.slice A0 l0.length c0,.int .i64 0,.int .u64 0] 89 ?_;intro Ia hg w4 dO hb;have r7:=ak ((show au w w4 Ia l0 0 0 from au.AJ dO (by rw [hg];exact (bC (ai HB))) fB.out));replace HB:=ak (aE (ai HB) hb);clear hb dO hg)|(go_at_call 65;(with_reducible refine (bU.calls k Ia l0 0 0 acg SC SB w _ ?side1 ?side2 A2.out).mono ?_);(case side1=>exact au.d r7);(case side2=>exact au.b HB r7);rintro e w5 ⟨agy,rfl,uE,hi,hb,hk⟩;have ND:=ak (Kd.dB uE (bC (au.b HB r7)));replace HB:=ak (hb);replace r7:=ak (hi);(try clear hb);(try clear hk);(try clear hi);(try clear uE))|(go_at_call 66;(with_reducible refine (aA.calls k Ia l0 SC SB acf ace acd w _ ?side1 ?side2 A3.out).mono ?_);(case side1=>exact au.d r7);(case side2=>exact au.b HB r7);rintro e w6 ⟨agx,rfl,uE,hi,hb,hk⟩;replace ND:=ak (Kd.bF (Kd.iB (au.apart (show au w _ Ia l0 SC SB from au.d r7) (fy ND) (by decide)) hk (fun _ h=>h.2)) (fun _ h=>h.1));have aa6:=ak (Kd.dB uE (bC (au.b HB r7)));replace HB:=ak (hb);replace r7:=ak (hi);(try clear hb);(try clear hk);(try clear hi);(try clear uE)))
 go_ret2
 exact ⟨_,_,jT,by (with_reducible repeat (first|apply Kd.cu|apply Kd.ct|apply Kd.cy));exact ND.out,by (with_reducible repeat (first|apply Kd.cu|apply Kd.ct|apply Kd.cy));exact aa6.out,au.b HB r7⟩
def eu.l0:Nat→List Bool→List Bool→Int→Int→Option (Bool)
  |0,_,_,_,_=>none
  |k+1,x0,x1,KD,gJ=>if gJ<KD then (if 0≤gJ then (if gJ<(x0.length:Int) then (if gJ<(x1.length:Int) then (if ((aV false x0 gJ) !=(aV false x1 gJ))=true then (some false) else (eu.l0 k x0 x1 KD (wrap64 (gJ+1)))) else (none)) else (none)) else (none)) else (some true)
def eu.f (k:Nat) (l0:List Bool) (l1:List Bool):Option (Bool):=if (l0.length:Int)=(l1.length:Int) then (eu.l0 k l0 l1 (l0.length:Int) 0) else (some false)
theorem eu.calls (k:Nat) (A0:Option Addr) (c0:Nat) (l0:List Bool) (A1:Option Addr) (c1:Nat) (l1:List Bool) (r:Bool) (w:World) (eT:Kd.C Kd.bool w A0 l0.length l0) (fE:l0.length≤c0) (nY:Kd.C Kd.bool w A1 l1.length l1) (mY:l1.length≤c1) (h:eu.f k l0 l1=some r):
  Calls Tryz.prog 32 #[.slice A0 l0.length c0,.slice A1 l1.length c1] w fun e w'=>e= .returned (.bool r)∧cH w w':=by
 have fB:=ak eT;have jD:=ak fE;clear eT fE;have pX:=ak nY;have Ed:=ak mY;clear nY mY
 have H:(if (l0.length:Int)=(l1.length:Int) then (eu.l0 k l0 l1 (l0.length:Int) 0) else (some false))=some r:=h
 clear h
 by_cases c3:(l0.length:Int)=(l1.length:Int)
 ·rw [if_pos c3] at H
  have jh:=kI c3
  have sN:=kH c3
  have yf:(l0.length==l1.length)=true:=by first|simpa using c3|(simp at c3⊢;omega)
  clear c3
  have H':=ak H
  clear H
  go_enter Tryz.func32,Tryz.ntmps32
  go_wp2
  repeat (go_quiet (fail);try go_wp2)
  go_loopg [13] k (fun kq Oa w'=>∃(cF:Int),Oa= .int .i64 cF∧Aside0 (eu.l0 kq l0 l1 (l0.length:Int) cF=some r)∧Aside0 (kq≤k)∧cH w w')
  case atStart=>exact ⟨(0),er,H',⟨Nat.le_refl _⟩,gh⟩
  case round=>
   clear H'
   (try clear c1);(try clear jh);(try clear sN);(try clear yf)
   obtain ⟨cF,rfl,HA,fP,⟨m1,rfl⟩⟩:=hrel
   cases gk with
   |zero=>exact absurd HA.out (by simp [eu.l0])
   |succ k1=>
    have H:=HA.out;clear HA
    simp only [eu.l0] at H
    by_cases c4:cF<(l0.length:Int)
    ·rw [if_pos c4] at H
     have iI:=decide_eq_true c4
     clear c4;replace H:=cZ H;obtain ⟨c5,H⟩:=H;have jg:=decide_eq_true c5;clear c5;replace H:=cZ H;obtain ⟨c6,H⟩:=H;have jz:=decide_eq_true c6;clear c6;replace H:=cZ H;obtain ⟨c7,H⟩:=H;have rF:=decide_eq_true c7;clear c7
     by_cases c8:((aV false l0 cF) !=(aV false l1 cF))=true
     ·rw [if_pos c8] at H
      have wm:((aV false l0 cF) !=(aV false l1 cF))=true:=c8
      (try (have DD:decide ((aV false l0 cF)=(aV false l1 cF))=false:=by simpa using c8))
      (try (have aeR:((aV false l0 cF)==(aV false l1 cF))=false:=by simpa using c8))
      (try (have ahI:¬((aV false l0 cF)=(aV false l1 cF)):=by simpa using c8))
      clear c8
      obtain rfl:=Option.some.inj H
      obtain ⟨ac9,acT,Z1,UN,Po⟩:=m5 (Kd.kP fB.out cF)
      cases UN
      have EV:0≤(cF:Int):=da
      have ED:cF<(l1.length:Int):=da
      obtain ⟨Z0,UM,Pn⟩:=Kd.kP pX.out cF EV ED
      cases UM
      replace EV:=eq_true EV;replace ED:=eq_true ED;go_wp2
      repeat (go_quiet (fail);try go_wp2)
      go_ret
      exact ⟨er,gh⟩
     ·rw [if_neg c8] at H
      have wm:((aV false l0 cF) !=(aV false l1 cF))=false:=by simpa using c8
      (try (have DD:decide ((aV false l0 cF)=(aV false l1 cF))=true:=by simpa using c8))
      (try (have aeR:((aV false l0 cF)==(aV false l1 cF))=true:=by simpa using c8))
      clear c8
      have H':=ak H
      clear H
      obtain ⟨ac9,acT,Z1,UN,Po⟩:=m5 (Kd.kP fB.out cF)
      cases UN
      have EV:0≤(cF:Int):=da
      have ED:cF<(l1.length:Int):=da
      obtain ⟨Z0,UM,Pn⟩:=Kd.kP pX.out cF EV ED
      cases UM
      replace EV:=eq_true EV;replace ED:=eq_true ED;go_wp2
      repeat (go_quiet (fail);try go_wp2)
      go_roundg k1
      case measure=>have:=fP.out;omega
      case rel=>exact ⟨(wrap64 (cF+1)),er,H',⟨by have:=fP.out;omega⟩,gh⟩
    ·rw [if_neg c4] at H
     have iI:=decide_eq_false c4
     clear c4
     obtain rfl:=Option.some.inj H
     go_wp2
     repeat (go_quiet (fail);try go_wp2)
     go_ret
     exact ⟨er,gh⟩
 ·rw [if_neg c3] at H
  have jh:=jV c3
  have sN:=jU c3
  have yf:(l0.length==l1.length)=false:=by first|simpa using c3|(simp at c3⊢;omega)
  obtain rfl:=Option.some.inj H
  go_enter Tryz.func32,Tryz.ntmps32
  go_wp2
  repeat (go_quiet (fail);try go_wp2)
  go_ret
  exact ⟨er,gh⟩
def dh.l0:Nat→List Int→List Int→Int→Int→Option (Bool)
  |0,_,_,_,_=>none
  |k+1,x0,x1,KD,gJ=>if gJ<KD then (if 0≤gJ then (if gJ<(x0.length:Int) then (if gJ<(x1.length:Int) then (if (rd x0 gJ)=(rd x1 gJ) then (dh.l0 k x0 x1 KD (wrap64 (gJ+1))) else (some false)) else (none)) else (none)) else (none)) else (some true)
def dh.f (k:Nat) (l0:List Int) (l1:List Int):Option (Bool):=if (l0.length:Int)=(l1.length:Int) then (dh.l0 k l0 l1 (l0.length:Int) 0) else (some false)
theorem dh.calls (k:Nat) (A0:Option Addr) (c0:Nat) (l0:List Int) (A1:Option Addr) (c1:Nat) (l1:List Int) (r:Bool) (w:World) (eT:Kd.C (Kd.int .i64) w A0 l0.length l0) (fE:l0.length≤c0) (nY:Kd.C (Kd.int .i64) w A1 l1.length l1) (mY:l1.length≤c1) (h:dh.f k l0 l1=some r):
  Calls Tryz.prog 67 #[.slice A0 l0.length c0,.slice A1 l1.length c1] w fun e w'=>e= .returned (.bool r)∧cH w w':=by
 have fB:=ak eT;have jD:=ak fE;clear eT fE;have pX:=ak nY;have Ed:=ak mY;clear nY mY
 have H:(if (l0.length:Int)=(l1.length:Int) then (dh.l0 k l0 l1 (l0.length:Int) 0) else (some false))=some r:=h
 clear h
 by_cases c3:(l0.length:Int)=(l1.length:Int)
 ·rw [if_pos c3] at H
  have jh:=kI c3
  have sN:=kH c3
  have yf:(l0.length==l1.length)=true:=by first|simpa using c3|(simp at c3⊢;omega)
  clear c3
  have H':=ak H
  clear H
  go_enter Tryz.func67,Tryz.ntmps67
  go_wp2
  repeat (go_quiet (fail);try go_wp2)
  go_loopg [13] k (fun kq Oa w'=>∃(cF:Int),Oa= .int .i64 cF∧Aside0 (dh.l0 kq l0 l1 (l0.length:Int) cF=some r)∧Aside0 (kq≤k)∧cH w w')
  case atStart=>exact ⟨(0),er,H',⟨Nat.le_refl _⟩,gh⟩
  case round=>
   clear H'
   (try clear c1);(try clear jh);(try clear sN);(try clear yf)
   obtain ⟨cF,rfl,HA,fP,⟨m1,rfl⟩⟩:=hrel
   cases gk with
   |zero=>exact absurd HA.out (by simp [dh.l0])
   |succ k1=>
    have H:=HA.out;clear HA
    simp only [dh.l0] at H
    by_cases c4:cF<(l0.length:Int)
    ·rw [if_pos c4] at H
     have iI:=decide_eq_true c4
     clear c4;replace H:=cZ H;obtain ⟨c5,H⟩:=H;have jg:=decide_eq_true c5;clear c5;replace H:=cZ H;obtain ⟨c6,H⟩:=H;have jz:=decide_eq_true c6;clear c6;replace H:=cZ H;obtain ⟨c7,H⟩:=H;have rF:=decide_eq_true c7;clear c7
     by_cases c8:(rd l0 cF)=(rd l1 cF)
     ·rw [if_pos c8] at H
      have wm:=kI c8
      have DD:=kH c8
      clear c8
      have H':=ak H
      clear H
      obtain ⟨ac8,acS,ZZ,UL,Pm⟩:=m5 (Kd.jA fB.out cF)
      cases UL
      have EU:0≤(cF:Int):=da
      have EC:cF<(l1.length:Int):=da
      obtain ⟨ZY,UK,Pj⟩:=Kd.jA pX.out cF EU EC
      cases UK
      replace EU:=eq_true EU;replace EC:=eq_true EC;go_wp2
      repeat (go_quiet (fail);try go_wp2)
      go_roundg k1
      case measure=>have:=fP.out;omega
      case rel=>exact ⟨(wrap64 (cF+1)),er,H',⟨by have:=fP.out;omega⟩,gh⟩
     ·rw [if_neg c8] at H
      have wm:=jV c8
      have DD:=jU c8
      obtain rfl:=Option.some.inj H
      obtain ⟨ac8,acS,ZZ,UL,Pm⟩:=m5 (Kd.jA fB.out cF)
      cases UL
      have EU:0≤(cF:Int):=da
      have EC:cF<(l1.length:Int):=da
      obtain ⟨ZY,UK,Pj⟩:=Kd.jA pX.out cF EU EC
      cases UK
      replace EU:=eq_true EU;replace EC:=eq_true EC;go_wp2
      repeat (go_quiet (fail);try go_wp2)
      go_ret
      exact ⟨er,gh⟩
    ·rw [if_neg c4] at H
     have iI:=decide_eq_false c4
     clear c4
     obtain rfl:=Option.some.inj H
     go_wp2
     repeat (go_quiet (fail);try go_wp2)
     go_ret
     exact ⟨er,gh⟩
 ·rw [if_neg c3] at H
  have jh:=jV c3
  have sN:=jU c3
  have yf:(l0.length==l1.length)=false:=by first|simpa using c3|(simp at c3⊢;omega)
  obtain rfl:=Option.some.inj H
  go_enter Tryz.func67,Tryz.ntmps67
  go_wp2
  repeat (go_quiet (fail);try go_wp2)
  go_ret
  exact ⟨er,gh⟩
def cq.l0:Nat→List ByteArray→List ByteArray→Int→Int→Option (Bool)
  |0,_,_,_,_=>none
  |k+1,x0,x1,KD,gJ=>if gJ<KD then (if 0≤gJ then (if gJ<(x0.length:Int) then (if gJ<(x1.length:Int) then (if (aV ByteArray.empty x0 gJ).toList=(aV ByteArray.empty x1 gJ).toList then (cq.l0 k x0 x1 KD (wrap64 (gJ+1))) else (some false)) else (none)) else (none)) else (none)) else (some true)
def cq.f (k:Nat) (l0:List ByteArray) (l1:List ByteArray):Option (Bool):=if (l0.length:Int)=(l1.length:Int) then (cq.l0 k l0 l1 (l0.length:Int) 0) else (some false)
theorem cq.calls (k:Nat) (A0:Option Addr) (c0:Nat) (l0:List ByteArray) (A1:Option Addr) (c1:Nat) (l1:List ByteArray) (r:Bool) (w:World) (eT:Kd.C Kd.string w A0 l0.length l0) (fE:l0.length≤c0) (nY:Kd.C Kd.string w A1 l1.length l1) (mY:l1.length≤c1) (h:cq.f k l0 l1=some r):
  Calls Tryz.prog 38 #[.slice A0 l0.length c0,.slice A1 l1.length c1] w fun e w'=>e= .returned (.bool r)∧cH w w':=by
 have fB:=ak eT;have jD:=ak fE;clear eT fE;have pX:=ak nY;have Ed:=ak mY;clear nY mY
 have H:(if (l0.length:Int)=(l1.length:Int) then (cq.l0 k l0 l1 (l0.length:Int) 0) else (some false))=some r:=h
 clear h
 by_cases c3:(l0.length:Int)=(l1.length:Int)
 ·rw [if_pos c3] at H
  have jh:=kI c3
  have sN:=kH c3
  have yf:(l0.length==l1.length)=true:=by first|simpa using c3|(simp at c3⊢;omega)
  clear c3
  have H':=ak H
  clear H
  go_enter Tryz.func38,Tryz.ntmps38
  go_wp2
  repeat (go_quiet (fail);try go_wp2)
  go_loopg [13] k (fun kq Oa w'=>∃(cF:Int),Oa= .int .i64 cF∧Aside0 (cq.l0 kq l0 l1 (l0.length:Int) cF=some r)∧Aside0 (kq≤k)∧cH w w')
  case atStart=>exact ⟨(0),er,H',⟨Nat.le_refl _⟩,gh⟩
  case round=>
   clear H'
   (try clear c1);(try clear jh);(try clear sN);(try clear yf)
   obtain ⟨cF,rfl,HA,fP,⟨m1,rfl⟩⟩:=hrel
   cases gk with
   |zero=>exact absurd HA.out (by simp [cq.l0])
   |succ k1=>
    have H:=HA.out;clear HA
    simp only [cq.l0] at H
    by_cases c4:cF<(l0.length:Int)
    ·rw [if_pos c4] at H
     have iI:=decide_eq_true c4
     clear c4;replace H:=cZ H;obtain ⟨c5,H⟩:=H;have jg:=decide_eq_true c5;clear c5;replace H:=cZ H;obtain ⟨c6,H⟩:=H;have jz:=decide_eq_true c6;clear c6;replace H:=cZ H;obtain ⟨c7,H⟩:=H;have rF:=decide_eq_true c7;clear c7
     by_cases c8:(aV ByteArray.empty l0 cF).toList=(aV ByteArray.empty l1 cF).toList
     ·rw [if_pos c8] at H
      have wm:=kI c8
      have DD:=kH c8
      clear c8
      have H':=ak H
      clear H
      obtain ⟨ac7,acR,ZX,UJ,Ph⟩:=m5 (Kd.bh fB.out cF)
      cases UJ
      have ET:0≤(cF:Int):=da
      have EB:cF<(l1.length:Int):=da
      obtain ⟨ZW,UI,Pg⟩:=Kd.bh pX.out cF ET EB
      cases UI
      replace ET:=eq_true ET;replace EB:=eq_true EB;go_wp2
      repeat (go_quiet (fail);try go_wp2)
      go_roundg k1
      case measure=>have:=fP.out;omega
      case rel=>exact ⟨(wrap64 (cF+1)),er,H',⟨by have:=fP.out;omega⟩,gh⟩
     ·rw [if_neg c8] at H
      have wm:=jV c8
      have DD:=jU c8
      obtain rfl:=Option.some.inj H
      obtain ⟨ac7,acR,ZX,UJ,Ph⟩:=m5 (Kd.bh fB.out cF)
      cases UJ
      have ET:0≤(cF:Int):=da
      have EB:cF<(l1.length:Int):=da
      obtain ⟨ZW,UI,Pg⟩:=Kd.bh pX.out cF ET EB
      cases UI
      replace ET:=eq_true ET;replace EB:=eq_true EB;go_wp2
      repeat (go_quiet (fail);try go_wp2)
      go_ret
      exact ⟨er,gh⟩
    ·rw [if_neg c4] at H
     have iI:=decide_eq_false c4
     clear c4
     obtain rfl:=Option.some.inj H
     go_wp2
     repeat (go_quiet (fail);try go_wp2)
     go_ret
     exact ⟨er,gh⟩
 ·rw [if_neg c3] at H
  have jh:=jV c3
  have sN:=jU c3
  have yf:(l0.length==l1.length)=false:=by first|simpa using c3|(simp at c3⊢;omega)
  obtain rfl:=Option.some.inj H
  go_enter Tryz.func38,Tryz.ntmps38
  go_wp2
  repeat (go_quiet (fail);try go_wp2)
  go_ret
  exact ⟨er,gh⟩
def bB.l0:Nat→List (List ByteArray)→List (List ByteArray)→Int→Int→Option (Bool)
  |0,_,_,_,_=>none
  |k+1,x0,x1,KD,gJ=>if gJ<KD then (if 0≤gJ then (if gJ<(x0.length:Int) then (if gJ<(x1.length:Int) then ((cq.f k (bK x0 gJ) (bK x1 gJ)).bind fun Sz=>(if Sz=true then (bB.l0 k x0 x1 KD (wrap64 (gJ+1))) else (some false))) else (none)) else (none)) else (none)) else (some true)
def bB.f (k:Nat) (l0:List (List ByteArray)) (l1:List (List ByteArray)):Option (Bool):=if (l0.length:Int)=(l1.length:Int) then (bB.l0 k l0 l1 (l0.length:Int) 0) else (some false)
theorem bB.calls (k:Nat) (A0:Option Addr) (c0:Nat) (l0:List (List ByteArray)) (A1:Option Addr) (c1:Nat) (l1:List (List ByteArray)) (r:Bool) (w:World) (eT:Kd.C (Kd.slice 9 Kd.string) w A0 l0.length l0) (fE:l0.length≤c0) (nY:Kd.C (Kd.slice 9 Kd.string) w A1 l1.length l1) (mY:l1.length≤c1) (h:bB.f k l0 l1=some r):
  Calls Tryz.prog 68 #[.slice A0 l0.length c0,.slice A1 l1.length c1] w fun e w'=>e= .returned (.bool r)∧cH w w':=by
 have fB:=ak eT;have jD:=ak fE;clear eT fE;have pX:=ak nY;have Ed:=ak mY;clear nY mY
 have H:(if (l0.length:Int)=(l1.length:Int) then (bB.l0 k l0 l1 (l0.length:Int) 0) else (some false))=some r:=h
 clear h
 by_cases c3:(l0.length:Int)=(l1.length:Int)
 ·rw [if_pos c3] at H
  have jh:=kI c3
  have sN:=kH c3
  have yf:(l0.length==l1.length)=true:=by first|simpa using c3|(simp at c3⊢;omega)
  clear c3
  have H':=ak H
  clear H
  go_enter Tryz.func68,Tryz.ntmps68
  go_wp2
  repeat (go_quiet (fail);try go_wp2)
  go_loopg [13] k (fun kq Oa w'=>∃(cF:Int),Oa= .int .i64 cF∧Aside0 (bB.l0 kq l0 l1 (l0.length:Int) cF=some r)∧Aside0 (kq≤k)∧cH w w')
  case atStart=>exact ⟨(0),er,H',⟨Nat.le_refl _⟩,gh⟩
  case round=>
   clear H'
   (try clear c1);(try clear jh);(try clear sN);(try clear yf)
   obtain ⟨cF,rfl,HA,fP,⟨m1,rfl⟩⟩:=hrel
   cases gk with
   |zero=>exact absurd HA.out (by simp [bB.l0])
   |succ k1=>
    have H:=HA.out;clear HA
    simp only [bB.l0] at H
    by_cases c4:cF<(l0.length:Int)
    ·rw [if_pos c4] at H
     have iI:=decide_eq_true c4
     clear c4;replace H:=cZ H;obtain ⟨c5,H⟩:=H;have jg:=decide_eq_true c5;clear c5;replace H:=cZ H;obtain ⟨c6,H⟩:=H;have jz:=decide_eq_true c6;clear c6;replace H:=cZ H;obtain ⟨c7,H⟩:=H;have rF:=decide_eq_true c7;clear c7;replace H:=bS H;obtain ⟨Sz,A8,H⟩:=H
     by_cases c9:Sz=true
     ·subst c9
      have H1:(bB.l0 k1 l0 l1 (l0.length:Int) (wrap64 (cF+1)))=some r:=by rw [if_pos rfl] at H;exact H
      clear H
      have H:=H1
      clear H1
      have H':=ak H
      clear H
      have ES:0≤(cF:Int):=da
      have EA:cF<(l0.length:Int):=da
      obtain ⟨ZV,VW,Vc,UH,Pf,tM,tV⟩:=lu fB.out cF ES EA
      cases UH
      have pP:=ak tV;have pR:=ak tM;clear tV tM;replace ES:=eq_true ES;replace EA:=eq_true EA
      have ER:0≤(cF:Int):=da
      have Ez:cF<(l1.length:Int):=da
      obtain ⟨ZU,VV,Vb,UG,Pe,tL,tU⟩:=lu pX.out cF ER Ez
      cases UG
      have pO:=ak tU;have pQ:=ak tL;clear tU tL;replace ER:=eq_true ER;replace Ez:=eq_true Ez
      go_wp2_with (first|(go_at_call 38;(with_reducible refine (cq.calls k1 _ _ (bK l0 cF) _ _ (bK l1 cF) true _ ?side1 ?side2 ?side3 ?side4 A8.out).mono ?_);(case side1=>exact cd pP.out);(case side2=>exact pR.out);(case side3=>exact cd pO.out);(case side4=>exact pQ.out);rintro e w' ⟨rfl,⟨nd,rfl⟩⟩;(try first|exact ⟨rfl,_,World.drewN_drewN _ _ _⟩|exact ⟨rfl,_,Eq.trans (World.drewN_drewN _ _ _) (congrArg (World.drewN _) (Nat.add_assoc _ _ _))⟩)))
      repeat (go_quiet (first|(go_at_call 38;(with_reducible refine (cq.calls k1 _ _ (bK l0 cF) _ _ (bK l1 cF) true _ ?side1 ?side2 ?side3 ?side4 A8.out).mono ?_);(case side1=>exact cd pP.out);(case side2=>exact pR.out);(case side3=>exact cd pO.out);(case side4=>exact pQ.out);rintro e w' ⟨rfl,⟨nd,rfl⟩⟩;(try first|exact ⟨rfl,_,World.drewN_drewN _ _ _⟩|exact ⟨rfl,_,Eq.trans (World.drewN_drewN _ _ _) (congrArg (World.drewN _) (Nat.add_assoc _ _ _))⟩)));try go_wp2_with (first|(go_at_call 38;(with_reducible refine (cq.calls k1 _ _ (bK l0 cF) _ _ (bK l1 cF) true _ ?side1 ?side2 ?side3 ?side4 A8.out).mono ?_);(case side1=>exact cd pP.out);(case side2=>exact pR.out);(case side3=>exact cd pO.out);(case side4=>exact pQ.out);rintro e w' ⟨rfl,⟨nd,rfl⟩⟩;(try first|exact ⟨rfl,_,World.drewN_drewN _ _ _⟩|exact ⟨rfl,_,Eq.trans (World.drewN_drewN _ _ _) (congrArg (World.drewN _) (Nat.add_assoc _ _ _))⟩))))
      go_roundg k1
      case measure=>have:=fP.out;omega
      case rel=>exact ⟨(wrap64 (cF+1)),er,H',⟨by have:=fP.out;omega⟩,gh⟩
     ·replace c9:=Bool.eq_false_iff.mpr c9
      subst c9
      have H1:(some false)=some r:=by rw [if_neg (show¬(false=true) by decide)] at H;exact H
      clear H
      have H:=H1
      clear H1
      obtain rfl:=Option.some.inj H
      have ES:0≤(cF:Int):=da
      have EA:cF<(l0.length:Int):=da
      obtain ⟨ZV,VW,Vc,UH,Pf,tM,tV⟩:=lu fB.out cF ES EA
      cases UH
      have pP:=ak tV;have pR:=ak tM;clear tV tM;replace ES:=eq_true ES;replace EA:=eq_true EA
      have ER:0≤(cF:Int):=da
      have Ez:cF<(l1.length:Int):=da
      obtain ⟨ZU,VV,Vb,UG,Pe,tL,tU⟩:=lu pX.out cF ER Ez
      cases UG
      have pO:=ak tU;have pQ:=ak tL;clear tU tL;replace ER:=eq_true ER;replace Ez:=eq_true Ez
      go_wp2_with (first|(go_at_call 38;(with_reducible refine (cq.calls k1 _ _ (bK l0 cF) _ _ (bK l1 cF) false _ ?side1 ?side2 ?side3 ?side4 A8.out).mono ?_);(case side1=>exact cd pP.out);(case side2=>exact pR.out);(case side3=>exact cd pO.out);(case side4=>exact pQ.out);rintro e w' ⟨rfl,⟨nd,rfl⟩⟩;(try first|exact ⟨rfl,_,World.drewN_drewN _ _ _⟩|exact ⟨rfl,_,Eq.trans (World.drewN_drewN _ _ _) (congrArg (World.drewN _) (Nat.add_assoc _ _ _))⟩)))
      repeat (go_quiet (first|(go_at_call 38;(with_reducible refine (cq.calls k1 _ _ (bK l0 cF) _ _ (bK l1 cF) false _ ?side1 ?side2 ?side3 ?side4 A8.out).mono ?_);(case side1=>exact cd pP.out);(case side2=>exact pR.out);(case side3=>exact cd pO.out);(case side4=>exact pQ.out);rintro e w' ⟨rfl,⟨nd,rfl⟩⟩;(try first|exact ⟨rfl,_,World.drewN_drewN _ _ _⟩|exact ⟨rfl,_,Eq.trans (World.drewN_drewN _ _ _) (congrArg (World.drewN _) (Nat.add_assoc _ _ _))⟩)));try go_wp2_with (first|(go_at_call 38;(with_reducible refine (cq.calls k1 _ _ (bK l0 cF) _ _ (bK l1 cF) false _ ?side1 ?side2 ?side3 ?side4 A8.out).mono ?_);(case side1=>exact cd pP.out);(case side2=>exact pR.out);(case side3=>exact cd pO.out);(case side4=>exact pQ.out);rintro e w' ⟨rfl,⟨nd,rfl⟩⟩;(try first|exact ⟨rfl,_,World.drewN_drewN _ _ _⟩|exact ⟨rfl,_,Eq.trans (World.drewN_drewN _ _ _) (congrArg (World.drewN _) (Nat.add_assoc _ _ _))⟩))))
      go_ret
      exact ⟨er,gh⟩
    ·rw [if_neg c4] at H
     have iI:=decide_eq_false c4
     clear c4
     obtain rfl:=Option.some.inj H
     go_wp2
     repeat (go_quiet (fail);try go_wp2)
     go_ret
     exact ⟨er,gh⟩
 ·rw [if_neg c3] at H
  have jh:=jV c3
  have sN:=jU c3
  have yf:(l0.length==l1.length)=false:=by first|simpa using c3|(simp at c3⊢;omega)
  obtain rfl:=Option.some.inj H
  go_enter Tryz.func68,Tryz.ntmps68
  go_wp2
  repeat (go_quiet (fail);try go_wp2)
  go_ret
  exact ⟨er,gh⟩
def jq.f (k:Nat) (bk:List Int) (aZ:List (List ByteArray)) (bH:List (List ByteArray)) (bu:List (List ByteArray)) (cn:Int) (qc:List Int) (qb:List (List ByteArray)) (qa:List (List ByteArray)) (p9:List (List ByteArray)) (uk:Int):Option (Bool):=(dh.f k bk qc).bind fun KS=>(if KS=true then ((bB.f k aZ qb).bind fun Ep=>(if Ep=true then ((bB.f k bH qa).bind fun Ar=>(if Ar=true then ((bB.f k bu p9).bind fun xu=>(if xu=true then (some (cn==uk)) else (some false))) else (some false))) else (some false))) else (some false))
theorem jq.calls (k:Nat) (ir:Option Addr) (ie:Nat) (bk:List Int) (iT:Option Addr) (ic:Nat) (aZ:List (List ByteArray)) (iq:Option Addr) (ia:Nat) (bH:List (List ByteArray)) (iC:Option Addr) (hU:Nat) (bu:List (List ByteArray)) (cn:Int) (Gn:Option Addr) (F4:Nat) (qc:List Int) (Gm:Option Addr) (F3:Nat) (qb:List (List ByteArray)) (Gl:Option Addr) (F2:Nat) (qa:List (List ByteArray)) (Gk:Option Addr) (F1:Nat) (p9:List (List ByteArray)) (uk:Int) (r:Bool) (w:World) (k8:Kd.C (Kd.int .i64) w ir bk.length bk) (lg:bk.length≤ie) (k7:Kd.C (Kd.slice 9 Kd.string) w iT aZ.length aZ) (lf:aZ.length≤ic) (k6:Kd.C (Kd.slice 9 Kd.string) w iq bH.length bH) (ld:bH.length≤ia) (k5:Kd.C (Kd.slice 9 Kd.string) w iC bu.length bu) (k9:bu.length≤hU) (Q0:Kd.C (Kd.int .i64) w Gn qc.length qc) (Rg:qc.length≤F4) (QZ:Kd.C (Kd.slice 9 Kd.string) w Gm qb.length qb) (Rf:qb.length≤F3) (QY:Kd.C (Kd.slice 9 Kd.string) w Gl qa.length qa) (Re:qa.length≤F2) (QX:Kd.C (Kd.slice 9 Kd.string) w Gk p9.length p9) (Rd:p9.length≤F1) (h:jq.f k bk aZ bH bu cn qc qb qa p9 uk=some r):
  Calls Tryz.prog 33 #[.agg #[.slice ir bk.length ie,.slice iT aZ.length ic,.slice iq bH.length ia,.slice iC bu.length hU,.int .i64 cn],.agg #[.slice Gn qc.length F4,.slice Gm qb.length F3,.slice Gl qa.length F2,.slice Gk p9.length F1,.int .i64 uk]] w fun e w'=>e= .returned (.bool r)∧Below w.heap.size w w':=by
 have mX:=Tryz.underlying27
 have iX:=ak k8;have iY:=ak lg;clear k8 lg;have lC:=ak k7;have mz:=ak lf;clear k7 lf;have kE:=ak k6;have mP:=ak ld;clear k6 ld;have lz:=ak k5;have nG:=ak k9;clear k5 k9;have D5:=ak Q0;have D8:=ak Rg;clear Q0 Rg;have Ix:=ak QZ;have ID:=ak Rf;clear QZ Rf;have NB:=ak QY;have NP:=ak Re;clear QY Re;have R7:=ak QX;have Si:=ak Rd;clear QX Rd
 have HB:=ak (Below.refl w.heap.size w)
 have H:((dh.f k bk qc).bind fun KS=>(if KS=true then ((bB.f k aZ qb).bind fun Ep=>(if Ep=true then ((bB.f k bH qa).bind fun Ar=>(if Ar=true then ((bB.f k bu p9).bind fun xu=>(if xu=true then (some (cn==uk)) else (some false))) else (some false))) else (some false))) else (some false)))=some r:=h
 clear h;replace H:=bS H;obtain ⟨KS,A3,H⟩:=H
 by_cases c4:KS=true
 ·subst c4
  have H1:((bB.f k aZ qb).bind fun Ep=>(if Ep=true then ((bB.f k bH qa).bind fun Ar=>(if Ar=true then ((bB.f k bu p9).bind fun xu=>(if xu=true then (some (cn==uk)) else (some false))) else (some false))) else (some false)))=some r:=by rw [if_pos rfl] at H;exact H
  clear H
  have H:=H1
  clear H1;replace H:=bS H;obtain ⟨Ep,A5,H⟩:=H
  by_cases c6:Ep=true
  ·subst c6
   have H1:((bB.f k bH qa).bind fun Ar=>(if Ar=true then ((bB.f k bu p9).bind fun xu=>(if xu=true then (some (cn==uk)) else (some false))) else (some false)))=some r:=by rw [if_pos rfl] at H;exact H
   clear H
   have H:=H1
   clear H1;replace H:=bS H;obtain ⟨Ar,A7,H⟩:=H
   by_cases c8:Ar=true
   ·subst c8
    have H1:((bB.f k bu p9).bind fun xu=>(if xu=true then (some (cn==uk)) else (some false)))=some r:=by rw [if_pos rfl] at H;exact H
    clear H
    have H:=H1
    clear H1;replace H:=bS H;obtain ⟨xu,A9,H⟩:=H
    by_cases gu:xu=true
    ·subst gu
     have H1:(some (cn==uk))=some r:=by rw [if_pos rfl] at H;exact H
     clear H
     have H:=H1
     clear H1
     obtain rfl:=Option.some.inj H
     go_enter Tryz.func33,Tryz.ntmps33
     go_wp2_with (first|((with_reducible refine ax (N:=2) rfl ?_);refine cm 2 #[.slice ir bk.length ie,.slice iT aZ.length ic,.slice iq bH.length ia,.slice iC bu.length hU,.int .i64 cn] 27 ?_;intro n9 hg w11 dO hb;have iL:=ak (dO);have IJ:=ak (lT hg (ai HB));have fK:=ak (lT hg (ai HB));replace HB:=ak (aE (ai HB) hb);clear hb dO hg)|((with_reducible refine ax (N:=3) rfl ?_);refine cm 3 #[.slice Gn qc.length F4,.slice Gm qb.length F3,.slice Gl qa.length F2,.slice Gk p9.length F1,.int .i64 uk] 27 ?_;intro n8 hg w12 dO hb;have uC:=ak (dO);have II:=ak (lT hg (aT HB fK));have jk:=ak (lT hg (aT HB fK));replace HB:=ak (aE (aT HB fK) hb);have ke:=ak ((by rw [hg];exact Nat.ne_of_lt (ji (fk iL)):n9≠n8));have j9:=ak ((by rw [hg];exact Nat.ne_of_gt (ji (fk iL)):n8≠n9));replace iL:=ak (eP (fk iL) hb);clear hb dO hg;have afA:=ke.out;have aft:=j9.out;have Sq:=aD iL;have W0:=aD uC)|(go_at_call 67;(with_reducible refine (dh.calls k _ _ bk _ _ qc true _ ?side1 ?side2 ?side3 ?side4 A3.out).mono ?_);(case side1=>exact cd (Kd.aH iX.out HB.out));(case side2=>exact iY.out);(case side3=>exact cd (Kd.aH D5.out HB.out));(case side4=>exact D8.out);rintro e w' ⟨rfl,⟨nd,rfl⟩⟩)|(go_at_call 68;(with_reducible refine (bB.calls k _ _ aZ _ _ qb true _ ?side1 ?side2 ?side3 ?side4 A5.out).mono ?_);(case side1=>exact cd (Kd.aH lC.out (fV HB fK jk)));(case side2=>exact mz.out);(case side3=>exact cd (Kd.aH Ix.out (fV HB fK jk)));(case side4=>exact ID.out);rintro e w' ⟨rfl,⟨nd,rfl⟩⟩)|(go_at_call 68;(with_reducible refine (bB.calls k _ _ bH _ _ qa true _ ?side1 ?side2 ?side3 ?side4 A7.out).mono ?_);(case side1=>exact cd (Kd.aH kE.out (fV HB fK jk)));(case side2=>exact mP.out);(case side3=>exact cd (Kd.aH NB.out (fV HB fK jk)));(case side4=>exact NP.out);rintro e w' ⟨rfl,⟨nd,rfl⟩⟩)|(go_at_call 68;(with_reducible refine (bB.calls k _ _ bu _ _ p9 true _ ?side1 ?side2 ?side3 ?side4 A9.out).mono ?_);(case side1=>exact cd (Kd.aH lz.out (fV HB fK jk)));(case side2=>exact nG.out);(case side3=>exact cd (Kd.aH R7.out (fV HB fK jk)));(case side4=>exact Si.out);rintro e w' ⟨rfl,⟨nd,rfl⟩⟩))
     go_ret
     exact ⟨jT,fV HB fK jk⟩
    ·replace gu:=Bool.eq_false_iff.mpr gu
     subst gu
     have H1:(some false)=some r:=by rw [if_neg (show¬(false=true) by decide)] at H;exact H
     clear H
     have H:=H1
     clear H1
     obtain rfl:=Option.some.inj H
     go_enter Tryz.func33,Tryz.ntmps33
     go_wp2_with (first|((with_reducible refine ax (N:=2) rfl ?_);refine cm 2 #[.slice ir bk.length ie,.slice iT aZ.length ic,.slice iq bH.length ia,.slice iC bu.length hU,.int .i64 cn] 27 ?_;intro n9 hg KE dO hb;have iL:=ak (dO);have IJ:=ak (lT hg (ai HB));have fK:=ak (lT hg (ai HB));replace HB:=ak (aE (ai HB) hb);clear hb dO hg)|((with_reducible refine ax (N:=3) rfl ?_);refine cm 3 #[.slice Gn qc.length F4,.slice Gm qb.length F3,.slice Gl qa.length F2,.slice Gk p9.length F1,.int .i64 uk] 27 ?_;intro n8 hg Ko dO hb;have uC:=ak (dO);have II:=ak (lT hg (aT HB fK));have jk:=ak (lT hg (aT HB fK));replace HB:=ak (aE (aT HB fK) hb);have ke:=ak ((by rw [hg];exact Nat.ne_of_lt (ji (fk iL)):n9≠n8));have j9:=ak ((by rw [hg];exact Nat.ne_of_gt (ji (fk iL)):n8≠n9));replace iL:=ak (eP (fk iL) hb);clear hb dO hg;have afz:=ke.out;have afs:=j9.out;have abV:=aD iL;have agr:=aD uC)|(go_at_call 67;(with_reducible refine (dh.calls k _ _ bk _ _ qc true _ ?side1 ?side2 ?side3 ?side4 A3.out).mono ?_);(case side1=>exact cd (Kd.aH iX.out HB.out));(case side2=>exact iY.out);(case side3=>exact cd (Kd.aH D5.out HB.out));(case side4=>exact D8.out);rintro e w' ⟨rfl,⟨nd,rfl⟩⟩)|(go_at_call 68;(with_reducible refine (bB.calls k _ _ aZ _ _ qb true _ ?side1 ?side2 ?side3 ?side4 A5.out).mono ?_);(case side1=>exact cd (Kd.aH lC.out (fV HB fK jk)));(case side2=>exact mz.out);(case side3=>exact cd (Kd.aH Ix.out (fV HB fK jk)));(case side4=>exact ID.out);rintro e w' ⟨rfl,⟨nd,rfl⟩⟩)|(go_at_call 68;(with_reducible refine (bB.calls k _ _ bH _ _ qa true _ ?side1 ?side2 ?side3 ?side4 A7.out).mono ?_);(case side1=>exact cd (Kd.aH kE.out (fV HB fK jk)));(case side2=>exact mP.out);(case side3=>exact cd (Kd.aH NB.out (fV HB fK jk)));(case side4=>exact NP.out);rintro e w' ⟨rfl,⟨nd,rfl⟩⟩)|(go_at_call 68;(with_reducible refine (bB.calls k _ _ bu _ _ p9 false _ ?side1 ?side2 ?side3 ?side4 A9.out).mono ?_);(case side1=>exact cd (Kd.aH lz.out (fV HB fK jk)));(case side2=>exact nG.out);(case side3=>exact cd (Kd.aH R7.out (fV HB fK jk)));(case side4=>exact Si.out);rintro e w' ⟨rfl,⟨nd,rfl⟩⟩))
     go_ret
     exact ⟨jT,fV HB fK jk⟩
   ·replace c8:=Bool.eq_false_iff.mpr c8
    subst c8
    have H1:(some false)=some r:=by rw [if_neg (show¬(false=true) by decide)] at H;exact H
    clear H
    have H:=H1
    clear H1
    obtain rfl:=Option.some.inj H
    go_enter Tryz.func33,Tryz.ntmps33
    go_wp2_with (first|((with_reducible refine ax (N:=2) rfl ?_);refine cm 2 #[.slice ir bk.length ie,.slice iT aZ.length ic,.slice iq bH.length ia,.slice iC bu.length hU,.int .i64 cn] 27 ?_;intro n9 hg w21 dO hb;have iL:=ak (dO);have IJ:=ak (lT hg (ai HB));have fK:=ak (lT hg (ai HB));replace HB:=ak (aE (ai HB) hb);clear hb dO hg)|((with_reducible refine ax (N:=3) rfl ?_);refine cm 3 #[.slice Gn qc.length F4,.slice Gm qb.length F3,.slice Gl qa.length F2,.slice Gk p9.length F1,.int .i64 uk] 27 ?_;intro n8 hg W4 dO hb;have uC:=ak (dO);have II:=ak (lT hg (aT HB fK));have jk:=ak (lT hg (aT HB fK));replace HB:=ak (aE (aT HB fK) hb);have ke:=ak ((by rw [hg];exact Nat.ne_of_lt (ji (fk iL)):n9≠n8));have j9:=ak ((by rw [hg];exact Nat.ne_of_gt (ji (fk iL)):n8≠n9));replace iL:=ak (eP (fk iL) hb);clear hb dO hg;have afx:=ke.out;have afq:=j9.out;have WY:=aD iL;have ago:=aD uC)|(go_at_call 67;(with_reducible refine (dh.calls k _ _ bk _ _ qc true _ ?side1 ?side2 ?side3 ?side4 A3.out).mono ?_);(case side1=>exact cd (Kd.aH iX.out HB.out));(case side2=>exact iY.out);(case side3=>exact cd (Kd.aH D5.out HB.out));(case side4=>exact D8.out);rintro e w' ⟨rfl,⟨nd,rfl⟩⟩)|(go_at_call 68;(with_reducible refine (bB.calls k _ _ aZ _ _ qb true _ ?side1 ?side2 ?side3 ?side4 A5.out).mono ?_);(case side1=>exact cd (Kd.aH lC.out (fV HB fK jk)));(case side2=>exact mz.out);(case side3=>exact cd (Kd.aH Ix.out (fV HB fK jk)));(case side4=>exact ID.out);rintro e w' ⟨rfl,⟨nd,rfl⟩⟩)|(go_at_call 68;(with_reducible refine (bB.calls k _ _ bH _ _ qa false _ ?side1 ?side2 ?side3 ?side4 A7.out).mono ?_);(case side1=>exact cd (Kd.aH kE.out (fV HB fK jk)));(case side2=>exact mP.out);(case side3=>exact cd (Kd.aH NB.out (fV HB fK jk)));(case side4=>exact NP.out);rintro e w' ⟨rfl,⟨nd,rfl⟩⟩))
    go_ret
    exact ⟨jT,fV HB fK jk⟩
  ·replace c6:=Bool.eq_false_iff.mpr c6
   subst c6
   have H1:(some false)=some r:=by rw [if_neg (show¬(false=true) by decide)] at H;exact H
   clear H
   have H:=H1
   clear H1
   obtain rfl:=Option.some.inj H
   go_enter Tryz.func33,Tryz.ntmps33
   go_wp2_with (first|((with_reducible refine ax (N:=2) rfl ?_);refine cm 2 #[.slice ir bk.length ie,.slice iT aZ.length ic,.slice iq bH.length ia,.slice iC bu.length hU,.int .i64 cn] 27 ?_;intro n9 hg w26 dO hb;have iL:=ak (dO);have IJ:=ak (lT hg (ai HB));have fK:=ak (lT hg (ai HB));replace HB:=ak (aE (ai HB) hb);clear hb dO hg)|((with_reducible refine ax (N:=3) rfl ?_);refine cm 3 #[.slice Gn qc.length F4,.slice Gm qb.length F3,.slice Gl qa.length F2,.slice Gk p9.length F1,.int .i64 uk] 27 ?_;intro n8 hg w27 dO hb;have uC:=ak (dO);have II:=ak (lT hg (aT HB fK));have jk:=ak (lT hg (aT HB fK));replace HB:=ak (aE (aT HB fK) hb);have ke:=ak ((by rw [hg];exact Nat.ne_of_lt (ji (fk iL)):n9≠n8));have j9:=ak ((by rw [hg];exact Nat.ne_of_gt (ji (fk iL)):n8≠n9));replace iL:=ak (eP (fk iL) hb);clear hb dO hg;have Yc:=ke.out;have Yb:=j9.out;have abT:=aD iL;have agn:=aD uC)|(go_at_call 67;(with_reducible refine (dh.calls k _ _ bk _ _ qc true _ ?side1 ?side2 ?side3 ?side4 A3.out).mono ?_);(case side1=>exact cd (Kd.aH iX.out HB.out));(case side2=>exact iY.out);(case side3=>exact cd (Kd.aH D5.out HB.out));(case side4=>exact D8.out);rintro e w' ⟨rfl,⟨nd,rfl⟩⟩)|(go_at_call 68;(with_reducible refine (bB.calls k _ _ aZ _ _ qb false _ ?side1 ?side2 ?side3 ?side4 A5.out).mono ?_);(case side1=>exact cd (Kd.aH lC.out (fV HB fK jk)));(case side2=>exact mz.out);(case side3=>exact cd (Kd.aH Ix.out (fV HB fK jk)));(case side4=>exact ID.out);rintro e w' ⟨rfl,⟨nd,rfl⟩⟩))
   go_ret
   exact ⟨jT,fV HB fK jk⟩
 ·replace c4:=Bool.eq_false_iff.mpr c4
  subst c4
  have H1:(some false)=some r:=by rw [if_neg (show¬(false=true) by decide)] at H;exact H
  clear H
  have H:=H1
  clear H1
  obtain rfl:=Option.some.inj H
  go_enter Tryz.func33,Tryz.ntmps33
  go_wp2_with (first|((with_reducible refine ax (N:=2) rfl ?_);refine cm 2 #[.slice ir bk.length ie,.slice iT aZ.length ic,.slice iq bH.length ia,.slice iC bu.length hU,.int .i64 cn] 27 ?_;intro n9 hg w31 dO hb;have iL:=ak (dO);have IJ:=ak (lT hg (ai HB));have fK:=ak (lT hg (ai HB));replace HB:=ak (aE (ai HB) hb);clear hb dO hg)|((with_reducible refine ax (N:=3) rfl ?_);refine cm 3 #[.slice Gn qc.length F4,.slice Gm qb.length F3,.slice Gl qa.length F2,.slice Gk p9.length F1,.int .i64 uk] 27 ?_;intro n8 hg w32 dO hb;have uC:=ak (dO);have II:=ak (lT hg (aT HB fK));have jk:=ak (lT hg (aT HB fK));replace HB:=ak (aE (aT HB fK) hb);have ke:=ak ((by rw [hg];exact Nat.ne_of_lt (ji (fk iL)):n9≠n8));have j9:=ak ((by rw [hg];exact Nat.ne_of_gt (ji (fk iL)):n8≠n9));replace iL:=ak (eP (fk iL) hb);clear hb dO hg;have afw:=ke.out;have afp:=j9.out;have agm:=aD iL;have agl:=aD uC)|(go_at_call 67;(with_reducible refine (dh.calls k _ _ bk _ _ qc false _ ?side1 ?side2 ?side3 ?side4 A3.out).mono ?_);(case side1=>exact cd (Kd.aH iX.out HB.out));(case side2=>exact iY.out);(case side3=>exact cd (Kd.aH D5.out HB.out));(case side4=>exact D8.out);rintro e w' ⟨rfl,⟨nd,rfl⟩⟩))
  go_ret
  exact ⟨jT,fV HB fK jk⟩
def cV.l0:Nat→Int→List (List ByteArray)→Int→Int→Option (Int)
  |0,_,_,_,_=>none
  |k+1,x3,x7,x8,x9=>if x9<x8 then (if 0≤x9 then (if x9<(x7.length:Int) then (cV.l0 k (wrap64 (x3+((bK x7 x9).length:Int))) x7 x8 (wrap64 (x9+1))) else (none)) else (none)) else (some x3)
def cV.f (k:Nat) (bk:List Int) (aZ:List (List ByteArray)) (bH:List (List ByteArray)) (bu:List (List ByteArray)) (cn:Int):Option (Int):=cV.l0 k 0 aZ (aZ.length:Int) 0
theorem cV.calls (k:Nat) (ir:Option Addr) (ie:Nat) (bk:List Int) (iT:Option Addr) (ic:Nat) (aZ:List (List ByteArray)) (iq:Option Addr) (ia:Nat) (bH:List (List ByteArray)) (iC:Option Addr) (hU:Nat) (bu:List (List ByteArray)) (cn:Int) (r:Int) (w:World) (k8:Kd.C (Kd.int .i64) w ir bk.length bk) (lg:bk.length≤ie) (k7:Kd.C (Kd.slice 9 Kd.string) w iT aZ.length aZ) (lf:aZ.length≤ic) (k6:Kd.C (Kd.slice 9 Kd.string) w iq bH.length bH) (ld:bH.length≤ia) (k5:Kd.C (Kd.slice 9 Kd.string) w iC bu.length bu) (k9:bu.length≤hU) (h:cV.f k bk aZ bH bu cn=some r):
  Calls Tryz.prog 69 #[.agg #[.slice ir bk.length ie,.slice iT aZ.length ic,.slice iq bH.length ia,.slice iC bu.length hU,.int .i64 cn]] w fun e w'=>e= .returned (.int .i64 r)∧Below w.heap.size w w':=by
 have mX:=Tryz.underlying27
 have iX:=ak k8;have iY:=ak lg;clear k8 lg;have lC:=ak k7;have mz:=ak lf;clear k7 lf;have kE:=ak k6;have mP:=ak ld;clear k6 ld;have lz:=ak k5;have nG:=ak k9;clear k5 k9
 have HB:=ak (Below.refl w.heap.size w)
 have H:(cV.l0 k 0 aZ (aZ.length:Int) 0)=some r:=h
 clear h
 have H':=ak H
 clear H
 go_enter Tryz.func69,Tryz.ntmps69
 go_wp2_with (first|((with_reducible refine ax (N:=1) rfl ?_);refine cm 1 #[.slice ir bk.length ie,.slice iT aZ.length ic,.slice iq bH.length ia,.slice iC bu.length hU,.int .i64 cn] 27 ?_;intro YB hg w2 dO hb;have IL:=ak (dO);have agf:=ak (lT hg (ai HB));have NR:=ak (lT hg (ai HB));replace HB:=ak (aE (ai HB) hb);clear hb dO hg;obtain ⟨Ur,Uq,Uo,Un,Um,Ub,Ua,TZ,TY,TX⟩:=aD IL))
 go_loopg [3,9] k (fun kq v3 v9 w'=>∃(iN:Int) (gB:Int),v3= .int .i64 iN∧v9= .int .i64 gB∧Aside0 (cV.l0 kq iN aZ (aZ.length:Int) gB=some r)∧Aside0 (kq≤k)∧Aside0 (w'.heap[YB]? =some (.cells #[(.slice ir bk.length ie),(.slice iT aZ.length ic),(.slice iq bH.length ia),(.slice iC bu.length hU),.int .i64 cn] 27 (0,0)))∧Aside0 (Below w.heap.size w w'))
 case atStart=>exact ⟨(0),(0),er,er,H',⟨Nat.le_refl _⟩,⟨fk IL⟩,⟨aT HB NR⟩⟩
 case round=>
  clear H'
  (try clear Ur);(try clear Uq);(try clear Uo);(try clear Un);(try clear Um);(try clear Ub);(try clear Ua);(try clear TZ);(try clear TY);(try clear TX)
  obtain ⟨iN,gB,rfl,rfl,HA,fP,IL,HB⟩:=hrel
  cases gk with
  |zero=>exact absurd HA.out (by simp [cV.l0])
  |succ k1=>
   have H:=HA.out;clear HA
   simp only [cV.l0] at H
   by_cases c4:gB<(aZ.length:Int)
   ·rw [if_pos c4] at H
    have iI:=decide_eq_true c4
    clear c4;replace H:=cZ H;obtain ⟨c5,H⟩:=H;have jg:=decide_eq_true c5;clear c5;replace H:=cZ H;obtain ⟨c6,H⟩:=H;have jz:=decide_eq_true c6;clear c6
    have H':=ak H
    clear H
    have S8:0≤(gB:Int):=da
    have SR:gB<(aZ.length:Int):=da
    obtain ⟨af1,afh,aeU,aeu,Bf,Hj,HC⟩:=lu lC.out gB S8 SR
    cases aeu
    replace Bf:=(HB.out.cell (World.block_lt_of_cell? w _ Bf)).trans Bf
    have abF:=ak HC;have abG:=ak Hj;clear HC Hj;replace S8:=eq_true S8;replace SR:=eq_true SR;go_wp2
    go_roundg k1
    case measure=>have:=fP.out;omega
    case rel=>exact ⟨(wrap64 (iN+((bK aZ gB).length:Int))),(wrap64 (gB+1)),er,er,H',⟨by have:=fP.out;omega⟩,⟨fk IL⟩,⟨aT HB NR⟩⟩
   ·rw [if_neg c4] at H
    have iI:=decide_eq_false c4
    clear c4
    obtain rfl:=Option.some.inj H
    go_wp2
    go_ret
    exact ⟨jT,aT HB NR⟩
def gZ.f (k:Nat) (bk:List Int) (aZ:List (List ByteArray)) (bH:List (List ByteArray)) (bu:List (List ByteArray)) (cn:Int):Option (Int×Bool):=(aq.f k bk aZ bH bu cn).bind fun KR=>(if KR=true then ((cV.f k bk aZ bH bu cn).bind fun Eo=>(some (Eo,true))) else (some (0,false)))
theorem gZ.calls (k:Nat) (ir:Option Addr) (ie:Nat) (bk:List Int) (iT:Option Addr) (ic:Nat) (aZ:List (List ByteArray)) (iq:Option Addr) (ia:Nat) (bH:List (List ByteArray)) (iC:Option Addr) (hU:Nat) (bu:List (List ByteArray)) (cn:Int) (r1:Int) (r2:Bool) (w:World) (k8:Kd.C (Kd.int .i64) w ir bk.length bk) (lg:bk.length≤ie) (k7:Kd.C (Kd.slice 9 Kd.string) w iT aZ.length aZ) (lf:aZ.length≤ic) (k6:Kd.C (Kd.slice 9 Kd.string) w iq bH.length bH) (ld:bH.length≤ia) (k5:Kd.C (Kd.slice 9 Kd.string) w iC bu.length bu) (k9:bu.length≤hU) (h:gZ.f k bk aZ bH bu cn=some (r1,r2)):
  Calls Tryz.prog 34 #[.agg #[.slice ir bk.length ie,.slice iT aZ.length ic,.slice iq bH.length ia,.slice iC bu.length hU,.int .i64 cn]] w fun e w'=>e= .returned (.tuple #[.int .i64 r1,.bool r2])∧Below w.heap.size w w':=by
 have mX:=Tryz.underlying27
 have iX:=ak k8;have iY:=ak lg;clear k8 lg;have lC:=ak k7;have mz:=ak lf;clear k7 lf;have kE:=ak k6;have mP:=ak ld;clear k6 ld;have lz:=ak k5;have nG:=ak k9;clear k5 k9
 have HB:=ak (Below.refl w.heap.size w)
 have H:((aq.f k bk aZ bH bu cn).bind fun KR=>(if KR=true then ((cV.f k bk aZ bH bu cn).bind fun Eo=>(some (Eo,true))) else (some (0,false))))=some (r1,r2):=h
 clear h;replace H:=bS H;obtain ⟨KR,A2,H⟩:=H
 by_cases c3:KR=true
 ·subst c3
  have H1:((cV.f k bk aZ bH bu cn).bind fun Eo=>(some (Eo,true)))=some (r1,r2):=by rw [if_pos rfl] at H;exact H
  clear H
  have H:=H1
  clear H1;replace H:=bS H;obtain ⟨Eo,A4,H⟩:=H
  simp only [Option.some.injEq,Prod.mk.injEq] at H
  obtain ⟨rfl,rfl⟩:=H
  go_enter Tryz.func34,Tryz.ntmps34
  go_wp2_with (first|((with_reducible refine ax (N:=1) rfl ?_);refine cm 1 #[.slice ir bk.length ie,.slice iT aZ.length ic,.slice iq bH.length ia,.slice iC bu.length hU,.int .i64 cn] 27 ?_;intro YA hg w5 dO hb;have r8:=ak (dO);have abo:=ak (lT hg (ai HB));have Ah:=ak (lT hg (ai HB));replace HB:=ak (aE (ai HB) hb);clear hb dO hg;have oW:=aD r8)|(go_at_call 35;(with_reducible refine (aq.calls k _ _ bk _ _ aZ _ _ bH _ _ bu cn true _ ?side1 ?side2 ?side3 ?side4 ?side5 ?side6 ?side7 ?side8 A2.out).mono ?_);(case side1=>exact cd (Kd.aH iX.out HB.out));(case side2=>exact iY.out);(case side3=>exact cd (Kd.aH lC.out HB.out));(case side4=>exact mz.out);(case side5=>exact cd (Kd.aH kE.out HB.out));(case side6=>exact mP.out);(case side7=>exact cd (Kd.aH lz.out HB.out));(case side8=>exact nG.out);rintro e w7 ⟨rfl,hb⟩;replace r8:=ak (eP (fk r8) hb);replace HB:=ak (aE (aT HB Ah) hb);(try clear hb);have jY:=aD r8)|(go_at_call 69;(with_reducible refine (cV.calls k _ _ bk _ _ aZ _ _ bH _ _ bu cn Eo _ ?side1 ?side2 ?side3 ?side4 ?side5 ?side6 ?side7 ?side8 A4.out).mono ?_);(case side1=>exact cd (Kd.aH iX.out HB.out));(case side2=>exact iY.out);(case side3=>exact cd (Kd.aH lC.out HB.out));(case side4=>exact mz.out);(case side5=>exact cd (Kd.aH kE.out HB.out));(case side6=>exact mP.out);(case side7=>exact cd (Kd.aH lz.out HB.out));(case side8=>exact nG.out);rintro e w9 ⟨rfl,hb⟩;replace r8:=ak (eP (fk r8) hb);replace HB:=ak (aE (aT HB Ah) hb);(try clear hb)))
  go_ret2
  exact ⟨jT,aT HB Ah⟩
 ·replace c3:=Bool.eq_false_iff.mpr c3
  subst c3
  have H1:(some (0,false))=some (r1,r2):=by rw [if_neg (show¬(false=true) by decide)] at H;exact H
  clear H
  have H:=H1
  clear H1
  simp only [Option.some.injEq,Prod.mk.injEq] at H
  obtain ⟨rfl,rfl⟩:=H
  go_enter Tryz.func34,Tryz.ntmps34
  go_wp2_with (first|((with_reducible refine ax (N:=1) rfl ?_);refine cm 1 #[.slice ir bk.length ie,.slice iT aZ.length ic,.slice iq bH.length ia,.slice iC bu.length hU,.int .i64 cn] 27 ?_;intro YA hg W5 dO hb;have r8:=ak (dO);have abo:=ak (lT hg (ai HB));have Ah:=ak (lT hg (ai HB));replace HB:=ak (aE (ai HB) hb);clear hb dO hg;have gb:=aD r8)|(go_at_call 35;(with_reducible refine (aq.calls k _ _ bk _ _ aZ _ _ bH _ _ bu cn false _ ?side1 ?side2 ?side3 ?side4 ?side5 ?side6 ?side7 ?side8 A2.out).mono ?_);(case side1=>exact cd (Kd.aH iX.out HB.out));(case side2=>exact iY.out);(case side3=>exact cd (Kd.aH lC.out HB.out));(case side4=>exact mz.out);(case side5=>exact cd (Kd.aH kE.out HB.out));(case side6=>exact mP.out);(case side7=>exact cd (Kd.aH lz.out HB.out));(case side8=>exact nG.out);rintro e w12 ⟨rfl,hb⟩;replace r8:=ak (eP (fk r8) hb);replace HB:=ak (aE (aT HB Ah) hb);(try clear hb)))
  go_ret2
  exact ⟨jT,aT HB Ah⟩
end Go.Proofs.YtihekdlcfohkkaaGreatDoor.QFnNet
