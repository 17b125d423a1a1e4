-- printed by this session's own program (wip/tools/pp.py: the kit's print.py with changes); Lean checks it
import Derived.Test.YtihekdlcfohkkaaGreatDoorQFnNetsx0
import Derived.Test.YtihekdlcfohkkaaGreatDoorQFnNetsx1
import Derived.Test.YtihekdlcfohkkaaGreatDoorQFnNetsx2
import Derived.Test.YtihekdlcfohkkaaGreatDoorQFnNetsx3
import Derived.Test.YtihekdlcfohkkaaGreatDoorQFnNetsx5
import Derived.Test.YtihekdlcfohkkaaGreatDoorQFnNetsx6
namespace Go.Proofs.YtihekdlcfohkkaaGreatDoor.QFnNets
open Go.RowKit Go.Proofs.YtihekdlcfohkkaaGreatDoorW.PrintWords Go.Proofs.YtihekdlcfohkkaaGreatDoorW.PrintLast Go.Proofs.YtihekdlcfohkkaaGreatDoorW.PrintMore
attribute [local go_sem] max2_int min2_int max_two min_two max_three min_three max_four min_four strLss strGtr strLeq strGeq
set_option linter.unusedVariables false
set_option linter.unusedSimpArgs false
set_option maxHeartbeats 16000000
set_option maxRecDepth 100000
def gT.g (k:Nat) (n:Nt) (u:Int) (t:ByteArray) (H:List Int):Option (Nt×Bool):=(if 0≤wrap64 ((H.length:Int)-1)∧wrap64 ((H.length:Int)-1)<(H.length:Int) then (aK.f k n.ks (H.set (wrap64 ((H.length:Int)-1)).toNat (wrap64 (u+2))) (strOfNums [wrap64 (n.sd+1)%256]++t)).bind fun (s,o)=>if o=true then (bQ.f k ⟨n.ks,n.ps,n.ss,n.ib,wrap64 (n.sd+1)⟩ 0 s).bind fun m=>some (m,true) else none else none)
def gT.f (k:Nat) (n:Nt) (u:Int) (t:ByteArray):Option (Nt×Bool):=(bE.f u 0 3).bind fun c=>if c=false then some (n,false) else if 14<(t.size:Int) then some (n,false) else if n.sd=60 then some (n,false) else if n.ks.length≤1048576 then gT.g k n u t (List.replicate n.ks.length 1) else none
theorem gT.calls {k:Nat} {v0 v1 v2 v3:Value} {n m:Nt} {u:Int} {t:ByteArray} {r:Bool} {L:List SA} {w0 w:World} (hs:Sep w0 w (eO v0 v1 v2 v3 n++L)) (h:gT.f k n u t=some (m,r)):
    Calls Tryz.prog 96 #[.agg #[v0,v1,v2,v3,.int .i64 n.sd],.int .i64 u,.string t] w fun e w'=>e= .returned (.tuple #[.agg #[v0,v1,v2,v3,.int .i64 m.sd],.bool r])∧Sep w0 w' (eO v0 v1 v2 v3 m++L):=by
 have lg:=Tryz.underlying27
 obtain ⟨ks,ps,ss,ib,sd⟩:=n
 have HS:Sep w0 w (rA KI 3 v0 ks::sA KT 62 v1 ps::sA KT 62 v2 ss::sA KT 62 v3 ib::L):=hs
 clear hs
 unfold gT.f at h
 dsimp only at h⊢
 obtain ⟨A0,c0,rfl⟩:=HS.lz 0
 obtain ⟨A1,c1,rfl⟩:=HS.gY 1
 obtain ⟨A2,c2,rfl⟩:=HS.gY 2
 obtain ⟨A3,c3,rfl⟩:=HS.gY 3
 replace h:=bS h;obtain ⟨c,T1,h⟩:=h
 cases c with
 |false=>
  rw [if_pos rfl] at h
  skip
  obtain ⟨rfl,rfl⟩:=(Prod.mk.injEq _ _ _ _).mp (Option.some.inj h)
  clear h
  go_enter Tryz.func96,Tryz.ntmps96
  go_wp2_with (first|((with_reducible refine av (N:=3) rfl ?_);refine bN 3 #[.slice A0 ks.length c0,.slice A1 ps.length c1,.slice A2 ss.length c2,.slice A3 ib.length c3,.int .i64 sd] 27 ?_;intro b3 bK W_ bD aW;replace HS:=HS.box bK bD aW;clear bK bD aW;have bL:=an (HS.aI 0))|((with_reducible refine av (N:=6) rfl ?_);refine bN 6 #[.slice none 0 0,.slice none 0 0,.slice none 0 0,.slice none 0 0,.int .i64 0] 27 ?_;intro b6 bK W_ bD aW;replace HS:=HS.box bK bD aW;clear bK bD aW;clear bL;have jZ:=an (HS.aI 0);clear jZ;have jZ:=an (HS.aI 0);have bL:=an (HS.aI 1))|(go_at_call 79;refine (bE.calls _ _ _ _ _ T1.out).mono ?_;rintro e W_ ⟨rfl,iC,rfl⟩;replace HS:=HS.drewN iC;generalize World.drewN _ iC=W_ at HS⊢;clear jZ bL;have jZ:=an (HS.aI 0);have bL:=an (HS.aI 1)))
  have HF:=HS.iw 0 (.slice A0 ks.length c0) (.slice A1 ps.length c1) (.slice A2 ss.length c2) (.slice A3 ib.length c3) (.int .i64 sd)
  refine bodyPost_ret (cK rfl _ _ b6 27 #[.slice A0 ks.length c0,.slice A1 ps.length c1,.slice A2 ss.length c2,.slice A3 ib.length c3,.int .i64 sd] (0,0) _ rfl (by exact (HF.aI 0).out) Tryz.underlying27 rfl (by kernel_rfl)) rfl ?_
  replace HS:=HF
  replace HS:=HS.tail
  replace HS:=HS.tail
  exact ⟨rfl,HS⟩
 |true=>
  rw [if_neg (by decide)] at h
  by_cases wO:14<(t.size:Int)
  ·rw [if_pos wO] at h
   have cb1:decide (14<(t.size:Int))=true:=decide_eq_true wO
   clear wO
   obtain ⟨rfl,rfl⟩:=(Prod.mk.injEq _ _ _ _).mp (Option.some.inj h)
   clear h
   go_enter Tryz.func96,Tryz.ntmps96
   go_wp2_with (first|((with_reducible refine av (N:=3) rfl ?_);refine bN 3 #[.slice A0 ks.length c0,.slice A1 ps.length c1,.slice A2 ss.length c2,.slice A3 ib.length c3,.int .i64 sd] 27 ?_;intro b3 bK W_ bD aW;replace HS:=HS.box bK bD aW;clear bK bD aW;have bL:=an (HS.aI 0))|((with_reducible refine av (N:=6) rfl ?_);refine bN 6 #[.slice none 0 0,.slice none 0 0,.slice none 0 0,.slice none 0 0,.int .i64 0] 27 ?_;intro b6 bK W_ bD aW;replace HS:=HS.box bK bD aW;clear bK bD aW;clear bL;have jZ:=an (HS.aI 0);clear jZ;have jZ:=an (HS.aI 0);have bL:=an (HS.aI 1))|(go_at_call 79;refine (bE.calls _ _ _ _ _ T1.out).mono ?_;rintro e W_ ⟨rfl,iC,rfl⟩;replace HS:=HS.drewN iC;generalize World.drewN _ iC=W_ at HS⊢;clear jZ bL;have jZ:=an (HS.aI 0);have bL:=an (HS.aI 1)))
   have HF:=HS.iw 0 (.slice A0 ks.length c0) (.slice A1 ps.length c1) (.slice A2 ss.length c2) (.slice A3 ib.length c3) (.int .i64 sd)
   refine bodyPost_ret (cK rfl _ _ b6 27 #[.slice A0 ks.length c0,.slice A1 ps.length c1,.slice A2 ss.length c2,.slice A3 ib.length c3,.int .i64 sd] (0,0) _ rfl (by exact (HF.aI 0).out) Tryz.underlying27 rfl (by kernel_rfl)) rfl ?_
   replace HS:=HF
   replace HS:=HS.tail
   replace HS:=HS.tail
   exact ⟨rfl,HS⟩
  ·rw [if_neg wO] at h
   have cb1:decide (14<(t.size:Int))=false:=decide_eq_false wO
   have hts:t.size≤14:=by omega
   clear wO
   by_cases LH:sd=60
   ·rw [if_pos LH] at h
    have cb2:(sd==60)=true:=beq_iff_eq.2 LH
    clear LH
    obtain ⟨rfl,rfl⟩:=(Prod.mk.injEq _ _ _ _).mp (Option.some.inj h)
    clear h
    go_enter Tryz.func96,Tryz.ntmps96
    go_wp2_with (first|((with_reducible refine av (N:=3) rfl ?_);refine bN 3 #[.slice A0 ks.length c0,.slice A1 ps.length c1,.slice A2 ss.length c2,.slice A3 ib.length c3,.int .i64 sd] 27 ?_;intro b3 bK W_ bD aW;replace HS:=HS.box bK bD aW;clear bK bD aW;have bL:=an (HS.aI 0))|((with_reducible refine av (N:=6) rfl ?_);refine bN 6 #[.slice none 0 0,.slice none 0 0,.slice none 0 0,.slice none 0 0,.int .i64 0] 27 ?_;intro b6 bK W_ bD aW;replace HS:=HS.box bK bD aW;clear bK bD aW;clear bL;have jZ:=an (HS.aI 0);clear jZ;have jZ:=an (HS.aI 0);have bL:=an (HS.aI 1))|(go_at_call 79;refine (bE.calls _ _ _ _ _ T1.out).mono ?_;rintro e W_ ⟨rfl,iC,rfl⟩;replace HS:=HS.drewN iC;generalize World.drewN _ iC=W_ at HS⊢;clear jZ bL;have jZ:=an (HS.aI 0);have bL:=an (HS.aI 1)))
    have HF:=HS.iw 0 (.slice A0 ks.length c0) (.slice A1 ps.length c1) (.slice A2 ss.length c2) (.slice A3 ib.length c3) (.int .i64 sd)
    refine bodyPost_ret (cK rfl _ _ b6 27 #[.slice A0 ks.length c0,.slice A1 ps.length c1,.slice A2 ss.length c2,.slice A3 ib.length c3,.int .i64 sd] (0,0) _ rfl (by exact (HF.aI 0).out) Tryz.underlying27 rfl (by kernel_rfl)) rfl ?_
    replace HS:=HF
    replace HS:=HS.tail
    replace HS:=HS.tail
    exact ⟨rfl,HS⟩
   ·rw [if_neg LH] at h
    have cb2:(sd==60)=false:=beq_eq_false_iff_ne.2 LH
    clear LH
    replace h:=dy h;obtain ⟨hkl,h⟩:=h
    have KL:=ak hkl;clear hkl
    have H':=ak h;clear h
    go_enter Tryz.func96,Tryz.ntmps96
    go_upto_region 5 with (first|((with_reducible refine av (N:=3) rfl ?_);refine bN 3 #[.slice A0 ks.length c0,.slice A1 ps.length c1,.slice A2 ss.length c2,.slice A3 ib.length c3,.int .i64 sd] 27 ?_;intro b3 bK W_ bD aW;replace HS:=HS.box bK bD aW;clear bK bD aW;have bL:=an (HS.aI 0))|((with_reducible refine av (N:=6) rfl ?_);refine bN 6 #[.slice none 0 0,.slice none 0 0,.slice none 0 0,.slice none 0 0,.int .i64 0] 27 ?_;intro b6 bK W_ bD aW;replace HS:=HS.box bK bD aW;clear bK bD aW;clear bL;have jZ:=an (HS.aI 0);clear jZ;have jZ:=an (HS.aI 0);have bL:=an (HS.aI 1))|(go_at_call 79;refine (bE.calls _ _ _ _ _ T1.out).mono ?_;rintro e W_ ⟨rfl,iC,rfl⟩;replace HS:=HS.drewN iC;generalize World.drewN _ iC=W_ at HS⊢;clear jZ bL;have jZ:=an (HS.aI 0);have bL:=an (HS.aI 1)))
    clear jZ bL
    replace HS:=HS.tg KI 3
    go_loopg [8,28] ks.length (fun kq v8 v28 w'=>∃(j:Nat) (H:List Int),v28= .int .i64 (j:Int)∧H=List.replicate j 1∧j≤ks.length∧ks.length-j≤kq∧Sep w0 w' (rA KI 3 v8 H::bA b3 #[.slice A0 ks.length c0,.slice A1 ps.length c1,.slice A2 ss.length c2,.slice A3 ib.length c3,.int .i64 sd] 27::bA b6 #[.slice none 0 0,.slice none 0 0,.slice none 0 0,.slice none 0 0,.int .i64 0] 27::rA KI 3 (.slice A0 ks.length c0) ks::sA KT 62 (.slice A1 ps.length c1) ps::sA KT 62 (.slice A2 ss.length c2) ss::sA KT 62 (.slice A3 ib.length c3) ib::L))
    case atStart=>exact ⟨0,[],rfl,rfl,Nat.zero_le _,Nat.le_refl _,HS.jw.jw.jw.jw.jR.jw.jw⟩
    case round=>
     clear HS
     obtain ⟨j,H,rfl,hHj,j1,j2,HS⟩:=hrel
     by_cases hj:j<ks.length
     ·have Li:decide ((j:Int)<(ks.length:Int))=true:=decide_eq_true (by omega)
      obtain ⟨A8,c8,rfl⟩:=HS.lz 0
      go_wp2_with (first|((with_reducible refine av (N:=31) rfl ?_);refine Kd.gD KI _ 3 ?hg (N:=31) ?hd (xs:=([1]:List Int)) (inner:=[.int .i64 1]) (ok:=fun _=>True) (okp:=fun _=>True) ?hr ?hp (fun _ hk=>hk) trivial (Below.refl _ _) (Nat.le_refl _) (by simp) ?_;(case hd=>rfl);(case hg=>rfl);(case hr=>first|(go_simp;done)|(go_simp;rfl));(case hp=>exact (bT.one (show Kd.M KI _ _ _ 1 [.int .i64 1] from rfl) (bT.none _ _)));intro FV W_ bD aW _ _;replace HS:=HS.new (A:=rA KI 3 FV ([1])) aW bD;clear bD aW;obtain ⟨A9,c9,rfl⟩:=HS.lz 0)|((with_reducible refine bw (b:= .append) (xs:= #[.tmp 30,.tmp 31]) rfl ?_);at_builtin;have HU:=(HS.mA 0).2.2;replace HS:=HS.mE;refine Sep.DI KI rfl (.tmp 30) (.tmp 31) 22 3 (.int .i64 0) 8 rfl Tryz.underlying22 yX rfl (by decide) (by omega) (.slice A8 H.length c8) H [1] A9 1 c9 rfl rfl HS HU (fun _ _ _ _ h=>h) (Ro hHj j1 KL.out) ?_;clear HS HU;intro v8' W_ HS))
      replace HS:=HS.mE.tail
      go_roundg (ks.length-(j+1))
      case measure=>omega
      case rel=>exact ⟨j+1,_,gZ hj KL.out,(by rw [hHj,List.replicate_succ']),hj,Nat.le_refl _,HS⟩
     ·obtain rfl:j=ks.length:=by omega
      have Li:decide ((ks.length:Int)<(ks.length:Int))=false:=decide_eq_false (by omega)
      have h:=H'.out;clear H'
      rw [←hHj] at h
      clear hHj j1 j2 hj KL
      unfold gT.g at h
      dsimp only at h
      replace h:=dy h;obtain ⟨⟨xj,C3⟩,h⟩:=h
      obtain ⟨gH,qH,rfl⟩:=HS.uN 0 (hx:=by omega)
      obtain ⟨hHc,hHf⟩:=HS.Tn 0 (wrap64 ((H.length:Int)-1)) xj C3
      generalize tu:wrap64 ((H.length:Int)-1)=i at h xj C3 hHc hHf
      have pi0:(0≤i)=True:=eq_true xj
      have pi1:(i<(H.length:Int))=True:=eq_true C3
      go_upto_region 9 with fail
      clear hHc hHf pi0 pi1
      replace HS:=HS.aaO i (wrap64 (u+2))
      obtain ⟨rC,gU,gX⟩:=HS.gen
      rw [gU]
      clear HS gU
      have HS:=gX
      clear gX
      generalize hG:H.set i.toNat (wrap64 (u+2))=G at HS h
      have Xo:G.length=H.length:=by rw [←hG,List.length_set]
      rw [←Xo] at HS
      simp only [←Xo]
      clear tu xj C3 hG Xo
      obtain ⟨B,hB⟩:∃B,strOfNums [wrap64 (sd+1)%256]=B:=⟨_,rfl⟩
      rw [hB] at h
      have hBs:B.size=1:=by rw [←hB];rfl
      have Tx:decide (B.size+t.size≤9223372036854775807)=true:=decide_eq_true (by omega)
      have D4:(9223372036854775807<B.size+t.size)=False:=eq_false (by omega)
      clear hBs
      have bL:=an (HS.aI 1)
      go_upto_region 10 with fail
      clear bL
      obtain ⟨rC,gU,gX⟩:=(HS.cq 1 4 (.int .i64 (wrap64 (sd+1))) #[.slice A0 ks.length c0,.slice A1 ps.length c1,.slice A2 ss.length c2,.slice A3 ib.length c3,.int .i64 (wrap64 (sd+1))]).gen
      rw [gU]
      clear HS gU
      have HS:=gX
      clear gX
      replace h:=bS h;obtain ⟨⟨s,o⟩,T2,h⟩:=h
      replace h:=dy h;obtain ⟨rfl,h⟩:=h
      replace h:=bS h;obtain ⟨⟨Ny,KR,Ky,NP,KJ⟩,T3,h⟩:=h
      obtain ⟨e1,e2,e3⟩:=bQ.keeps T3.out
      dsimp only at e1 e2 e3
      replace e1:=e1.symm;replace e2:=e2.symm;replace e3:=e3.symm
      subst e1 e2 e3
      obtain ⟨rfl,rfl⟩:=(Prod.mk.injEq _ _ _ _).mp (Option.some.inj h)
      clear h
      have jZ:=an (HS.aI 2)
      have bL:=an (HS.aI 1)
      go_wp2_with (first|((with_reducible refine av (N:=52) rfl ?_);refine Kd.gD (Kd.int .u8) _ 5 ?hg (N:=52) ?hd (xs:=([wrap64 (sd+1)%256]:List Int)) (inner:=[.int .u8 (wrap64 (sd+1)%256)]) (ok:=fun _=>True) (okp:=fun _=>True) ?hr ?hp (fun _ hk=>hk) trivial (Below.refl _ _) (Nat.le_refl _) (by simp) ?_;(case hd=>rfl);(case hg=>rfl);(case hr=>first|(go_simp;done)|(go_simp;rfl));(case hp=>exact (bT.one (show Kd.M (Kd.int .u8) _ _ _ (wrap64 (sd+1)%256) [.int .u8 (wrap64 (sd+1)%256)] from rfl) (bT.none _ _)));intro vby W_ bD aW _ _;replace HS:=HS.new (A:=rA (Kd.int .u8) 5 vby ([wrap64 (sd+1)%256])) aW bD;clear bD aW;have hcv:=HS.text 0 (P:=Tryz.prog) Tryz.underlying56 Tryz.underlying5 Tryz.underlying9;rw [hB] at hcv;clear jZ bL;have jZ:=an (HS.aI 3);have bL:=an (HS.aI 2))|(go_at_call 116;have cE:=aK.calls k _ _ ks _ _ G (B++t) s true _ (HS.mA 4).2.2 (HS.mA 4).2.1 (HS.mA 1).2.2 (HS.mA 1).2.1 T2.out;refine cE.mono ?_;clear cE;rintro e W_ ⟨rfl,aW⟩;replace HS:=HS.below aW;clear aW hcv;clear jZ bL;have jZ:=an (HS.aI 3);have bL:=an (HS.aI 2))|(go_at_call 89;have cE:=bQ.calls (n:=⟨ks,ps,ss,ib,wrap64 (sd+1)⟩) (HS.zl.zl.zl.zl) T3.out;refine cE.mono ?_;clear cE;rintro e W_ ⟨rfl,fX⟩;clear HS;have HS:=fX;clear fX;dsimp only [eO,List.cons_append,List.nil_append] at HS;clear jZ bL;have jZ:=an (HS.aI 7);have bL:=an (HS.aI 6)))
      have HF:=HS.iw 7 (.slice A0 ks.length c0) (.slice A1 ps.length c1) (.slice A2 ss.length c2) (.slice A3 ib.length c3) (.int .i64 (wrap64 (sd+1)))
      refine bodyPost_ret (cK rfl _ _ b6 27 #[.slice A0 ks.length c0,.slice A1 ps.length c1,.slice A2 ss.length c2,.slice A3 ib.length c3,.int .i64 (wrap64 (sd+1))] (0,0) _ rfl (by exact (HF.aI 7).out) Tryz.underlying27 rfl (by kernel_rfl)) rfl ?_
      replace HS:=HF
      replace HS:=HS.j9.tail
      replace HS:=HS.j9.tail
      replace HS:=HS.j9.tail
      replace HS:=HS.j9.tail
      exact ⟨rfl,HS⟩
def bP.T7:Bool×List (List Nat×List Nat):=(true,[([],[]),([0],[0]),([1],[1]),([2],[2]),([3],[3]),([4,3],[3,4]),([3],[3]),([6,3],[3,6]),([7,3],[3,7]),([8,3],[3,8]),([9,3],[3,9]),([5,10,3],[3,5,10]),([3,11],[3,11]),([12,3],[12])])
def bP.B7:List Nat:=[0,1,3,7,15,31,15,79,207,463,975,2047,4095,8191]
theorem bP.QD:gz .any (opsOf Tryz.f61 7)=bP.T7:=by kernel_rfl
theorem bP.JQ:dZ bP.T7.2 bP.B7=true:=by kernel_rfl
def bP.T8:Bool×List (List Nat×List Nat):=(true,[([],[]),([],[]),([1],[1]),([2],[2]),([3],[3]),([],[]),([5],[5]),([4,6],[4,6]),([7],[7]),([0,8],[0,8]),([9,9,0,1,2,3,4,5,6,7,8,9],[9]),([10,0,1,2,3,4,5,6,7,8,9,10],[])])
def bP.B8:List Nat:=[0,0,2,6,14,0,32,126,254,511,1023,2047]
theorem bP.wX:gz .any (opsOf Tryz.f61 8)=bP.T8:=by kernel_rfl
theorem bP.qm:dZ bP.T8.2 bP.B8=true:=by kernel_rfl
def bP.f (k:Nat) (n:Nt) (a b:Int) (x:ByteArray):Option (Nt×Bool):=if a=1 then gT.f k n b x else if x=(⟨#[]⟩:ByteArray) then (if b<0 then some (n,false) else if a=2 then (if b<(n.ks.length:Int) then (bB.f k n b).bind fun m=>some (m,true) else some (n,false)) else if a=3 then (if 0<n.ss.length then (if b<((n.ss.getD 0 []).length:Int) then (bQ.f k n 0 (aQ ByteArray.empty (n.ss.getD 0 []) b)).bind fun m=>some (m,true) else some (n,false)) else none) else some (n,false)) else some (n,false)
theorem bP.calls {k:Nat} {v0 v1 v2 v3:Value} {n m:Nt} {a b:Int} {x:ByteArray} {r:Bool} {L:List SA} {w0 w:World} (hs:Sep w0 w (eO v0 v1 v2 v3 n++L)) (h:bP.f k n a b x=some (m,r)):
    Calls Tryz.prog 61 #[.agg #[v0,v1,v2,v3,.int .i64 n.sd],.agg #[.int .i64 a,.int .i64 b,.string x]] w fun e w'=>e= .returned (.tuple #[.agg #[v0,v1,v2,v3,.int .i64 m.sd],.bool r])∧Sep w0 w' (eO v0 v1 v2 v3 m++L):=by
 have lg:=Tryz.underlying27
 have GX:=Tryz.underlying53
 obtain ⟨ks,ps,ss,ib,sd⟩:=n
 have HS:Sep w0 w (rA KI 3 v0 ks::sA KT 62 v1 ps::sA KT 62 v2 ss::sA KT 62 v3 ib::L):=hs
 clear hs
 unfold bP.f at h
 dsimp only at h⊢
 obtain ⟨A0,c0,rfl⟩:=HS.lz 0
 obtain ⟨A1,c1,rfl⟩:=HS.gY 1
 obtain ⟨A2,c2,rfl⟩:=HS.gY 2
 obtain ⟨A3,c3,rfl⟩:=HS.gY 3
 by_cases a1:a=1
 ·rw [if_pos a1] at h
  subst a1
  obtain ⟨Ny,KR,Ky,NP,KJ⟩:=m
  have T1:=ak h;clear h
  go_enter Tryz.func61,Tryz.ntmps61
  go_wp2_with (first|((with_reducible refine av (N:=2) rfl ?_);refine bN 2 #[.slice A0 ks.length c0,.slice A1 ps.length c1,.slice A2 ss.length c2,.slice A3 ib.length c3,.int .i64 sd] 27 ?_;intro b2 bK W_ bD aW;replace HS:=HS.box bK bD aW;clear bK bD aW;have cJ:=an (HS.aI 0))|((with_reducible refine av (N:=3) rfl ?_);refine bN 3 #[.int .i64 1,.int .i64 b,.string x] 53 ?_;intro b3 bK W_ bD aW;replace HS:=HS.box bK bD aW;clear bK bD aW;clear cJ;have bL:=ck (HS.aI 0))|((with_reducible refine av (N:=4) rfl ?_);refine bN 4 #[.slice none 0 0,.slice none 0 0,.slice none 0 0,.slice none 0 0,.int .i64 0] 27 ?_;intro b4 bK W_ bD aW;replace HS:=HS.box bK bD aW;clear bK bD aW;clear bL;have eR:=an (HS.aI 0);clear eR;have eR:=an (HS.aI 0);have bL:=ck (HS.aI 1);have cJ:=an (HS.aI 2))|(go_at_call 96;have cE:=gT.calls (n:=⟨ks,ps,ss,ib,sd⟩) (HS.jw.jw.jw.jw) T1.out;refine cE.mono ?_;clear cE;rintro e W_ ⟨rfl,fX⟩;clear HS;have HS:=fX;clear fX;dsimp only [eO,List.cons_append,List.nil_append] at HS;clear eR bL cJ;have eR:=an (HS.aI 4);have bL:=ck (HS.aI 5);have cJ:=an (HS.aI 6)))
  have HF:=HS.iw 4 (.slice A0 ks.length c0) (.slice A1 ps.length c1) (.slice A2 ss.length c2) (.slice A3 ib.length c3) (.int .i64 KJ)
  refine bodyPost_ret (cK rfl _ _ b4 27 #[.slice A0 ks.length c0,.slice A1 ps.length c1,.slice A2 ss.length c2,.slice A3 ib.length c3,.int .i64 KJ] (0,0) _ rfl (by exact (HF.aI 4).out) Tryz.underlying27 rfl (by kernel_rfl)) rfl ?_
  replace HS:=HF
  replace HS:=HS.j9.tail
  replace HS:=HS.j9.tail
  replace HS:=HS.j9.tail
  exact ⟨rfl,HS⟩
 ·rw [if_neg a1] at h
  have ha1:(a==1)=false:=beq_eq_false_iff_ne.2 a1
  by_cases hx:x=(⟨#[]⟩:ByteArray)
  ·rw [if_pos hx] at h
   subst hx
   by_cases hb:b<0
   ·rw [if_pos hb] at h
    have hbb:decide (b<0)=true:=decide_eq_true hb
    clear hb a1
    obtain ⟨rfl,rfl⟩:=(Prod.mk.injEq _ _ _ _).mp (Option.some.inj h)
    clear h
    go_enter Tryz.func61,Tryz.ntmps61
    go_wp2_with (first|((with_reducible refine av (N:=2) rfl ?_);refine bN 2 #[.slice A0 ks.length c0,.slice A1 ps.length c1,.slice A2 ss.length c2,.slice A3 ib.length c3,.int .i64 sd] 27 ?_;intro b2 bK W_ bD aW;replace HS:=HS.box bK bD aW;clear bK bD aW;have cJ:=an (HS.aI 0))|((with_reducible refine av (N:=3) rfl ?_);refine bN 3 #[.int .i64 a,.int .i64 b,.string (⟨#[]⟩:ByteArray)] 53 ?_;intro b3 bK W_ bD aW;replace HS:=HS.box bK bD aW;clear bK bD aW;clear cJ;have bL:=ck (HS.aI 0))|((with_reducible refine av (N:=4) rfl ?_);refine bN 4 #[.slice none 0 0,.slice none 0 0,.slice none 0 0,.slice none 0 0,.int .i64 0] 27 ?_;intro b4 bK W_ bD aW;replace HS:=HS.box bK bD aW;clear bK bD aW;clear bL;have eR:=an (HS.aI 0);clear eR;have eR:=an (HS.aI 0);have bL:=ck (HS.aI 1);have cJ:=an (HS.aI 2)))
    have HF:=HS.iw 0 (.slice A0 ks.length c0) (.slice A1 ps.length c1) (.slice A2 ss.length c2) (.slice A3 ib.length c3) (.int .i64 sd)
    refine bodyPost_ret (cK rfl _ _ b4 27 #[.slice A0 ks.length c0,.slice A1 ps.length c1,.slice A2 ss.length c2,.slice A3 ib.length c3,.int .i64 sd] (0,0) _ rfl (by exact (HF.aI 0).out) Tryz.underlying27 rfl (by kernel_rfl)) rfl ?_
    replace HS:=HF
    replace HS:=HS.tail
    replace HS:=HS.tail
    replace HS:=HS.tail
    exact ⟨rfl,HS⟩
   ·rw [if_neg hb] at h
    have hbb:decide (b<0)=false:=decide_eq_false hb
    have b0_:0≤b:=by omega
    clear hb
    by_cases a2:a=2
    ·rw [if_pos a2] at h
     subst a2
     clear a1 ha1
     by_cases hl:b<(ks.length:Int)
     ·rw [if_pos hl] at h
      have hlb:decide (b<(ks.length:Int))=true:=decide_eq_true hl
      clear hl
      replace h:=bS h;obtain ⟨⟨Ny,KR,Ky,NP,KJ⟩,T1,h⟩:=h
      obtain ⟨e1,e3⟩:=bB.keeps T1.out
      dsimp only at e1 e3
      replace e1:=e1.symm;replace e3:=e3.symm
      subst e1 e3
      obtain ⟨rfl,rfl⟩:=(Prod.mk.injEq _ _ _ _).mp (Option.some.inj h)
      clear h
      go_enter Tryz.func61,Tryz.ntmps61
      go_wp2_with (first|((with_reducible refine av (N:=2) rfl ?_);refine bN 2 #[.slice A0 ks.length c0,.slice A1 ps.length c1,.slice A2 ss.length c2,.slice A3 ib.length c3,.int .i64 sd] 27 ?_;intro b2 bK W_ bD aW;replace HS:=HS.box bK bD aW;clear bK bD aW;have cJ:=an (HS.aI 0))|((with_reducible refine av (N:=3) rfl ?_);refine bN 3 #[.int .i64 2,.int .i64 b,.string (⟨#[]⟩:ByteArray)] 53 ?_;intro b3 bK W_ bD aW;replace HS:=HS.box bK bD aW;clear bK bD aW;clear cJ;have bL:=ck (HS.aI 0))|((with_reducible refine av (N:=4) rfl ?_);refine bN 4 #[.slice none 0 0,.slice none 0 0,.slice none 0 0,.slice none 0 0,.int .i64 0] 27 ?_;intro b4 bK W_ bD aW;replace HS:=HS.box bK bD aW;clear bK bD aW;clear bL;have eR:=an (HS.aI 0);clear eR;have eR:=an (HS.aI 0);have bL:=ck (HS.aI 1);have cJ:=an (HS.aI 2))|(go_at_call 53;have cE:=bB.calls (n:=⟨ks,ps,ss,ib,sd⟩) (HS.jw.jw.jw.jw) T1.out;refine cE.mono ?_;clear cE;rintro e W_ ⟨rfl,fX⟩;clear HS;have HS:=fX;clear fX;dsimp only [eO,List.cons_append,List.nil_append] at HS;clear eR bL cJ;have eR:=an (HS.aI 4);have bL:=ck (HS.aI 5);have cJ:=an (HS.aI 6)))
      have HF:=HS.iw 4 (.slice A0 ks.length c0) (.slice A1 ps.length c1) (.slice A2 ss.length c2) (.slice A3 ib.length c3) (.int .i64 sd)
      refine bodyPost_ret (cK rfl _ _ b4 27 #[.slice A0 ks.length c0,.slice A1 ps.length c1,.slice A2 ss.length c2,.slice A3 ib.length c3,.int .i64 sd] (0,0) _ rfl (by exact (HF.aI 4).out) Tryz.underlying27 rfl (by kernel_rfl)) rfl ?_
      replace HS:=HF
      replace HS:=HS.j9.tail
      replace HS:=HS.j9.tail
      replace HS:=HS.j9.tail
      exact ⟨rfl,HS⟩
     ·rw [if_neg hl] at h
      have hlb:decide (b<(ks.length:Int))=false:=decide_eq_false hl
      clear hl
      obtain ⟨rfl,rfl⟩:=(Prod.mk.injEq _ _ _ _).mp (Option.some.inj h)
      clear h
      go_enter Tryz.func61,Tryz.ntmps61
      go_upto_region 7 with (first|((with_reducible refine av (N:=2) rfl ?_);refine bN 2 #[.slice A0 ks.length c0,.slice A1 ps.length c1,.slice A2 ss.length c2,.slice A3 ib.length c3,.int .i64 sd] 27 ?_;intro b2 bK W_ bD aW;replace HS:=HS.box bK bD aW;clear bK bD aW;have cJ:=an (HS.aI 0))|((with_reducible refine av (N:=3) rfl ?_);refine bN 3 #[.int .i64 2,.int .i64 b,.string (⟨#[]⟩:ByteArray)] 53 ?_;intro b3 bK W_ bD aW;replace HS:=HS.box bK bD aW;clear bK bD aW;clear cJ;have bL:=ck (HS.aI 0))|((with_reducible refine av (N:=4) rfl ?_);refine bN 4 #[.slice none 0 0,.slice none 0 0,.slice none 0 0,.slice none 0 0,.int .i64 0] 27 ?_;intro b4 bK W_ bD aW;replace HS:=HS.box bK bD aW;clear bK bD aW;clear bL;have eR:=an (HS.aI 0);clear eR;have eR:=an (HS.aI 0);have bL:=ck (HS.aI 1);have cJ:=an (HS.aI 2)))
      go_upto_region 7 with fail
      clear eR bL cJ
      have eR:=an (HS.aI 0)
      have bL:=ck (HS.aI 1)
      have cJ:=an (HS.aI 2)
      refine dV (n:=14) (S:=fun w'=>w'.cell? ⟨b4,0,none⟩=some (.slice none 0 0)∧w'.cell? ⟨b4,1,none⟩=some (.slice none 0 0)∧w'.cell? ⟨b4,2,none⟩=some (.slice none 0 0)∧w'.cell? ⟨b4,3,none⟩=some (.slice none 0 0)∧w'.cell? ⟨b4,4,none⟩=some (.int .i64 0)∧w'.cell? ⟨b3,0,none⟩=some (.int .i64 2)∧w'.cell? ⟨b3,1,none⟩=some (.int .i64 b)∧w'.cell? ⟨b3,2,none⟩=some (.string (⟨#[]⟩:ByteArray))∧w'.cell? ⟨b2,0,none⟩=some (.slice A0 ks.length c0)∧w'.cell? ⟨b2,1,none⟩=some (.slice A1 ps.length c1)∧w'.cell? ⟨b2,2,none⟩=some (.slice A2 ss.length c2)∧w'.cell? ⟨b2,3,none⟩=some (.slice A3 ib.length c3)∧w'.cell? ⟨b2,4,none⟩=some (.int .i64 sd)) (ds:=[]) (bl 14 0) (by kernel_rfl) rfl rfl ⟨eR.1,eR.2.1,eR.2.2.1,eR.2.2.2.1,eR.2.2.2.2.1,bL.1,bL.2.1,bL.2.2.1,cJ.1,cJ.2.1,cJ.2.2.1,cJ.2.2.2.1,cJ.2.2.2.2.1⟩ (fun ah=> ?_);refine bZ bP.QD bP.JQ (fun aA ef=> ?_)
      clear eR bL cJ
      replace HS:=HS.drew
      generalize World.drew _=tD at HS ah⊢
      refine ag 0 (some 45) 14 1 aA ?_
      refine cg 1 (some 46) 14 3 aA ef ah ?_ (hy:=by rintro w' ⟨s0,s1,s2,s3,s4,s5,s6,s7,s8,s9,KN,KM,KK⟩;go_simp;with_reducible rfl)
      refine ag 2 (some 47) 14 7 aA ?_
      refine ag 3 (some 48) 14 15 aA ?_
      try simp only [show ((2:Int)==3)=false from rfl]
      refine cL 4 (some 49) 14 31 aA ?_
      refine cL 5 (some 50) 14 63 aA ?_
      refine cL 6 (some 51) 14 127 aA ?_
      refine cL 7 (some 52) 14 255 aA ?_
      refine cL 8 (some 53) 14 511 aA ?_
      refine cL 9 (some 54) 14 1023 aA ?_
      refine cL 10 (some 55) 14 2047 aA ?_
      refine cL 11 (some 56) 14 4095 aA ?_
      refine ag 12 (some 57) 14 8191 aA ?_
      refine ag 13 (some 44) 14 16383 aA ?_
      refine eZ (cV aA.out (by kernel_rfl)) ?_
      clear aA ef ah
      have eR:=an (HS.aI 0)
      have bL:=ck (HS.aI 1)
      have cJ:=an (HS.aI 2)
      go_wp2
      have HF:=HS.iw 0 (.slice A0 ks.length c0) (.slice A1 ps.length c1) (.slice A2 ss.length c2) (.slice A3 ib.length c3) (.int .i64 sd)
      refine bodyPost_ret (cK rfl _ _ b4 27 #[.slice A0 ks.length c0,.slice A1 ps.length c1,.slice A2 ss.length c2,.slice A3 ib.length c3,.int .i64 sd] (0,0) _ rfl (by exact (HF.aI 0).out) Tryz.underlying27 rfl (by kernel_rfl)) rfl ?_
      replace HS:=HF
      replace HS:=HS.tail
      replace HS:=HS.tail
      replace HS:=HS.tail
      exact ⟨rfl,HS⟩
    ·rw [if_neg a2] at h
     have ha2:(a==2)=false:=beq_eq_false_iff_ne.2 a2
     by_cases a3:a=3
     ·rw [if_pos a3] at h
      subst a3
      clear a1 ha1 a2 ha2
      replace h:=dy h;obtain ⟨rY,h⟩:=h
      obtain ⟨g2,q2,e⟩:=HS.addr 2 (hx:=rY)
      obtain rfl:A2=some ⟨g2,0,none⟩:=by injection e
      clear e
      have j0:(0:Int)≤0:=Int.le_refl 0
      have j1:(0:Int)<(ss.length:Int):=by omega
      have pj1:(0<(ss.length:Int))=True:=eq_true j1
      have pj2:(0<ss.length)=True:=eq_true rY
      obtain ⟨AS,qS,HS,-,-⟩:=HS.me.yS 0 j0 j1
      have SZ:ss.getD (0:Int).toNat []=ss.getD 0 []:=rfl
      rw [SZ] at HS
      generalize hS:ss.getD 0 []=S at HS h SZ
      have GS:=ak SZ;clear SZ hS
      by_cases SD:b<(S.length:Int)
      ·rw [if_pos SD] at h
       have hlb:decide (b<(S.length:Int))=true:=decide_eq_true SD
       replace h:=bS h;obtain ⟨⟨Ny,KR,Ky,NP,KJ⟩,T1,h⟩:=h
       obtain ⟨e1,e2,e3⟩:=bQ.keeps T1.out
       dsimp only at e1 e2 e3
       replace e1:=e1.symm;replace e2:=e2.symm;replace e3:=e3.symm
       subst e1 e2 e3
       obtain ⟨rfl,rfl⟩:=(Prod.mk.injEq _ _ _ _).mp (Option.some.inj h)
       clear h
       generalize nx:aQ ByteArray.empty S b=s at T1
       go_enter Tryz.func61,Tryz.ntmps61
       go_upto_region 7 with (first|((with_reducible refine av (N:=2) rfl ?_);refine bN 2 #[.slice A0 ks.length c0,.slice A1 ps.length c1,.slice (some ⟨g2,0,none⟩) ss.length c2,.slice A3 ib.length c3,.int .i64 sd] 27 ?_;intro b2 bK W_ bD aW;replace HS:=HS.box bK bD aW;clear bK bD aW;have cJ:=an (HS.aI 0))|((with_reducible refine av (N:=3) rfl ?_);refine bN 3 #[.int .i64 3,.int .i64 b,.string (⟨#[]⟩:ByteArray)] 53 ?_;intro b3 bK W_ bD aW;replace HS:=HS.box bK bD aW;clear bK bD aW;clear cJ;have bL:=ck (HS.aI 0))|((with_reducible refine av (N:=4) rfl ?_);refine bN 4 #[.slice none 0 0,.slice none 0 0,.slice none 0 0,.slice none 0 0,.int .i64 0] 27 ?_;intro b4 bK W_ bD aW;replace HS:=HS.box bK bD aW;clear bK bD aW;clear bL;have eR:=an (HS.aI 0);clear eR;have eR:=an (HS.aI 0);have bL:=ck (HS.aI 1);have cJ:=an (HS.aI 2)))
       go_upto_region 7 with fail
       clear eR bL cJ
       have eR:=an (HS.aI 0)
       have bL:=ck (HS.aI 1)
       have cJ:=an (HS.aI 2)
       obtain ⟨gK,jf⟩:=HS.vm.hole j0 j1
       refine dV (n:=14) (S:=fun w'=>w'.cell? ⟨b4,0,none⟩=some (.slice none 0 0)∧w'.cell? ⟨b4,1,none⟩=some (.slice none 0 0)∧w'.cell? ⟨b4,2,none⟩=some (.slice none 0 0)∧w'.cell? ⟨b4,3,none⟩=some (.slice none 0 0)∧w'.cell? ⟨b4,4,none⟩=some (.int .i64 0)∧w'.cell? ⟨b3,0,none⟩=some (.int .i64 3)∧w'.cell? ⟨b3,1,none⟩=some (.int .i64 b)∧w'.cell? ⟨b3,2,none⟩=some (.string (⟨#[]⟩:ByteArray))∧w'.cell? ⟨b2,0,none⟩=some (.slice A0 ks.length c0)∧w'.cell? ⟨b2,1,none⟩=some (.slice A1 ps.length c1)∧w'.cell? ⟨b2,2,none⟩=some (.slice (some ⟨g2,0,none⟩) ss.length c2)∧w'.cell? ⟨b2,3,none⟩=some (.slice A3 ib.length c3)∧w'.cell? ⟨b2,4,none⟩=some (.int .i64 sd)∧w'.cell? ⟨g2,0,none⟩=some (.slice AS S.length qS)) (ds:=[]) (bl 14 0) (by kernel_rfl) rfl rfl ⟨eR.1,eR.2.1,eR.2.2.1,eR.2.2.2.1,eR.2.2.2.2.1,bL.1,bL.2.1,bL.2.2.1,cJ.1,cJ.2.1,cJ.2.2.1,cJ.2.2.2.1,cJ.2.2.2.2.1,gK⟩ (fun ah=> ?_);refine bZ bP.QD bP.JQ (fun aA ef=> ?_)
       clear eR bL cJ gK jf
       replace HS:=HS.drew
       generalize World.drew _=tD at HS ah⊢
       refine ag 0 (some 45) 14 1 aA ?_
       refine cg 1 (some 46) 14 3 aA ef ah ?_ (hy:=by rintro w' ⟨s0,s1,s2,s3,s4,s5,s6,s7,s8,s9,KN,KM,KK,MY⟩;go_simp;with_reducible rfl)
       refine ag 2 (some 47) 14 7 aA ?_
       refine ag 3 (some 48) 14 15 aA ?_
       try simp only [show ((3:Int)==3)=true from rfl]
       refine ag 4 (some 49) 14 31 aA ?_
       refine cg 5 (some 50) 14 63 aA ef ah ?_ (hy:=by rintro w' ⟨s0,s1,s2,s3,s4,s5,s6,s7,s8,s9,KN,KM,KK,MY⟩;go_simp;with_reducible rfl)
       refine ag 6 (some 51) 14 127 aA ?_
       refine cg 7 (some 52) 14 255 aA ef ah ?_ (hy:=by rintro w' ⟨s0,s1,s2,s3,s4,s5,s6,s7,s8,s9,KN,KM,KK,MY⟩;go_simp;with_reducible rfl)
       refine ag 8 (some 53) 14 511 aA ?_
       refine cg 9 (some 54) 14 1023 aA ef ah ?_ (hy:=by rintro w' ⟨s0,s1,s2,s3,s4,s5,s6,s7,s8,s9,KN,KM,KK,MY⟩;go_simp;with_reducible rfl)
       refine ag 10 (some 55) 14 2047 aA ?_
       refine ag 11 (some 56) 14 4095 aA ?_
       refine ag 12 (some 57) 14 8191 aA ?_
       refine ag 13 (some 44) 14 16383 aA ?_
       refine eZ (cV aA.out (by kernel_rfl)) ?_
       clear aA ef ah
       have eR:=an (HS.aI 0)
       have bL:=ck (HS.aI 1)
       have cJ:=an (HS.aI 2)
       obtain ⟨gS,qS',e⟩:=HS.uN 4 (hx:=by omega)
       obtain rfl:AS=some ⟨gS,0,none⟩:=by injection e
       clear e
       go_upto_region 8 with fail
       have pb0:(0≤b)=True:=eq_true b0_
       have pb1:(b<(S.length:Int))=True:=eq_true SD
       go_upto_region 8 with fail
       clear eR bL cJ
       have bL:=ck (HS.aI 1)
       have cJ:=an (HS.aI 2)
       obtain ⟨gK,jf⟩:=HS.vm.hole j0 j1
       have Wi:=HS.cellS 4 (n:=S.length) b b0_ SD
       rw [nx] at Wi
       refine dV (n:=12) (S:=fun w'=>w'.cell? ⟨b3,0,none⟩=some (.int .i64 3)∧w'.cell? ⟨b3,1,none⟩=some (.int .i64 b)∧w'.cell? ⟨b3,2,none⟩=some (.string (⟨#[]⟩:ByteArray))∧w'.cell? ⟨b2,0,none⟩=some (.slice A0 ks.length c0)∧w'.cell? ⟨b2,1,none⟩=some (.slice A1 ps.length c1)∧w'.cell? ⟨b2,2,none⟩=some (.slice (some ⟨g2,0,none⟩) ss.length c2)∧w'.cell? ⟨b2,3,none⟩=some (.slice A3 ib.length c3)∧w'.cell? ⟨b2,4,none⟩=some (.int .i64 sd)∧w'.cell? ⟨g2,0,none⟩=some (.slice (some ⟨gS,0,none⟩) S.length qS)∧w'.cell? ⟨gS,b.toNat,none⟩=some (.string s)) (ds:=[9,10]) (bl 12 0) (by kernel_rfl) rfl rfl ⟨bL.1,bL.2.1,bL.2.2.1,cJ.1,cJ.2.1,cJ.2.2.1,cJ.2.2.2.1,cJ.2.2.2.2.1,gK,Wi⟩ (fun ah=> ?_);refine bZ bP.wX bP.qm (fun aA ef=> ?_)
       clear bL cJ gK jf Wi
       replace HS:=HS.drew
       generalize World.drew _=tD at HS ah⊢
       refine cg 0 (some 58) 12 1 aA ef ah ?_ (hy:=by rintro w' ⟨s0,s1,s2,s3,s4,s5,s6,s7,s8,s9⟩;go_simp;with_reducible rfl)
       refine ag 1 (some 59) 12 3 aA ?_
       refine cg 2 (some 60) 12 7 aA ef ah ?_ (hy:=by rintro w' ⟨s0,s1,s2,s3,s4,s5,s6,s7,s8,s9⟩;go_simp;with_reducible rfl)
       refine ag 3 (some 61) 12 15 aA ?_
       refine cg 4 (some 62) 12 31 aA ef ah ?_ (hy:=by rintro w' ⟨s0,s1,s2,s3,s4,s5,s6,s7,s8,s9⟩;go_simp;with_reducible rfl)
       refine ag 5 (some 63) 12 63 aA ?_
       refine cg 6 (some 64) 12 127 aA ef ah ?_ (hy:=by rintro w' ⟨s0,s1,s2,s3,s4,s5,s6,s7,s8,s9⟩;go_simp;with_reducible rfl)
       refine ag 7 (some 65) 12 255 aA ?_
       refine cg 8 (some 66) 12 511 aA ef ah ?_ (hy:=by rintro w' ⟨s0,s1,s2,s3,s4,s5,s6,s7,s8,s9⟩;go_simp;with_reducible rfl)
       replace HS:=HS.j9.j9.sP GS
       refine lH (i:=9) (N:=(some 67)) (bl 12 1023) rfl rfl (jd aA.out (by kernel_rfl)) (by decide) (fun K hK=> ?_)
       clear ah
       refine fM Tryz.func89 (by kernel_rfl) rfl #[.agg #[.slice A0 ks.length c0,.slice A1 ps.length c1,.slice (some ⟨g2,0,none⟩) ss.length c2,.slice A3 ib.length c3,.int .i64 sd],.int .i64 0,.string s] (by rfl) rfl rfl (by (try simp only [List.map_toArray,List.map_cons,List.map_nil]);first|done|rfl) ?_
       have cE:=bQ.calls (n:=⟨ks,ps,ss,ib,sd⟩) (HS.jw.mE.jw.jw) T1.out
       refine cE.mono ?_
       clear cE
       rintro e W_ ⟨rfl,fX⟩
       refine ⟨_,rfl,?_⟩
       clear HS
       have HS:=fX
       clear fX
       dsimp only [eO,List.cons_append,List.nil_append] at HS
       refine hK.out _ _ ?_
       clear hK K
       refine cM (a':= ?_) ?_ ?_
       rotate_left
       ·show Act.put _ (some 67) _=_
        simp only [Act.put,List.setIfInBounds_toArray,List.set_cons_zero,List.set_cons_succ,bW,cA]
        rfl
       refine lH (i:=10) (N:=none) (bl 12 2047) rfl rfl (jd aA.out (by kernel_rfl)) (by decide) (fun K hK=> ?_)
       have eR:=an (HS.aI 4)
       refine jV (w1:= ?_) (by rfl) rfl ?_ ?_
       rotate_left
       ·go_simp
        rfl
       clear eR
       replace HS:=HS.iw 4 (.slice A0 ks.length c0) (.slice A1 ps.length c1) (.slice (some ⟨g2,0,none⟩) ss.length c2) (.slice A3 ib.length c3) (.int .i64 sd)
       refine hK.out _ _ ?_
       clear hK K
       obtain ⟨rC,gU,gX⟩:=HS.gen
       rw [gU]
       clear HS gU
       have HS:=gX
       clear gX
       refine ag 11 (some 5) 12 4095 aA ?_
       refine eZ (cV aA.out (by kernel_rfl)) ?_
       clear aA ef
       go_wp2
       refine bodyPost_ret (cK rfl _ _ b4 27 #[.slice A0 ks.length c0,.slice A1 ps.length c1,.slice (some ⟨g2,0,none⟩) ss.length c2,.slice A3 ib.length c3,.int .i64 sd] (0,0) _ rfl (by exact (HS.aI 4).out) Tryz.underlying27 rfl (by kernel_rfl)) rfl ?_
       replace HS:=HS.j9.tail
       replace HS:=HS.j9.tail
       replace HS:=HS.j9.tail
       exact ⟨rfl,HS⟩
      ·rw [if_neg SD] at h
       have hlb:decide (b<(S.length:Int))=false:=decide_eq_false SD
       obtain ⟨rfl,rfl⟩:=(Prod.mk.injEq _ _ _ _).mp (Option.some.inj h)
       clear h
       go_enter Tryz.func61,Tryz.ntmps61
       go_upto_region 7 with (first|((with_reducible refine av (N:=2) rfl ?_);refine bN 2 #[.slice A0 ks.length c0,.slice A1 ps.length c1,.slice (some ⟨g2,0,none⟩) ss.length c2,.slice A3 ib.length c3,.int .i64 sd] 27 ?_;intro b2 bK W_ bD aW;replace HS:=HS.box bK bD aW;clear bK bD aW;have cJ:=an (HS.aI 0))|((with_reducible refine av (N:=3) rfl ?_);refine bN 3 #[.int .i64 3,.int .i64 b,.string (⟨#[]⟩:ByteArray)] 53 ?_;intro b3 bK W_ bD aW;replace HS:=HS.box bK bD aW;clear bK bD aW;clear cJ;have bL:=ck (HS.aI 0))|((with_reducible refine av (N:=4) rfl ?_);refine bN 4 #[.slice none 0 0,.slice none 0 0,.slice none 0 0,.slice none 0 0,.int .i64 0] 27 ?_;intro b4 bK W_ bD aW;replace HS:=HS.box bK bD aW;clear bK bD aW;clear bL;have eR:=an (HS.aI 0);clear eR;have eR:=an (HS.aI 0);have bL:=ck (HS.aI 1);have cJ:=an (HS.aI 2)))
       go_upto_region 7 with fail
       clear eR bL cJ
       have eR:=an (HS.aI 0)
       have bL:=ck (HS.aI 1)
       have cJ:=an (HS.aI 2)
       obtain ⟨gK,jf⟩:=HS.vm.hole j0 j1
       refine dV (n:=14) (S:=fun w'=>w'.cell? ⟨b4,0,none⟩=some (.slice none 0 0)∧w'.cell? ⟨b4,1,none⟩=some (.slice none 0 0)∧w'.cell? ⟨b4,2,none⟩=some (.slice none 0 0)∧w'.cell? ⟨b4,3,none⟩=some (.slice none 0 0)∧w'.cell? ⟨b4,4,none⟩=some (.int .i64 0)∧w'.cell? ⟨b3,0,none⟩=some (.int .i64 3)∧w'.cell? ⟨b3,1,none⟩=some (.int .i64 b)∧w'.cell? ⟨b3,2,none⟩=some (.string (⟨#[]⟩:ByteArray))∧w'.cell? ⟨b2,0,none⟩=some (.slice A0 ks.length c0)∧w'.cell? ⟨b2,1,none⟩=some (.slice A1 ps.length c1)∧w'.cell? ⟨b2,2,none⟩=some (.slice (some ⟨g2,0,none⟩) ss.length c2)∧w'.cell? ⟨b2,3,none⟩=some (.slice A3 ib.length c3)∧w'.cell? ⟨b2,4,none⟩=some (.int .i64 sd)∧w'.cell? ⟨g2,0,none⟩=some (.slice AS S.length qS)) (ds:=[]) (bl 14 0) (by kernel_rfl) rfl rfl ⟨eR.1,eR.2.1,eR.2.2.1,eR.2.2.2.1,eR.2.2.2.2.1,bL.1,bL.2.1,bL.2.2.1,cJ.1,cJ.2.1,cJ.2.2.1,cJ.2.2.2.1,cJ.2.2.2.2.1,gK⟩ (fun ah=> ?_);refine bZ bP.QD bP.JQ (fun aA ef=> ?_)
       clear eR bL cJ gK jf
       replace HS:=HS.drew
       generalize World.drew _=tD at HS ah⊢
       refine ag 0 (some 45) 14 1 aA ?_
       refine cg 1 (some 46) 14 3 aA ef ah ?_ (hy:=by rintro w' ⟨s0,s1,s2,s3,s4,s5,s6,s7,s8,s9,KN,KM,KK,MY⟩;go_simp;with_reducible rfl)
       refine ag 2 (some 47) 14 7 aA ?_
       refine ag 3 (some 48) 14 15 aA ?_
       try simp only [show ((3:Int)==3)=true from rfl]
       refine ag 4 (some 49) 14 31 aA ?_
       refine cg 5 (some 50) 14 63 aA ef ah ?_ (hy:=by rintro w' ⟨s0,s1,s2,s3,s4,s5,s6,s7,s8,s9,KN,KM,KK,MY⟩;go_simp;with_reducible rfl)
       refine ag 6 (some 51) 14 127 aA ?_
       refine cg 7 (some 52) 14 255 aA ef ah ?_ (hy:=by rintro w' ⟨s0,s1,s2,s3,s4,s5,s6,s7,s8,s9,KN,KM,KK,MY⟩;go_simp;with_reducible rfl)
       refine ag 8 (some 53) 14 511 aA ?_
       refine cg 9 (some 54) 14 1023 aA ef ah ?_ (hy:=by rintro w' ⟨s0,s1,s2,s3,s4,s5,s6,s7,s8,s9,KN,KM,KK,MY⟩;go_simp;with_reducible rfl)
       refine ag 10 (some 55) 14 2047 aA ?_
       refine ag 11 (some 56) 14 4095 aA ?_
       refine ag 12 (some 57) 14 8191 aA ?_
       refine ag 13 (some 44) 14 16383 aA ?_
       refine eZ (cV aA.out (by kernel_rfl)) ?_
       clear aA ef ah
       have eR:=an (HS.aI 0)
       have bL:=ck (HS.aI 1)
       have cJ:=an (HS.aI 2)
       go_wp2
       replace HS:=HS.j9.j9.sP GS
       have HF:=HS.iw 1 (.slice A0 ks.length c0) (.slice A1 ps.length c1) (.slice (some ⟨g2,0,none⟩) ss.length c2) (.slice A3 ib.length c3) (.int .i64 sd)
       refine bodyPost_ret (cK rfl _ _ b4 27 #[.slice A0 ks.length c0,.slice A1 ps.length c1,.slice (some ⟨g2,0,none⟩) ss.length c2,.slice A3 ib.length c3,.int .i64 sd] (0,0) _ rfl (by exact (HF.aI 1).out) Tryz.underlying27 rfl (by kernel_rfl)) rfl ?_
       replace HS:=HF
       replace HS:=HS.mE.tail
       replace HS:=HS.mE.tail
       replace HS:=HS.mE.tail
       exact ⟨rfl,HS.vm.mE.vm.vm⟩
     ·rw [if_neg a3] at h
      have ha3:(a==3)=false:=beq_eq_false_iff_ne.2 a3
      clear a1 a2 a3
      obtain ⟨rfl,rfl⟩:=(Prod.mk.injEq _ _ _ _).mp (Option.some.inj h)
      clear h
      go_enter Tryz.func61,Tryz.ntmps61
      go_upto_region 7 with (first|((with_reducible refine av (N:=2) rfl ?_);refine bN 2 #[.slice A0 ks.length c0,.slice A1 ps.length c1,.slice A2 ss.length c2,.slice A3 ib.length c3,.int .i64 sd] 27 ?_;intro b2 bK W_ bD aW;replace HS:=HS.box bK bD aW;clear bK bD aW;have cJ:=an (HS.aI 0))|((with_reducible refine av (N:=3) rfl ?_);refine bN 3 #[.int .i64 a,.int .i64 b,.string (⟨#[]⟩:ByteArray)] 53 ?_;intro b3 bK W_ bD aW;replace HS:=HS.box bK bD aW;clear bK bD aW;clear cJ;have bL:=ck (HS.aI 0))|((with_reducible refine av (N:=4) rfl ?_);refine bN 4 #[.slice none 0 0,.slice none 0 0,.slice none 0 0,.slice none 0 0,.int .i64 0] 27 ?_;intro b4 bK W_ bD aW;replace HS:=HS.box bK bD aW;clear bK bD aW;clear bL;have eR:=an (HS.aI 0);clear eR;have eR:=an (HS.aI 0);have bL:=ck (HS.aI 1);have cJ:=an (HS.aI 2)))
      go_upto_region 7 with fail
      clear eR bL cJ
      have eR:=an (HS.aI 0)
      have bL:=ck (HS.aI 1)
      have cJ:=an (HS.aI 2)
      refine dV (n:=14) (S:=fun w'=>w'.cell? ⟨b4,0,none⟩=some (.slice none 0 0)∧w'.cell? ⟨b4,1,none⟩=some (.slice none 0 0)∧w'.cell? ⟨b4,2,none⟩=some (.slice none 0 0)∧w'.cell? ⟨b4,3,none⟩=some (.slice none 0 0)∧w'.cell? ⟨b4,4,none⟩=some (.int .i64 0)∧w'.cell? ⟨b3,0,none⟩=some (.int .i64 a)∧w'.cell? ⟨b3,1,none⟩=some (.int .i64 b)∧w'.cell? ⟨b3,2,none⟩=some (.string (⟨#[]⟩:ByteArray))∧w'.cell? ⟨b2,0,none⟩=some (.slice A0 ks.length c0)∧w'.cell? ⟨b2,1,none⟩=some (.slice A1 ps.length c1)∧w'.cell? ⟨b2,2,none⟩=some (.slice A2 ss.length c2)∧w'.cell? ⟨b2,3,none⟩=some (.slice A3 ib.length c3)∧w'.cell? ⟨b2,4,none⟩=some (.int .i64 sd)) (ds:=[]) (bl 14 0) (by kernel_rfl) rfl rfl ⟨eR.1,eR.2.1,eR.2.2.1,eR.2.2.2.1,eR.2.2.2.2.1,bL.1,bL.2.1,bL.2.2.1,cJ.1,cJ.2.1,cJ.2.2.1,cJ.2.2.2.1,cJ.2.2.2.2.1⟩ (fun ah=> ?_);refine bZ bP.QD bP.JQ (fun aA ef=> ?_)
      clear eR bL cJ
      replace HS:=HS.drew
      generalize World.drew _=tD at HS ah⊢
      refine ag 0 (some 45) 14 1 aA ?_
      refine cg 1 (some 46) 14 3 aA ef ah ?_ (hy:=by rintro w' ⟨s0,s1,s2,s3,s4,s5,s6,s7,s8,s9,KN,KM,KK⟩;go_simp;with_reducible rfl)
      refine ag 2 (some 47) 14 7 aA ?_
      refine ag 3 (some 48) 14 15 aA ?_
      try simp only [ha3]
      refine cL 4 (some 49) 14 31 aA ?_
      refine cL 5 (some 50) 14 63 aA ?_
      refine cL 6 (some 51) 14 127 aA ?_
      refine cL 7 (some 52) 14 255 aA ?_
      refine cL 8 (some 53) 14 511 aA ?_
      refine cL 9 (some 54) 14 1023 aA ?_
      refine cL 10 (some 55) 14 2047 aA ?_
      refine cL 11 (some 56) 14 4095 aA ?_
      refine ag 12 (some 57) 14 8191 aA ?_
      refine ag 13 (some 44) 14 16383 aA ?_
      refine eZ (cV aA.out (by kernel_rfl)) ?_
      clear aA ef ah
      have eR:=an (HS.aI 0)
      have bL:=ck (HS.aI 1)
      have cJ:=an (HS.aI 2)
      go_wp2
      have HF:=HS.iw 0 (.slice A0 ks.length c0) (.slice A1 ps.length c1) (.slice A2 ss.length c2) (.slice A3 ib.length c3) (.int .i64 sd)
      refine bodyPost_ret (cK rfl _ _ b4 27 #[.slice A0 ks.length c0,.slice A1 ps.length c1,.slice A2 ss.length c2,.slice A3 ib.length c3,.int .i64 sd] (0,0) _ rfl (by exact (HF.aI 0).out) Tryz.underlying27 rfl (by kernel_rfl)) rfl ?_
      replace HS:=HF
      replace HS:=HS.tail
      replace HS:=HS.tail
      replace HS:=HS.tail
      exact ⟨rfl,HS⟩
  ·rw [if_neg hx] at h
   have hxe:=oe hx
   clear hx a1
   obtain ⟨rfl,rfl⟩:=(Prod.mk.injEq _ _ _ _).mp (Option.some.inj h)
   clear h
   go_enter Tryz.func61,Tryz.ntmps61
   go_wp2_with (first|((with_reducible refine av (N:=2) rfl ?_);refine bN 2 #[.slice A0 ks.length c0,.slice A1 ps.length c1,.slice A2 ss.length c2,.slice A3 ib.length c3,.int .i64 sd] 27 ?_;intro b2 bK W_ bD aW;replace HS:=HS.box bK bD aW;clear bK bD aW;have cJ:=an (HS.aI 0))|((with_reducible refine av (N:=3) rfl ?_);refine bN 3 #[.int .i64 a,.int .i64 b,.string x] 53 ?_;intro b3 bK W_ bD aW;replace HS:=HS.box bK bD aW;clear bK bD aW;clear cJ;have bL:=ck (HS.aI 0))|((with_reducible refine av (N:=4) rfl ?_);refine bN 4 #[.slice none 0 0,.slice none 0 0,.slice none 0 0,.slice none 0 0,.int .i64 0] 27 ?_;intro b4 bK W_ bD aW;replace HS:=HS.box bK bD aW;clear bK bD aW;clear bL;have eR:=an (HS.aI 0);clear eR;have eR:=an (HS.aI 0);have bL:=ck (HS.aI 1);have cJ:=an (HS.aI 2)))
   have HF:=HS.iw 0 (.slice A0 ks.length c0) (.slice A1 ps.length c1) (.slice A2 ss.length c2) (.slice A3 ib.length c3) (.int .i64 sd)
   refine bodyPost_ret (cK rfl _ _ b4 27 #[.slice A0 ks.length c0,.slice A1 ps.length c1,.slice A2 ss.length c2,.slice A3 ib.length c3,.int .i64 sd] (0,0) _ rfl (by exact (HF.aI 0).out) Tryz.underlying27 rfl (by kernel_rfl)) rfl ?_
   replace HS:=HF
   replace HS:=HS.tail
   replace HS:=HS.tail
   replace HS:=HS.tail
   exact ⟨rfl,HS⟩
def eP.T3:Bool×List (List Nat×List Nat):=(true,[([],[]),([0],[0]),([],[]),([1,2,1],[1,2]),([3],[3]),([4],[4]),([4],[4]),([],[]),([7,5,3,0,1,2,3,4,5,7],[5,7]),([6,8,0,1,2,3,4,5,6,7,8],[6])])
def eP.B3:List Nat:=[0,1,0,7,15,31,31,0,191,511]
theorem eP.FX:gz .any (opsOf Tryz.f28 3)=eP.T3:=by kernel_rfl
theorem eP.zJ:dZ eP.T3.2 eP.B3=true:=by kernel_rfl
def eP.f (k:Nat) (n:Nt) (a b:Int) (x:ByteArray):Option (Nt×Bool):=(aj.f k n.ks n.ps n.ss n.ib n.sd).bind fun g=>if g=false then some (⟨[],[],[],[],0⟩,false) else (cT.f k n).bind fun n1=>(bP.f k n1 a b x).bind fun (n2,r)=>if r=false then some (⟨[],[],[],[],0⟩,false) else (cT.f k n2).bind fun n3=>some (n3,true)
theorem eP.calls {k:Nat} {v0 v1 v2 v3:Value} {n m:Nt} {a b:Int} {x:ByteArray} {r:Bool} {w:World} (hn:NC w v0 v1 v2 v3 n) (h:eP.f k n a b x=some (m,r)):
    Calls Tryz.prog 28 #[.agg #[v0,v1,v2,v3,.int .i64 n.sd],.agg #[.int .i64 a,.int .i64 b,.string x]] w (qc w m r):=by
 have lg:=Tryz.underlying27
 have GX:=Tryz.underlying53
 unfold eP.f at h
 obtain ⟨A0,c0,A1,c1,A2,c2,A3,c3,e_,x_⟩:=hn
 have HN:=ak (show NC w v0 v1 v2 v3 n from ⟨A0,c0,A1,c1,A2,c2,A3,c3,e_,x_⟩)
 obtain ⟨rfl,rfl,rfl,rfl⟩:=e_
 clear x_
 obtain ⟨ks,ps,ss,ib,sd⟩:=n
 dsimp only at HN h⊢
 have HS:=Sep.nil w
 replace h:=bS h;obtain ⟨g,T0,h⟩:=h
 cases g with
 |false=>
  rw [if_pos rfl] at h
  obtain ⟨rfl,rfl⟩:=(Prod.mk.injEq _ _ _ _).mp (Option.some.inj h)
  clear h
  go_enter Tryz.func28,Tryz.ntmps28
  go_wp2_with (first|((with_reducible refine av (N:=2) rfl ?_);refine bN 2 #[.slice A0 ks.length c0,.slice A1 ps.length c1,.slice A2 ss.length c2,.slice A3 ib.length c3,.int .i64 sd] 27 ?_;intro b2 bK W_ bD aW;replace HS:=HS.box bK bD aW;clear bK bD aW;have cJ:=an (HS.aI 0))|((with_reducible refine av (N:=3) rfl ?_);refine bN 3 #[.int .i64 a,.int .i64 b,.string x] 53 ?_;intro b3 bK W_ bD aW;replace HS:=HS.box bK bD aW;clear bK bD aW;clear cJ;have bL:=ck (HS.aI 0))|((with_reducible refine av (N:=4) rfl ?_);refine bN 4 #[.slice none 0 0,.slice none 0 0,.slice none 0 0,.slice none 0 0,.int .i64 0] 27 ?_;intro b4 bK W_ bD aW;replace HS:=HS.box bK bD aW;clear bK bD aW;clear bL;have eR:=an (HS.aI 0);clear eR;have eR:=an (HS.aI 0);have bL:=ck (HS.aI 1);have cJ:=an (HS.aI 2))|(go_at_call 42;have cE:=aj.KZ (n:=⟨ks,ps,ss,ib,sd⟩) (HN.out.below HS.base) T0.out;refine cE.mono ?_;clear cE;rintro e W_ ⟨rfl,aW⟩;replace HS:=HS.below aW;clear aW;clear eR bL cJ;have eR:=an (HS.aI 0);have bL:=ck (HS.aI 1);have cJ:=an (HS.aI 2)))
  have HF:=HS.iw 0 (.slice none 0 0) (.slice none 0 0) (.slice none 0 0) (.slice none 0 0) (.int .i64 0)
  refine bodyPost_ret (cK rfl _ _ b4 27 #[.slice none 0 0,.slice none 0 0,.slice none 0 0,.slice none 0 0,.int .i64 0] (0,0) _ rfl (by exact (HF.aI 0).out) Tryz.underlying27 rfl (by kernel_rfl)) rfl ?_
  exact ⟨_,_,_,_,rfl,rU HF,HF.base⟩
 |true=>
  rw [if_neg (by decide)] at h
  replace h:=bS h;obtain ⟨n1,T1,h⟩:=h
  replace h:=bS h;obtain ⟨⟨n2,q⟩,T2,h⟩:=h
  dsimp only at h
  go_enter Tryz.func28,Tryz.ntmps28
  go_upto_region 3 with (first|((with_reducible refine av (N:=2) rfl ?_);refine bN 2 #[.slice A0 ks.length c0,.slice A1 ps.length c1,.slice A2 ss.length c2,.slice A3 ib.length c3,.int .i64 sd] 27 ?_;intro b2 bK W_ bD aW;replace HS:=HS.box bK bD aW;clear bK bD aW;have cJ:=an (HS.aI 0))|((with_reducible refine av (N:=3) rfl ?_);refine bN 3 #[.int .i64 a,.int .i64 b,.string x] 53 ?_;intro b3 bK W_ bD aW;replace HS:=HS.box bK bD aW;clear bK bD aW;clear cJ;have bL:=ck (HS.aI 0))|((with_reducible refine av (N:=4) rfl ?_);refine bN 4 #[.slice none 0 0,.slice none 0 0,.slice none 0 0,.slice none 0 0,.int .i64 0] 27 ?_;intro b4 bK W_ bD aW;replace HS:=HS.box bK bD aW;clear bK bD aW;clear bL;have eR:=an (HS.aI 0);clear eR;have eR:=an (HS.aI 0);have bL:=ck (HS.aI 1);have cJ:=an (HS.aI 2))|(go_at_call 42;have cE:=aj.KZ (n:=⟨ks,ps,ss,ib,sd⟩) (HN.out.below HS.base) T0.out;refine cE.mono ?_;clear cE;rintro e W_ ⟨rfl,aW⟩;replace HS:=HS.below aW;clear aW;clear eR bL cJ;have eR:=an (HS.aI 0);have bL:=ck (HS.aI 1);have cJ:=an (HS.aI 2)))
  go_upto_region 3 with fail
  clear eR bL cJ
  have cJ:=an (HS.aI 2)
  have bL:=ck (HS.aI 1)
  refine dV (n:=10) (S:=fun w'=>w'.cell? ⟨b2,0,none⟩=some (.slice A0 ks.length c0)∧w'.cell? ⟨b2,1,none⟩=some (.slice A1 ps.length c1)∧w'.cell? ⟨b2,2,none⟩=some (.slice A2 ss.length c2)∧w'.cell? ⟨b2,3,none⟩=some (.slice A3 ib.length c3)∧w'.cell? ⟨b2,4,none⟩=some (.int .i64 sd)∧w'.cell? ⟨b3,0,none⟩=some (.int .i64 a)∧w'.cell? ⟨b3,1,none⟩=some (.int .i64 b)∧w'.cell? ⟨b3,2,none⟩=some (.string x)) (ds:=[]) (bl 10 0) (by kernel_rfl) rfl rfl ⟨cJ.1,cJ.2.1,cJ.2.2.1,cJ.2.2.2.1,cJ.2.2.2.2.1,bL.1,bL.2.1,bL.2.2.1⟩ (fun ah=> ?_);refine bZ eP.FX eP.zJ (fun aA ef=> ?_)
  clear cJ bL
  replace HS:=HS.drew
  generalize World.drew _=tD at HS ah⊢
  refine cg 0 (some 13) 10 1 aA ef ah ?_ (hy:=by rintro w' ⟨s0,s1,s2,s3,s4,s5,s6,s7⟩;go_simp;with_reducible rfl)
  refine cg 2 (some 15) 10 5 aA ef ah ?_ (hy:=by rintro w' ⟨s0,s1,s2,s3,s4,s5,s6,s7⟩;go_simp;with_reducible rfl)
  refine NF (σ:=Value×Value×Value×Value×Nat) 2 (bl 10 255) (fun s_=>[(14,.agg #[s_.1,s_.2.1,s_.2.2.1,s_.2.2.2.1,.int .i64 n1.sd]),(16,.tuple #[.agg #[s_.1,s_.2.1,s_.2.2.1,s_.2.2.2.1,.int .i64 n2.sd],.bool q]),(12,.tuple #[.agg #[s_.1,s_.2.1,s_.2.2.1,s_.2.2.2.1,.int .i64 n2.sd],.bool q]),(17,.agg #[s_.1,s_.2.1,s_.2.2.1,s_.2.2.2.1,.int .i64 n2.sd]),(18,.bool q),(6,.pointer (some ⟨s_.2.2.2.2,0,none⟩))]) (fun s_ w'=>Sep w w' (bA s_.2.2.2.2 #[.slice none 0 0,.slice none 0 0,.slice none 0 0,.slice none 0 0,.int .i64 0] 27::rA KI 3 s_.1 n2.ks::sA KT 62 s_.2.1 n2.ps::sA KT 62 s_.2.2.1 n2.ss::sA KT 62 s_.2.2.2.1 n2.ib::bA b4 #[.slice none 0 0,.slice none 0 0,.slice none 0 0,.slice none 0 0,.int .i64 0] 27::bA b3 #[.int .i64 a,.int .i64 b,.string x] 53::bA b2 #[.slice A0 ks.length c0,.slice A1 ps.length c1,.slice A2 ss.length c2,.slice A3 ib.length c3,.int .i64 sd] 27::[])) ?_ ?_
  rotate_left
  ·intro qW
   refine Kk (i:=1) (j:=7) (Ni:=some 14) (Nj:=some 6) (bl 10 7) (bl 10 133) rfl rfl rfl rfl (by kernel_rfl) (by decide) (by decide) (fun K hK=> ?_) (fun K hK=> ?_)
   ·skip
    refine fM Tryz.func52 (by kernel_rfl) rfl #[.agg #[.slice A0 ks.length c0,.slice A1 ps.length c1,.slice A2 ss.length c2,.slice A3 ib.length c3,.int .i64 sd]] (by rfl) rfl rfl (by (try simp only [List.map_toArray,List.map_cons,List.map_nil]);first|done|rfl) ?_
    have cE:=cT.calls (n:=⟨ks,ps,ss,ib,sd⟩) (HN.out.below HS.base) T1.out
    refine cE.mono ?_
    clear cE ah
    rintro e W_ ⟨u0,u1,u2,u3,rfl,ie,aW⟩
    refine ⟨_,rfl,?_⟩
    replace HS:=HS.news aW ie
    clear ie aW
    dsimp only [eO,List.cons_append,List.nil_append] at HS
    have cJ:=an (HS.aI 6)
    have bL:=ck (HS.aI 5)
    refine hK.out _ _ ⟨cJ.1,cJ.2.1,cJ.2.2.1,cJ.2.2.2.1,cJ.2.2.2.2.1,bL.1,bL.2.1,bL.2.2.1⟩ (fun ah=> ?_)
    clear hK K cJ bL
    refine cM (a':= ?_) ?_ ?_
    rotate_left
    ·show Act.put _ (some 14) _=_
     simp only [Act.put,List.setIfInBounds_toArray,List.set_cons_zero,List.set_cons_succ,bW,cA]
     rfl
    refine Kk (i:=3) (j:=7) (Ni:=some 16) (Nj:=some 6) (bl 10 15) (bl 10 135) rfl rfl rfl rfl (by kernel_rfl) (by decide) (by decide) (fun K hK=> ?_) (fun K hK=> ?_)
    ·skip
     refine fM Tryz.func61 (by kernel_rfl) rfl #[.agg #[u0,u1,u2,u3,.int .i64 n1.sd],.agg #[.int .i64 a,.int .i64 b,.string x]] (by rfl) rfl rfl (by (try simp only [List.map_toArray,List.map_cons,List.map_nil]);first|done|rfl) ?_
     have cE:=bP.calls (n:=n1) (HS) T2.out
     refine cE.mono ?_
     clear cE ah
     rintro e W_ ⟨rfl,fX⟩
     refine ⟨_,rfl,?_⟩
     clear HS
     have HS:=fX
     clear fX
     dsimp only [eO,List.cons_append,List.nil_append] at HS
     have cJ:=an (HS.aI 6)
     have bL:=ck (HS.aI 5)
     refine hK.out _ _ ⟨cJ.1,cJ.2.1,cJ.2.2.1,cJ.2.2.2.1,cJ.2.2.2.2.1,bL.1,bL.2.1,bL.2.2.1⟩ (fun ah=> ?_)
     clear hK K cJ bL
     refine cM (a':= ?_) ?_ ?_
     rotate_left
     ·show Act.put _ (some 16) _=_
      simp only [Act.put,List.setIfInBounds_toArray,List.set_cons_zero,List.set_cons_succ,bW,cA]
      rfl
     refine ag 4 (some 12) 10 31 aA ?_
     refine ag 5 (some 17) 10 63 aA ?_
     refine ag 6 (some 18) 10 127 aA ?_
     refine fJ 7 (some 6) 10 255 aA (fun K hK=> ?_)
     clear ah
     refine nP ?hg (N:=6) ?hd (cs:= #[.slice none 0 0,.slice none 0 0,.slice none 0 0,.slice none 0 0,.int .i64 0]) (t:=27) ?hr ?_;(case hd=>rfl);(case hg=>rfl);(case hr=>first|(go_simp;done)|(go_simp;rfl))
     intro b6 bK W_ bD aW
     replace HS:=HS.box bK bD aW
     clear bK bD aW
     have cJ:=an (HS.aI 7)
     have bL:=ck (HS.aI 6)
     refine hK.out _ _ ⟨cJ.1,cJ.2.1,cJ.2.2.1,cJ.2.2.2.1,cJ.2.2.2.2.1,bL.1,bL.2.1,bL.2.2.1⟩ (fun ah=> ?_)
     clear hK K cJ bL
     refine cM (a':= ?_) ?_ ?_
     rotate_left
     ·show Act.put _ (some 6) _=_
      simp only [Act.put,List.setIfInBounds_toArray,List.set_cons_zero,List.set_cons_succ,bW,cA]
      rfl
     exact cM (by simp only [kE,Act.put,List.setIfInBounds_toArray,List.set_cons_zero,List.set_cons_succ]) (qW (u0,u1,u2,u3,b6) _ (HS))
    ·skip
     clear ah
     refine nP ?hg (N:=6) ?hd (cs:= #[.slice none 0 0,.slice none 0 0,.slice none 0 0,.slice none 0 0,.int .i64 0]) (t:=27) ?hr ?_;(case hd=>rfl);(case hg=>rfl);(case hr=>first|(go_simp;done)|(go_simp;rfl))
     intro b6 bK W_ bD aW
     replace HS:=HS.box bK bD aW
     clear bK bD aW
     have cJ:=an (HS.aI 7)
     have bL:=ck (HS.aI 6)
     refine hK.out _ _ ⟨cJ.1,cJ.2.1,cJ.2.2.1,cJ.2.2.2.1,cJ.2.2.2.2.1,bL.1,bL.2.1,bL.2.2.1⟩ (fun ah=> ?_)
     clear hK K cJ bL
     refine cM (a':= ?_) ?_ ?_
     rotate_left
     ·show Act.put _ (some 6) _=_
      simp only [Act.put,List.setIfInBounds_toArray,List.set_cons_zero,List.set_cons_succ,bW,cA]
      rfl
     refine fJ 3 (some 16) 10 143 aA (fun K hK=> ?_)
     refine fM Tryz.func61 (by kernel_rfl) rfl #[.agg #[u0,u1,u2,u3,.int .i64 n1.sd],.agg #[.int .i64 a,.int .i64 b,.string x]] (by rfl) rfl rfl (by (try simp only [List.map_toArray,List.map_cons,List.map_nil]);first|done|rfl) ?_
     have cE:=bP.calls (n:=n1) (HS.j9.j9.j9.j9) T2.out
     refine cE.mono ?_
     clear cE ah
     rintro e W_ ⟨rfl,fX⟩
     refine ⟨_,rfl,?_⟩
     clear HS
     have HS:=fX
     clear fX
     dsimp only [eO,List.cons_append,List.nil_append] at HS
     have cJ:=an (HS.aI 7)
     have bL:=ck (HS.aI 6)
     refine hK.out _ _ ⟨cJ.1,cJ.2.1,cJ.2.2.1,cJ.2.2.2.1,cJ.2.2.2.2.1,bL.1,bL.2.1,bL.2.2.1⟩ (fun ah=> ?_)
     clear hK K cJ bL
     refine cM (a':= ?_) ?_ ?_
     rotate_left
     ·show Act.put _ (some 16) _=_
      simp only [Act.put,List.setIfInBounds_toArray,List.set_cons_zero,List.set_cons_succ,bW,cA]
      rfl
     refine ag 4 (some 12) 10 159 aA ?_
     refine ag 5 (some 17) 10 191 aA ?_
     refine ag 6 (some 18) 10 255 aA ?_
     exact cM (by simp only [kE,Act.put,List.setIfInBounds_toArray,List.set_cons_zero,List.set_cons_succ]) (qW (u0,u1,u2,u3,b6) _ (HS.zl.zl.zl.jw.jw.jw.jw.zl))
   ·skip
    clear ah
    refine nP ?hg (N:=6) ?hd (cs:= #[.slice none 0 0,.slice none 0 0,.slice none 0 0,.slice none 0 0,.int .i64 0]) (t:=27) ?hr ?_;(case hd=>rfl);(case hg=>rfl);(case hr=>first|(go_simp;done)|(go_simp;rfl))
    intro b6 bK W_ bD aW
    replace HS:=HS.box bK bD aW
    clear bK bD aW
    have cJ:=an (HS.aI 3)
    have bL:=ck (HS.aI 2)
    refine hK.out _ _ ⟨cJ.1,cJ.2.1,cJ.2.2.1,cJ.2.2.2.1,cJ.2.2.2.2.1,bL.1,bL.2.1,bL.2.2.1⟩ (fun ah=> ?_)
    clear hK K cJ bL
    refine cM (a':= ?_) ?_ ?_
    rotate_left
    ·show Act.put _ (some 6) _=_
     simp only [Act.put,List.setIfInBounds_toArray,List.set_cons_zero,List.set_cons_succ,bW,cA]
     rfl
    refine fJ 1 (some 14) 10 135 aA (fun K hK=> ?_)
    refine fM Tryz.func52 (by kernel_rfl) rfl #[.agg #[.slice A0 ks.length c0,.slice A1 ps.length c1,.slice A2 ss.length c2,.slice A3 ib.length c3,.int .i64 sd]] (by rfl) rfl rfl (by (try simp only [List.map_toArray,List.map_cons,List.map_nil]);first|done|rfl) ?_
    have cE:=cT.calls (n:=⟨ks,ps,ss,ib,sd⟩) (HN.out.below HS.base) T1.out
    refine cE.mono ?_
    clear cE ah
    rintro e W_ ⟨u0,u1,u2,u3,rfl,ie,aW⟩
    refine ⟨_,rfl,?_⟩
    replace HS:=HS.news aW ie
    clear ie aW
    dsimp only [eO,List.cons_append,List.nil_append] at HS
    have cJ:=an (HS.aI 7)
    have bL:=ck (HS.aI 6)
    refine hK.out _ _ ⟨cJ.1,cJ.2.1,cJ.2.2.1,cJ.2.2.2.1,cJ.2.2.2.2.1,bL.1,bL.2.1,bL.2.2.1⟩ (fun ah=> ?_)
    clear hK K cJ bL
    refine cM (a':= ?_) ?_ ?_
    rotate_left
    ·show Act.put _ (some 14) _=_
     simp only [Act.put,List.setIfInBounds_toArray,List.set_cons_zero,List.set_cons_succ,bW,cA]
     rfl
    refine fJ 3 (some 16) 10 143 aA (fun K hK=> ?_)
    refine fM Tryz.func61 (by kernel_rfl) rfl #[.agg #[u0,u1,u2,u3,.int .i64 n1.sd],.agg #[.int .i64 a,.int .i64 b,.string x]] (by rfl) rfl rfl (by (try simp only [List.map_toArray,List.map_cons,List.map_nil]);first|done|rfl) ?_
    have cE:=bP.calls (n:=n1) (HS) T2.out
    refine cE.mono ?_
    clear cE ah
    rintro e W_ ⟨rfl,fX⟩
    refine ⟨_,rfl,?_⟩
    clear HS
    have HS:=fX
    clear fX
    dsimp only [eO,List.cons_append,List.nil_append] at HS
    have cJ:=an (HS.aI 7)
    have bL:=ck (HS.aI 6)
    refine hK.out _ _ ⟨cJ.1,cJ.2.1,cJ.2.2.1,cJ.2.2.2.1,cJ.2.2.2.2.1,bL.1,bL.2.1,bL.2.2.1⟩ (fun ah=> ?_)
    clear hK K cJ bL
    refine cM (a':= ?_) ?_ ?_
    rotate_left
    ·show Act.put _ (some 16) _=_
     simp only [Act.put,List.setIfInBounds_toArray,List.set_cons_zero,List.set_cons_succ,bW,cA]
     rfl
    refine ag 4 (some 12) 10 159 aA ?_
    refine ag 5 (some 17) 10 191 aA ?_
    refine ag 6 (some 18) 10 255 aA ?_
    exact cM (by simp only [kE,Act.put,List.setIfInBounds_toArray,List.set_cons_zero,List.set_cons_succ]) (qW (u0,u1,u2,u3,b6) _ (HS.zl.zl.zl.jw.jw.jw.jw.zl))
  clear HS ah
  intro s_ W_ HS
  obtain ⟨u0,u1,u2,u3,b6⟩:=s_
  dsimp only at HS
  have ah:=True.intro
  obtain ⟨B0,d0,rfl⟩:=HS.lz 1
  obtain ⟨B1,d1,rfl⟩:=HS.gY 2
  obtain ⟨B2,d2,rfl⟩:=HS.gY 3
  obtain ⟨B3,d3,rfl⟩:=HS.gY 4
  refine cM (a':= ?_) ?_ ?_
  rotate_left
  ·show kE _ _=_
   simp only [kE,Act.put,List.setIfInBounds_toArray,List.set_cons_zero,List.set_cons_succ,bW,cA]
   rfl
  refine fJ 8 none 10 511 aA (fun K hK=> ?_)
  clear ah
  have jZ:=an (HS.aI 0)
  refine jV (w1:= ?_) (by rfl) rfl ?_ ?_
  rotate_left
  ·go_simp
   rfl
  replace HS:=(((((HS.cq 0 0 (.slice B0 n2.ks.length d0) #[.slice B0 n2.ks.length d0,.slice none 0 0,.slice none 0 0,.slice none 0 0,.int .i64 0]).cq 0 1 (.slice B1 n2.ps.length d1) #[.slice B0 n2.ks.length d0,.slice B1 n2.ps.length d1,.slice none 0 0,.slice none 0 0,.int .i64 0]).cq 0 2 (.slice B2 n2.ss.length d2) #[.slice B0 n2.ks.length d0,.slice B1 n2.ps.length d1,.slice B2 n2.ss.length d2,.slice none 0 0,.int .i64 0]).cq 0 3 (.slice B3 n2.ib.length d3) #[.slice B0 n2.ks.length d0,.slice B1 n2.ps.length d1,.slice B2 n2.ss.length d2,.slice B3 n2.ib.length d3,.int .i64 0]).cq 0 4 (.int .i64 n2.sd) #[.slice B0 n2.ks.length d0,.slice B1 n2.ps.length d1,.slice B2 n2.ss.length d2,.slice B3 n2.ib.length d3,.int .i64 n2.sd])
  clear jZ
  have cJ:=an (HS.aI 7)
  have bL:=ck (HS.aI 6)
  refine hK.out _ _ ⟨cJ.1,cJ.2.1,cJ.2.2.1,cJ.2.2.2.1,cJ.2.2.2.2.1,bL.1,bL.2.1,bL.2.2.1⟩ (fun ah=> ?_)
  clear hK K cJ bL
  refine ag 9 (some 7) 10 1023 aA ?_
  refine eZ (cV aA.out (by kernel_rfl)) ?_
  clear aA ef ah
  have jZ:=an (HS.aI 0)
  have eR:=an (HS.aI 5)
  cases q with
  |false=>
   rw [if_pos rfl] at h
   obtain ⟨rfl,rfl⟩:=(Prod.mk.injEq _ _ _ _).mp (Option.some.inj h)
   clear h
   go_wp2
   have HF:=HS.iw 5 (.slice none 0 0) (.slice none 0 0) (.slice none 0 0) (.slice none 0 0) (.int .i64 0)
   refine bodyPost_ret (cK rfl _ _ b4 27 #[.slice none 0 0,.slice none 0 0,.slice none 0 0,.slice none 0 0,.int .i64 0] (0,0) _ rfl (by exact (HF.aI 5).out) Tryz.underlying27 rfl (by kernel_rfl)) rfl ?_
   exact ⟨_,_,_,_,rfl,rU HF,HF.base⟩
  |true=>
   rw [if_neg (by decide)] at h
   replace h:=bS h;obtain ⟨n3,T3,h⟩:=h
   obtain ⟨rfl,rfl⟩:=(Prod.mk.injEq _ _ _ _).mp (Option.some.inj h)
   clear h
   go_wp2_with (first|(go_at_call 52;have cE:=cT.calls (n:=n2) (jW HS 1) T3.out;refine cE.mono ?_;clear cE;rintro e W_ ⟨z0,z1,z2,z3,rfl,ie,aW⟩;replace HS:=HS.news aW ie;clear ie aW;dsimp only [eO,List.cons_append,List.nil_append] at HS;obtain ⟨E0,f0,rfl⟩:=HS.lz 0;obtain ⟨E1,f1,rfl⟩:=HS.gY 1;obtain ⟨E2,f2,rfl⟩:=HS.gY 2;obtain ⟨E3,f3,rfl⟩:=HS.gY 3;clear jZ eR;have jZ:=an (HS.aI 4);have eR:=an (HS.aI 9)))
   have HF:=HS.iw 9 (.slice E0 n3.ks.length f0) (.slice E1 n3.ps.length f1) (.slice E2 n3.ss.length f2) (.slice E3 n3.ib.length f3) (.int .i64 n3.sd)
   refine bodyPost_ret (cK rfl _ _ b4 27 #[.slice E0 n3.ks.length f0,.slice E1 n3.ps.length f1,.slice E2 n3.ss.length f2,.slice E3 n3.ib.length f3,.int .i64 n3.sd] (0,0) _ rfl (by exact (HF.aI 9).out) Tryz.underlying27 rfl (by kernel_rfl)) rfl ?_
   replace HS:=HF
   have HF:=HS
   exact ⟨_,_,_,_,rfl,ld HF,HF.base⟩
def bits_Mul64.f (a0:Int) (a1:Int):Option (Int×Int):=some (IntKind.u64.wrap ((IntKind.u64.wrap ((IntKind.u64.wrap ((a0/4294967296)*(a1/4294967296)))+((IntKind.u64.wrap ((IntKind.u64.wrap ((a0/4294967296)*(Go.bits .and .u64 a1 4294967295)))+((IntKind.u64.wrap ((Go.bits .and .u64 a0 4294967295)*(Go.bits .and .u64 a1 4294967295)))/4294967296)))/4294967296)))+((IntKind.u64.wrap ((Go.bits .and .u64 (IntKind.u64.wrap ((IntKind.u64.wrap ((a0/4294967296)*(Go.bits .and .u64 a1 4294967295)))+((IntKind.u64.wrap ((Go.bits .and .u64 a0 4294967295)*(Go.bits .and .u64 a1 4294967295)))/4294967296))) 4294967295)+(IntKind.u64.wrap ((Go.bits .and .u64 a0 4294967295)*(a1/4294967296)))))/4294967296)),IntKind.u64.wrap (a0*a1))
theorem bits_Mul64.calls (a0:Int) (a1:Int) (r1:Int) (r2:Int) (w:World) (h:bits_Mul64.f a0 a1=some (r1,r2)):
  Calls Tryz.prog 143 #[.int .u64 a0,.int .u64 a1] w fun e w'=>e= .returned (.tuple #[.int .u64 r1,.int .u64 r2])∧cQ w w':=by
 have H:(some (IntKind.u64.wrap ((IntKind.u64.wrap ((IntKind.u64.wrap ((a0/4294967296)*(a1/4294967296)))+((IntKind.u64.wrap ((IntKind.u64.wrap ((a0/4294967296)*(Go.bits .and .u64 a1 4294967295)))+((IntKind.u64.wrap ((Go.bits .and .u64 a0 4294967295)*(Go.bits .and .u64 a1 4294967295)))/4294967296)))/4294967296)))+((IntKind.u64.wrap ((Go.bits .and .u64 (IntKind.u64.wrap ((IntKind.u64.wrap ((a0/4294967296)*(Go.bits .and .u64 a1 4294967295)))+((IntKind.u64.wrap ((Go.bits .and .u64 a0 4294967295)*(Go.bits .and .u64 a1 4294967295)))/4294967296))) 4294967295)+(IntKind.u64.wrap ((Go.bits .and .u64 a0 4294967295)*(a1/4294967296)))))/4294967296)),IntKind.u64.wrap (a0*a1)))=some (r1,r2):=h
 clear h
 simp only [Option.some.injEq,Prod.mk.injEq] at H
 obtain ⟨rfl,rfl⟩:=H
 go_enter Tryz.func143,Tryz.ntmps143
 go_wp2
 go_ret2
 exact ⟨er,gV⟩
def bits_Mul.f (a0:Int) (a1:Int):Option (Int×Int):=(bits_Mul64.f a0 a1).bind fun Ft=>(some (Ft.1,Ft.2))
theorem bits_Mul.calls (a0:Int) (a1:Int) (r1:Int) (r2:Int) (w:World) (h:bits_Mul.f a0 a1=some (r1,r2)):
  Calls Tryz.prog 130 #[.int .u64 a0,.int .u64 a1] w fun e w'=>e= .returned (.tuple #[.int .u64 r1,.int .u64 r2])∧cQ w w':=by
 have H:((bits_Mul64.f a0 a1).bind fun Ft=>(some (Ft.1,Ft.2)))=some (r1,r2):=h
 clear h;replace H:=bS H;obtain ⟨⟨aff,afe⟩,A3,H⟩:=H
 dsimp only at H
 simp only [Option.some.injEq,Prod.mk.injEq] at H
 obtain ⟨rfl,rfl⟩:=H
 go_enter Tryz.func130,Tryz.ntmps130
 go_wp2_with (first|(go_at_call 143;(with_reducible refine (bits_Mul64.calls a0 a1 aff afe _ A3.out).mono ?_);rintro e w' ⟨rfl,⟨nd,rfl⟩⟩))
 go_ret2
 exact ⟨er,gV⟩
def fm.f (l0:List Int) (a1:Int):Option (List Int):=if 0≤a1 then (if a1≤1048576 then (if (l0.length:Int)=1 then ((bits_Mul.f 1 a1).bind fun m=>(if m.1=0 then (if m.2=a1 then (some (List.replicate a1.toNat (rd l0 0))) else (none)) else (none))) else (none)) else (none)) else (none)
theorem fm.calls (A0:Option Addr) (c0:Nat) (l0:List Int) (a1:Int) (r:List Int) (w:World) (ff:Kd.C (Kd.int .i64) w A0 l0.length l0) (fL:l0.length≤c0) (h:fm.f l0 a1=some r):
  Calls Tryz.prog 117 #[.slice A0 l0.length c0,.int .i64 a1] w fun e w'=>∃lG:Value,e= .returned (lG)∧Kd.R (Kd.int .i64) 3 w' w.heap.size (fun _=>True) lG r∧Below w.heap.size w w':=by
 unfold fm.f at h
 by_cases h0:0≤a1
 ·rw [if_pos h0] at h
  by_cases h1:a1≤1048576
  ·rw [if_pos h1] at h
   by_cases hl:(l0.length:Int)=1
   ·rw [if_pos hl] at h
    obtain ⟨⟨m1,m2⟩,hm,h⟩:=Option.bind_eq_some_iff.mp h
    by_cases e1:m1=0
    ·by_cases e2:m2=a1
     ·subst e1;subst e2
      simp only [if_true,Option.some.injEq] at h
      subst h
      obtain ⟨x,rfl⟩:∃x,l0=[x]:=List.length_eq_one_iff.1 (by omega)
      obtain ⟨ad,rfl,hx⟩:=Kd.jS ff 0 (by omega) (by simp)
      obtain ⟨N,rfl⟩:=Int.eq_ofNat_of_zero_le h0
      have HM:=ak hm;clear hm ff hl
      have wu:IntKind.u64.wrap (N:Int)=(N:Int):=by simp [IntKind.wrap,IntKind.bits,IntKind.signed];omega
      have wi:IntKind.i64.wrap (N:Int)=(N:Int):=by rw [IntKind.wrap_i64];omega
      have n0:decide ((N:Int)<0)=false:=decide_eq_false (by omega)
      have n1:decide ((9223372036854775807:Int)<(N:Int))=false:=decide_eq_false (by omega)
      go_enter Tryz.func117,Tryz.ntmps117
      go_wp2_with (first|((with_reducible refine eW (f:=130) rfl ?_);refine DA (some 18) rfl rfl Tryz.func130 (by kernel_rfl) rfl #[.int .u64 1,.int .u64 (N:Int)] rfl (by (try simp only [List.map_toArray,List.map_cons,List.map_nil]);first|done|rfl|(simp;done)) ?_;(with_reducible refine (bits_Mul.calls 1 (N:Int) 0 (N:Int) _ HM.out).mono ?_);rintro e w2 ⟨rfl,⟨nd,rfl⟩⟩;refine ⟨_,rfl,?_⟩)|((with_reducible refine av (N:=30) rfl ?_);refine Nx rfl 22 3 _ _ rfl N rfl rfl Tryz.underlying22 (.int .i64 0) 8 yX rfl (by decide) (by omega) ?_;intro w3 hw3;have HG3:=ak (show w3.heap[(w.drewN nd).heap.size]? =some (.cells (List.replicate N (Value.int .i64 0)).toArray 3 (0,0)) by rw [hw3];exact heap_alloc_new _ _);have HB3:=ak (show Below w.heap.size w w3 by rw [hw3];exact dQ (ek (Below.refl _ _) nd) _);have GE:=ak (show w.heap.size≤(w.drewN nd).heap.size from Nat.le_refl _);clear hw3;generalize (w.drewN nd).heap.size=g at HG3 GE⊢)|((with_reducible refine bw (b:= .copy) (xs:= #[.tmp 31,.tmp 32]) (ts:= #[22,22]) rfl ?_);go_loud (refine wpList_copy_splice rfl (.tmp 31) (.tmp 32) 22 22 rfl 3 Tryz.underlying22 (by kernel_rfl) (some ⟨g,0,none⟩) (some ad) N N 1 c0 rfl rfl g 0 (List.replicate N (Value.int .i64 0)) 3 HG3.out (List.replicate (min 1 N) (Value.int .i64 x)) List.length_replicate (fun _=>⟨rfl,ad,rfl,Q4 hx HB3.out⟩) (by simp;omega) (IK _ _) w.heap.size w HB3.out GE.out ?_);intro w4 hg4 hb4))
      rw [Gb] at hg4
      (try simp only [Act.put,List.setIfInBounds_toArray,List.set_cons_zero,List.set_cons_succ])
      go_loopg [8] N (fun kq v8 w'=>∃n:Nat,v8= .int .i64 (n:Int)∧Aside0 (n≤N)∧Aside0 (0<N→0<n)∧Aside0 (N≤n+kq)∧Aside0 (w'.heap[g]? =some (.cells (vz x N n).toArray 3 (0,0)))∧Aside0 (Below w.heap.size w w'))
      case atStart=>exact ⟨min 1 N,by simp [goInt],⟨by omega⟩,⟨by omega⟩,⟨by omega⟩,⟨hg4.out⟩,⟨hb4⟩⟩
      case round=>
       obtain ⟨n,rfl,Hn,Hp,HK,HG,HB⟩:=hrel
       by_cases hn:n<N
       ·obtain ⟨k1,rfl⟩:∃k1,gk=k1+1:=⟨gk-1,by have:=HK.out;omega⟩
        have c0:decide ((n:Int)<(N:Int))=true:=decide_eq_true (by omega)
        have q0:(0:Int)≤(n:Int):=by omega
        have q1:(n:Int)≤(N:Int):=by omega
        have q2:(n:Int)<(N:Int):=by omega
        go_wp2_with fail
        go_region_law (refine step_copy_splice rfl (.tmp 41) (.tmp 44) 22 22 rfl 3 Tryz.underlying22 (by kernel_rfl) (some ⟨g,n,none⟩) (some ⟨g,0,none⟩) (N-n) (N-n) n N (by simp [Act.eval,Act.put];omega) (by simp [Act.eval,Act.put]) g n (vz x N n) 3 HG.out (List.replicate (min n (N-n)) (Value.int .i64 x)) List.length_replicate (fun _=>⟨rfl,_,rfl,M0 HG.out _ (Nat.min_le_left _ _)⟩) (by rw [M1 _ _ _ Hn.out,List.length_replicate];omega) (IK _ _) w.heap.size w (cO HB.out) GE.out ?_;intro w5 hg5 hb5)
        rw [Et x N n _ (by omega)] at hg5
        go_wp2
        go_roundg k1
        case measure=>omega
        case rel=>exact ⟨n+min n (N-n),by (try simp only [goInt,List.length_replicate,IntKind.wrap_i64]);exact congrArg (Value.int .i64) (by first|omega|(unfold wrap64;omega)),⟨by omega⟩,⟨fun _=>by have:=Hp.out (by omega);omega⟩,⟨by have:=HK.out;have:=Hp.out (by omega);omega⟩,⟨hg5.out⟩,⟨hb5⟩⟩
       ·have c0:decide ((n:Int)<(N:Int))=false:=decide_eq_false (by omega)
        go_wp2
        go_ret
        have e:n=N:=by have:=Hn.out;omega
        subst e;have hg:=HG.out
        rw [KO] at hg
        exact ⟨_,rfl,LK hg GE.out (by unfold maxLen;omega),HB.out⟩
     ·simp [e2] at h
    ·simp [e1] at h
   ·rw [if_neg hl] at h;exact absurd h (by simp)
  ·rw [if_neg h1] at h;exact absurd h (by simp)
 ·rw [if_neg h0] at h;exact absurd h (by simp)
def lJ.f (k:Nat) (a0:ByteArray):Option (ByteArray):=if a0.size+1≤9223372036854775807 then ((strings_Repeat.f k (⟨#[0]⟩:ByteArray) (15-(a0.size:Int))).bind fun AB=>(if (a0++(⟨#[128]⟩:ByteArray)).size+AB.size≤9223372036854775807 then (some ((a0++(⟨#[128]⟩:ByteArray))++AB)) else (none))) else (none)
theorem lJ.calls (k:Nat) (a0:ByteArray) (r:ByteArray) (w:World) (h:lJ.f k a0=some r):
  Calls Tryz.prog 131 #[.string a0] w fun e w'=>e= .returned (.string r)∧Below w.heap.size w w':=by
 have HB:=ak (Below.refl w.heap.size w)
 have H:(if a0.size+1≤9223372036854775807 then ((strings_Repeat.f k (⟨#[0]⟩:ByteArray) (15-(a0.size:Int))).bind fun AB=>(if (a0++(⟨#[128]⟩:ByteArray)).size+AB.size≤9223372036854775807 then (some ((a0++(⟨#[128]⟩:ByteArray))++AB)) else (none))) else (none))=some r:=h
 clear h;replace H:=dy H;obtain ⟨c2,H⟩:=H;have o5:=eq_true c2
 have Fj:decide (a0.size+1≤9223372036854775807)=true:=decide_eq_true c2
 try have ahB:(9223372036854775807<a0.size+1)=False:=eq_false (Nat.not_lt.2 c2)
 replace H:=bS H;obtain ⟨AB,A3,H⟩:=H
 replace H:=dy H;obtain ⟨c4,H⟩:=H;have jn:=eq_true c4
 have ab0:decide ((a0++(⟨#[128]⟩:ByteArray)).size+AB.size≤9223372036854775807)=true:=decide_eq_true c4
 try have ahw:(9223372036854775807<(a0++(⟨#[128]⟩:ByteArray)).size+AB.size)=False:=eq_false (Nat.not_lt.2 c4)
 have abZ:=ahw;simp only [ByteArray.size_append] at abZ;change (9223372036854775807<a0.size+1+AB.size)=False at abZ
 obtain rfl:=Option.some.inj H
 go_enter Tryz.func131,Tryz.ntmps131
 go_wp2_with (first|(go_at_call 132;(with_reducible refine (strings_Repeat.calls k (⟨#[0]⟩:ByteArray) (15-(a0.size:Int)) AB _ A3.out).mono ?_);rintro e w5 ⟨rfl,hb⟩;replace HB:=ak (aH (aq HB) hb);(try clear hb)))
 go_ret
 exact ⟨kK,aq HB⟩
end Go.Proofs.YtihekdlcfohkkaaGreatDoor.QFnNets
