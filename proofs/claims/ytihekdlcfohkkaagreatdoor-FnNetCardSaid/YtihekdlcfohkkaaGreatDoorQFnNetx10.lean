-- printed by this session's own program (wip/tools/pp.py: the kit's print.py with changes); Lean checks it
import Derived.Test.YtihekdlcfohkkaaGreatDoorQFnNetx0
import Derived.Test.YtihekdlcfohkkaaGreatDoorQFnNetx1
import Derived.Test.YtihekdlcfohkkaaGreatDoorQFnNetx2
import Derived.Test.YtihekdlcfohkkaaGreatDoorQFnNetx3
import Derived.Test.YtihekdlcfohkkaaGreatDoorQFnNetx8
import Derived.Test.YtihekdlcfohkkaaGreatDoorQFnNetx9
namespace Go.Proofs.YtihekdlcfohkkaaGreatDoor.QFnNet
open Go.RowKit Go.Proofs.YtihekdlcfohkkaaGreatDoorW.PrintWords Go.Proofs.YtihekdlcfohkkaaGreatDoorW.PrintLast Go.Proofs.YtihekdlcfohkkaaGreatDoorW.PrintMore
attribute [local go_sem] max2_int min2_int max_two min_two max_three min_three max_four min_four strLss strGtr strLeq strGeq
set_option linter.unusedVariables false
set_option linter.unusedSimpArgs false
set_option maxHeartbeats 16000000
set_option maxRecDepth 100000
def aW.T5:Bool×List (List Nat×List Nat):=(true,[([],[]),([0],[0]),([1],[1]),([2],[2]),([3],[3]),([4,3],[3,4]),([3],[3]),([6,3],[3,6]),([7,3],[3,7]),([8,3],[3,8]),([9,3],[3,9]),([10,3],[3,10]),([5,11,3,3],[3,5,11]),([3,12],[3,12]),([13,12],[13])])
def aW.B5:List Nat:=[0,1,3,7,15,31,15,79,207,463,975,1999,4095,8191,16383]
theorem aW.y4:gq .any (opsOf Tryz.f62 5)=aW.T5:=by kernel_rfl
theorem aW.rX:eF aW.T5.2 aW.B5=true:=by kernel_rfl
def aW.T8:Bool×List (List Nat×List Nat):=(true,[([],[]),([0],[0]),([1],[1]),([2],[2]),([3],[3]),([4,3],[3,4]),([3],[3]),([6,3],[3,6]),([7,3],[3,7]),([8,3],[3,8]),([9,3],[3,9]),([10,3],[3,10]),([11,3],[3,11]),([12,3],[3,12]),([5,13,3,3],[3,5,13]),([3,14],[3,14]),([15,14],[15])])
def aW.B8:List Nat:=[0,1,3,7,15,31,15,79,207,463,975,1999,4047,8143,16383,32767,65535]
theorem aW.yZ:gq .any (opsOf Tryz.f62 8)=aW.T8:=by kernel_rfl
theorem aW.rW:eF aW.T8.2 aW.B8=true:=by kernel_rfl
def aW.T9:Bool×List (List Nat×List Nat):=(true,[([],[]),([],[]),([1],[1]),([2],[2]),([3],[3]),([4],[4]),([5],[5]),([],[]),([7],[7]),([6,8],[6,8]),([9],[9]),([0,10],[0,10])])
def aW.B9:List Nat:=[0,0,2,6,14,30,62,0,128,510,1022,2047]
theorem aW.ab8:gq .any (opsOf Tryz.f62 9)=aW.T9:=by kernel_rfl
theorem aW.ZI:eF aW.T9.2 aW.B9=true:=by kernel_rfl
def aW.f (k:Nat) (n:Nt) (a b:Int) (x:ByteArray):Option (Nt×Bool):=if a=1 then dG.f k n b x else if x=(⟨#[]⟩:ByteArray) then (if a=2 then (aM.f b 0 (wrap64 ((n.ks.length:Int)-1))).bind fun c=>if c=true then (aI.f k n b).bind fun m=>some (m,true) else some (n,false) else if a=3 then (if 0<n.ss.length then (aM.f b 0 (wrap64 (((n.ss.getD 0 []).length:Int)-1))).bind fun c=>if c=true then (if 0≤b∧b<((n.ss.getD 0 []).length:Int) then (bV.f k n 0 (aV ByteArray.empty (n.ss.getD 0 []) b)).bind fun m=>some (m,true) else none) else some (n,false) else none) else some (n,false)) else some (n,false)
theorem aW.calls {k:Nat} {v0 v1 v2 v3:Value} {n m:Nt} {a b:Int} {x:ByteArray} {r:Bool} {L:List SA} {w0 w:World} {b0:Nat} (hs:Sep w0 w (bA b0 #[v0,v1,v2,v3,.int .i64 n.sd] 27::fH v0 v1 v2 v3 n++L)) (h:aW.f k n a b x=some (m,r)):
    Calls Tryz.prog 62 #[.pointer (some ⟨b0,0,none⟩),.agg #[.int .i64 a,.int .i64 b,.string x]] w fun e w'=>e= .returned (.bool r)∧Sep w0 w' (bA b0 #[v0,v1,v2,v3,.int .i64 m.sd] 27::fH v0 v1 v2 v3 m++L):=by
 have mX:=Tryz.underlying27
 have Fl:=Tryz.underlying53
 obtain ⟨ks,ps,ss,ib,sd⟩:=n
 have HS:Sep w0 w (bA b0 #[v0,v1,v2,v3,.int .i64 sd] 27::rA KI 3 v0 ks::sA KT 62 v1 ps::sA KT 62 v2 ss::sA KT 62 v3 ib::L):=hs
 clear hs
 unfold aW.f at h
 dsimp only at h⊢
 obtain ⟨A0,c0,rfl⟩:=HS.lJ 1
 obtain ⟨A1,c1,rfl⟩:=HS.jZ 2
 obtain ⟨A2,c2,rfl⟩:=HS.jZ 3
 obtain ⟨A3,c3,rfl⟩:=HS.jZ 4
 by_cases a1:a=1
 ·rw [if_pos a1] at h
  subst a1
  obtain ⟨N0,Kr,Kp,N1,Kq⟩:=m
  have T1:=ak h;clear h
  go_enter Tryz.func62,Tryz.ntmps62
  go_wp2_with (first|((with_reducible refine ax (N:=3) rfl ?_);refine cm 3 #[.int .i64 1,.int .i64 b,.string x] 53 ?_;intro b3 cg W_ bQ bn;replace HS:=HS.box cg bQ bn;clear cg bQ bn;have cR:=cA (HS.bf 0);clear cR;have cR:=cA (HS.bf 0);have cK:=aD (HS.bf 1))|(go_at_call 97;have dj:=dG.calls (n:=⟨ks,ps,ss,ib,sd⟩) (HS.jI.jI.jI.jI.jI) T1.out;refine dj.mono ?_;clear dj;rintro e W_ ⟨rfl,ij⟩;clear HS;have HS:=ij;clear ij;dsimp only [fH,List.cons_append,List.nil_append] at HS;clear cR cK;have cR:=cA (HS.bf 5);have cK:=aD (HS.bf 0)))
  go_ret
  replace HS:=HS.jI.tail
  exact ⟨er,HS⟩
 ·rw [if_neg a1] at h
  have Ym:(a==1)=false:=beq_eq_false_iff_ne.2 a1
  by_cases hx:x=(⟨#[]⟩:ByteArray)
  ·rw [if_pos hx] at h
   subst hx
   by_cases a2:a=2
   ·rw [if_pos a2] at h
    subst a2
    clear a1 Ym
    replace h:=bS h;obtain ⟨c,T2,h⟩:=h
    cases c with
    |false=>
     rw [if_neg (by decide)] at h
     obtain ⟨rfl,rfl⟩:=(Prod.mk.injEq _ _ _ _).mp (Option.some.inj h)
     clear h
     go_enter Tryz.func62,Tryz.ntmps62
     go_upto_region 5 with (first|((with_reducible refine ax (N:=3) rfl ?_);refine cm 3 #[.int .i64 2,.int .i64 b,.string (⟨#[]⟩:ByteArray)] 53 ?_;intro b3 cg W_ bQ bn;replace HS:=HS.box cg bQ bn;clear cg bQ bn;have cR:=cA (HS.bf 0);clear cR;have cR:=cA (HS.bf 0);have cK:=aD (HS.bf 1)))
     go_upto_region 5 with fail
     clear cR cK
     have cR:=cA (HS.bf 0)
     have cK:=aD (HS.bf 1)
     refine ef (n:=15) (S:=fun w'=>w'.cell? ⟨b3,0,none⟩=some (.int .i64 2)∧w'.cell? ⟨b3,1,none⟩=some (.int .i64 b)∧w'.cell? ⟨b3,2,none⟩=some (.string (⟨#[]⟩:ByteArray))∧w'.cell? ⟨b0,0,none⟩=some (.slice A0 ks.length c0)∧w'.cell? ⟨b0,1,none⟩=some (.slice A1 ps.length c1)∧w'.cell? ⟨b0,2,none⟩=some (.slice A2 ss.length c2)∧w'.cell? ⟨b0,3,none⟩=some (.slice A3 ib.length c3)∧w'.cell? ⟨b0,4,none⟩=some (.int .i64 sd)) (ds:=[]) (bl 15 0) (by kernel_rfl) rfl rfl ⟨cR.1,cR.2.1,cR.2.2.1,cK.1,cK.2.1,cK.2.2.1,cK.2.2.2.1,cK.2.2.2.2.1⟩ (fun an=> ?_);refine bW aW.y4 aW.rX (fun aC eE=> ?_)
     clear cR cK
     replace HS:=HS.drew
     generalize World.drew _=vO at HS an⊢
     refine ag 0 (some 20) 15 1 aC ?_
     refine cl 1 (some 21) 15 3 aC eE an ?_ (hy:=by rintro w' ⟨s0,s1,s2,s3,s4,s5,s6,s7⟩;go_simp;with_reducible rfl)
     refine ag 2 (some 22) 15 7 aC ?_
     refine ag 3 (some 23) 15 15 aC ?_
     try simp only [show ((2:Int)==2)=true from rfl]
     refine ag 4 (some 24) 15 31 aC ?_
     refine cl 5 (some 25) 15 63 aC eE an ?_ (hy:=by rintro w' ⟨s0,s1,s2,s3,s4,s5,s6,s7⟩;go_simp;with_reducible rfl)
     refine ag 6 (some 26) 15 127 aC ?_
     refine ag 7 (some 27) 15 255 aC ?_
     refine ag 8 (some 28) 15 511 aC ?_
     refine cl 9 (some 29) 15 1023 aC eE an ?_ (hy:=by rintro w' ⟨s0,s1,s2,s3,s4,s5,s6,s7⟩;go_simp;with_reducible rfl)
     refine ag 10 (some 30) 15 2047 aC ?_
     refine ag 11 (some 31) 15 4095 aC ?_
     refine gv 12 (some 32) 15 8191 aC (fun K hK=> ?_)
     refine gw Tryz.func70 (by kernel_rfl) rfl #[.int .i64 b,.int .i64 0,.int .i64 (wrap64 ((ks.length:Int)-1))] (by rfl) rfl rfl (by (try simp only [List.map_toArray,List.map_cons,List.map_nil]);first|done|rfl) ?_
     refine (aM.calls _ _ _ _ _ T2.out).mono ?_
     clear an
     rintro e W_ ⟨rfl,gX,rfl⟩
     refine ⟨_,rfl,?_⟩
     replace HS:=HS.drewN gX
     generalize World.drewN _ gX=W_ at HS⊢
     have cR:=cA (HS.bf 0)
     have cK:=aD (HS.bf 1)
     refine hK.out _ _ ⟨cR.1,cR.2.1,cR.2.2.1,cK.1,cK.2.1,cK.2.2.1,cK.2.2.2.1,cK.2.2.2.2.1⟩ (fun an=> ?_)
     clear hK K cR cK
     refine dF (a':= ?_) ?_ ?_
     rotate_left
     ·show Act.put _ (some 32) _=_
      simp only [Act.put,List.setIfInBounds_toArray,List.set_cons_zero,List.set_cons_succ,bX,cL]
      rfl
     refine ag 13 (some 33) 15 16383 aC ?_
     refine ag 14 (some 19) 15 32767 aC ?_
     refine fm (cW aC.out (by kernel_rfl)) ?_
     clear aC eE an
     have cR:=cA (HS.bf 0)
     have cK:=aD (HS.bf 1)
     go_upto_region 8 with fail
     go_upto_region 8 with fail
     clear cR cK
     have cR:=cA (HS.bf 0)
     have cK:=aD (HS.bf 1)
     refine ef (n:=17) (S:=fun w'=>w'.cell? ⟨b3,0,none⟩=some (.int .i64 2)∧w'.cell? ⟨b3,1,none⟩=some (.int .i64 b)∧w'.cell? ⟨b3,2,none⟩=some (.string (⟨#[]⟩:ByteArray))∧w'.cell? ⟨b0,0,none⟩=some (.slice A0 ks.length c0)∧w'.cell? ⟨b0,1,none⟩=some (.slice A1 ps.length c1)∧w'.cell? ⟨b0,2,none⟩=some (.slice A2 ss.length c2)∧w'.cell? ⟨b0,3,none⟩=some (.slice A3 ib.length c3)∧w'.cell? ⟨b0,4,none⟩=some (.int .i64 sd)) (ds:=[]) (bl 17 0) (by kernel_rfl) rfl rfl ⟨cR.1,cR.2.1,cR.2.2.1,cK.1,cK.2.1,cK.2.2.1,cK.2.2.2.1,cK.2.2.2.2.1⟩ (fun an=> ?_);refine bW aW.yZ aW.rW (fun aC eE=> ?_)
     clear cR cK
     replace HS:=HS.drew
     generalize World.drew _=vO at HS an⊢
     refine ag 0 (some 39) 17 1 aC ?_
     refine cl 1 (some 40) 17 3 aC eE an ?_ (hy:=by rintro w' ⟨s0,s1,s2,s3,s4,s5,s6,s7⟩;go_simp;with_reducible rfl)
     refine ag 2 (some 41) 17 7 aC ?_
     refine ag 3 (some 42) 17 15 aC ?_
     try simp only [show ((2:Int)==3)=false from rfl]
     refine cG 4 (some 43) 17 31 aC ?_
     refine cG 5 (some 44) 17 63 aC ?_
     refine cG 6 (some 45) 17 127 aC ?_
     refine cG 7 (some 46) 17 255 aC ?_
     refine cG 8 (some 47) 17 511 aC ?_
     refine cG 9 (some 48) 17 1023 aC ?_
     refine cG 10 (some 49) 17 2047 aC ?_
     refine cG 11 (some 50) 17 4095 aC ?_
     refine cG 12 (some 51) 17 8191 aC ?_
     refine cG 13 (some 52) 17 16383 aC ?_
     refine cG 14 (some 53) 17 32767 aC ?_
     refine ag 15 (some 54) 17 65535 aC ?_
     refine ag 16 (some 38) 17 131071 aC ?_
     refine fm (cW aC.out (by kernel_rfl)) ?_
     clear aC eE an
     have cR:=cA (HS.bf 0)
     have cK:=aD (HS.bf 1)
     go_wp2
     go_ret
     replace HS:=HS.tail
     exact ⟨er,HS⟩
    |true=>
     rw [if_pos rfl] at h
     replace h:=bS h;obtain ⟨⟨N0,Kr,Kp,N1,Kq⟩,T1,h⟩:=h
     obtain ⟨e1,e3⟩:=aI.keeps T1.out
     dsimp only at e1 e3
     replace e1:=e1.symm;replace e3:=e3.symm
     subst e1 e3
     obtain ⟨rfl,rfl⟩:=(Prod.mk.injEq _ _ _ _).mp (Option.some.inj h)
     clear h
     go_enter Tryz.func62,Tryz.ntmps62
     go_upto_region 5 with (first|((with_reducible refine ax (N:=3) rfl ?_);refine cm 3 #[.int .i64 2,.int .i64 b,.string (⟨#[]⟩:ByteArray)] 53 ?_;intro b3 cg W_ bQ bn;replace HS:=HS.box cg bQ bn;clear cg bQ bn;have cR:=cA (HS.bf 0);clear cR;have cR:=cA (HS.bf 0);have cK:=aD (HS.bf 1)))
     go_upto_region 5 with fail
     clear cR cK
     have cR:=cA (HS.bf 0)
     have cK:=aD (HS.bf 1)
     refine ef (n:=15) (S:=fun w'=>w'.cell? ⟨b3,0,none⟩=some (.int .i64 2)∧w'.cell? ⟨b3,1,none⟩=some (.int .i64 b)∧w'.cell? ⟨b3,2,none⟩=some (.string (⟨#[]⟩:ByteArray))∧w'.cell? ⟨b0,0,none⟩=some (.slice A0 ks.length c0)∧w'.cell? ⟨b0,1,none⟩=some (.slice A1 ps.length c1)∧w'.cell? ⟨b0,2,none⟩=some (.slice A2 ss.length c2)∧w'.cell? ⟨b0,3,none⟩=some (.slice A3 ib.length c3)∧w'.cell? ⟨b0,4,none⟩=some (.int .i64 sd)) (ds:=[]) (bl 15 0) (by kernel_rfl) rfl rfl ⟨cR.1,cR.2.1,cR.2.2.1,cK.1,cK.2.1,cK.2.2.1,cK.2.2.2.1,cK.2.2.2.2.1⟩ (fun an=> ?_);refine bW aW.y4 aW.rX (fun aC eE=> ?_)
     clear cR cK
     replace HS:=HS.drew
     generalize World.drew _=vO at HS an⊢
     refine ag 0 (some 20) 15 1 aC ?_
     refine cl 1 (some 21) 15 3 aC eE an ?_ (hy:=by rintro w' ⟨s0,s1,s2,s3,s4,s5,s6,s7⟩;go_simp;with_reducible rfl)
     refine ag 2 (some 22) 15 7 aC ?_
     refine ag 3 (some 23) 15 15 aC ?_
     try simp only [show ((2:Int)==2)=true from rfl]
     refine ag 4 (some 24) 15 31 aC ?_
     refine cl 5 (some 25) 15 63 aC eE an ?_ (hy:=by rintro w' ⟨s0,s1,s2,s3,s4,s5,s6,s7⟩;go_simp;with_reducible rfl)
     refine ag 6 (some 26) 15 127 aC ?_
     refine ag 7 (some 27) 15 255 aC ?_
     refine ag 8 (some 28) 15 511 aC ?_
     refine cl 9 (some 29) 15 1023 aC eE an ?_ (hy:=by rintro w' ⟨s0,s1,s2,s3,s4,s5,s6,s7⟩;go_simp;with_reducible rfl)
     refine ag 10 (some 30) 15 2047 aC ?_
     refine ag 11 (some 31) 15 4095 aC ?_
     refine gv 12 (some 32) 15 8191 aC (fun K hK=> ?_)
     refine gw Tryz.func70 (by kernel_rfl) rfl #[.int .i64 b,.int .i64 0,.int .i64 (wrap64 ((ks.length:Int)-1))] (by rfl) rfl rfl (by (try simp only [List.map_toArray,List.map_cons,List.map_nil]);first|done|rfl) ?_
     refine (aM.calls _ _ _ _ _ T2.out).mono ?_
     clear an
     rintro e W_ ⟨rfl,gX,rfl⟩
     refine ⟨_,rfl,?_⟩
     replace HS:=HS.drewN gX
     generalize World.drewN _ gX=W_ at HS⊢
     have cR:=cA (HS.bf 0)
     have cK:=aD (HS.bf 1)
     refine hK.out _ _ ⟨cR.1,cR.2.1,cR.2.2.1,cK.1,cK.2.1,cK.2.2.1,cK.2.2.2.1,cK.2.2.2.2.1⟩ (fun an=> ?_)
     clear hK K cR cK
     refine dF (a':= ?_) ?_ ?_
     rotate_left
     ·show Act.put _ (some 32) _=_
      simp only [Act.put,List.setIfInBounds_toArray,List.set_cons_zero,List.set_cons_succ,bX,cL]
      rfl
     refine ag 13 (some 33) 15 16383 aC ?_
     refine ag 14 (some 19) 15 32767 aC ?_
     refine fm (cW aC.out (by kernel_rfl)) ?_
     clear aC eE an
     have cR:=cA (HS.bf 0)
     have cK:=aD (HS.bf 1)
     go_wp2_with (first|(go_at_call 92;have dj:=aI.calls (n:=⟨ks,ps,ss,ib,sd⟩) (HS.jI.jI.jI.jI.jI) T1.out;refine dj.mono ?_;clear dj;rintro e W_ ⟨rfl,ij⟩;clear HS;have HS:=ij;clear ij;dsimp only [fH,List.cons_append,List.nil_append] at HS;clear cR cK;have cR:=cA (HS.bf 5);have cK:=aD (HS.bf 0)))
     go_ret
     replace HS:=HS.jI.tail
     exact ⟨er,HS⟩
   ·rw [if_neg a2] at h
    have ha2:(a==2)=false:=beq_eq_false_iff_ne.2 a2
    by_cases a3:a=3
    ·rw [if_pos a3] at h
     subst a3
     clear a1 Ym a2 ha2
     replace h:=cZ h;obtain ⟨oX,h⟩:=h
     obtain ⟨g2,q2,e⟩:=HS.addr 3 (hx:=oX)
     obtain rfl:A2=some ⟨g2,0,none⟩:=by injection e
     clear e
     have j0:(0:Int)≤0:=Int.le_refl 0
     have j1:(0:Int)<(ss.length:Int):=by omega
     have XK:(0<(ss.length:Int))=True:=eq_true j1
     have pj2:(0<ss.length)=True:=eq_true oX
     obtain ⟨AS,qS,HS,-,-⟩:=HS.ya.zf 0 j0 j1
     have Qs:ss.getD (0:Int).toNat []=ss.getD 0 []:=rfl
     rw [Qs] at HS
     generalize hS:ss.getD 0 []=S at HS h Qs
     have GS:=ak Qs;clear Qs hS
     replace h:=bS h;obtain ⟨c,T2,h⟩:=h
     cases c with
     |false=>
      rw [if_neg (by decide)] at h
      obtain ⟨rfl,rfl⟩:=(Prod.mk.injEq _ _ _ _).mp (Option.some.inj h)
      clear h
      go_enter Tryz.func62,Tryz.ntmps62
      go_upto_region 5 with (first|((with_reducible refine ax (N:=3) rfl ?_);refine cm 3 #[.int .i64 3,.int .i64 b,.string (⟨#[]⟩:ByteArray)] 53 ?_;intro b3 cg W_ bQ bn;replace HS:=HS.box cg bQ bn;clear cg bQ bn;have cR:=cA (HS.bf 0);clear cR;have cR:=cA (HS.bf 0);have cK:=aD (HS.bf 3)))
      go_upto_region 5 with fail
      clear cR cK
      have cR:=cA (HS.bf 0)
      have cK:=aD (HS.bf 3)
      refine ef (n:=15) (S:=fun w'=>w'.cell? ⟨b3,0,none⟩=some (.int .i64 3)∧w'.cell? ⟨b3,1,none⟩=some (.int .i64 b)∧w'.cell? ⟨b3,2,none⟩=some (.string (⟨#[]⟩:ByteArray))∧w'.cell? ⟨b0,0,none⟩=some (.slice A0 ks.length c0)∧w'.cell? ⟨b0,1,none⟩=some (.slice A1 ps.length c1)∧w'.cell? ⟨b0,2,none⟩=some (.slice (some ⟨g2,0,none⟩) ss.length c2)∧w'.cell? ⟨b0,3,none⟩=some (.slice A3 ib.length c3)∧w'.cell? ⟨b0,4,none⟩=some (.int .i64 sd)) (ds:=[]) (bl 15 0) (by kernel_rfl) rfl rfl ⟨cR.1,cR.2.1,cR.2.2.1,cK.1,cK.2.1,cK.2.2.1,cK.2.2.2.1,cK.2.2.2.2.1⟩ (fun an=> ?_);refine bW aW.y4 aW.rX (fun aC eE=> ?_)
      clear cR cK
      replace HS:=HS.drew
      generalize World.drew _=vO at HS an⊢
      refine ag 0 (some 20) 15 1 aC ?_
      refine cl 1 (some 21) 15 3 aC eE an ?_ (hy:=by rintro w' ⟨s0,s1,s2,s3,s4,s5,s6,s7⟩;go_simp;with_reducible rfl)
      refine ag 2 (some 22) 15 7 aC ?_
      refine ag 3 (some 23) 15 15 aC ?_
      try simp only [show ((3:Int)==2)=false from rfl]
      refine cG 4 (some 24) 15 31 aC ?_
      refine cG 5 (some 25) 15 63 aC ?_
      refine cG 6 (some 26) 15 127 aC ?_
      refine cG 7 (some 27) 15 255 aC ?_
      refine cG 8 (some 28) 15 511 aC ?_
      refine cG 9 (some 29) 15 1023 aC ?_
      refine cG 10 (some 30) 15 2047 aC ?_
      refine cG 11 (some 31) 15 4095 aC ?_
      refine cG 12 (some 32) 15 8191 aC ?_
      refine ag 13 (some 33) 15 16383 aC ?_
      refine ag 14 (some 19) 15 32767 aC ?_
      refine fm (cW aC.out (by kernel_rfl)) ?_
      clear aC eE an
      have cR:=cA (HS.bf 0)
      have cK:=aD (HS.bf 3)
      go_upto_region 8 with fail
      go_upto_region 8 with fail
      clear cR cK
      have cR:=cA (HS.bf 0)
      have cK:=aD (HS.bf 3)
      obtain ⟨gf,iR⟩:=HS.m7.hole j0 j1
      refine ef (n:=17) (S:=fun w'=>w'.cell? ⟨b3,0,none⟩=some (.int .i64 3)∧w'.cell? ⟨b3,1,none⟩=some (.int .i64 b)∧w'.cell? ⟨b3,2,none⟩=some (.string (⟨#[]⟩:ByteArray))∧w'.cell? ⟨b0,0,none⟩=some (.slice A0 ks.length c0)∧w'.cell? ⟨b0,1,none⟩=some (.slice A1 ps.length c1)∧w'.cell? ⟨b0,2,none⟩=some (.slice (some ⟨g2,0,none⟩) ss.length c2)∧w'.cell? ⟨b0,3,none⟩=some (.slice A3 ib.length c3)∧w'.cell? ⟨b0,4,none⟩=some (.int .i64 sd)∧w'.cell? ⟨g2,0,none⟩=some (.slice AS S.length qS)) (ds:=[]) (bl 17 0) (by kernel_rfl) rfl rfl ⟨cR.1,cR.2.1,cR.2.2.1,cK.1,cK.2.1,cK.2.2.1,cK.2.2.2.1,cK.2.2.2.2.1,gf⟩ (fun an=> ?_);refine bW aW.yZ aW.rW (fun aC eE=> ?_)
      clear cR cK gf iR
      replace HS:=HS.drew
      generalize World.drew _=vO at HS an⊢
      refine ag 0 (some 39) 17 1 aC ?_
      refine cl 1 (some 40) 17 3 aC eE an ?_ (hy:=by rintro w' ⟨s0,s1,s2,s3,s4,s5,s6,s7,s8⟩;go_simp;with_reducible rfl)
      refine ag 2 (some 41) 17 7 aC ?_
      refine ag 3 (some 42) 17 15 aC ?_
      try simp only [show ((3:Int)==3)=true from rfl]
      refine ag 4 (some 43) 17 31 aC ?_
      refine cl 5 (some 44) 17 63 aC eE an ?_ (hy:=by rintro w' ⟨s0,s1,s2,s3,s4,s5,s6,s7,s8⟩;go_simp;with_reducible rfl)
      refine ag 6 (some 45) 17 127 aC ?_
      refine ag 7 (some 46) 17 255 aC ?_
      refine ag 8 (some 47) 17 511 aC ?_
      refine cl 9 (some 48) 17 1023 aC eE an ?_ (hy:=by rintro w' ⟨s0,s1,s2,s3,s4,s5,s6,s7,s8⟩;go_simp;with_reducible rfl)
      refine ag 10 (some 49) 17 2047 aC ?_
      refine cl 11 (some 50) 17 4095 aC eE an ?_ (hy:=by rintro w' ⟨s0,s1,s2,s3,s4,s5,s6,s7,s8⟩;go_simp;with_reducible rfl)
      refine ag 12 (some 51) 17 8191 aC ?_
      refine ag 13 (some 52) 17 16383 aC ?_
      refine gv 14 (some 53) 17 32767 aC (fun K hK=> ?_)
      refine gw Tryz.func70 (by kernel_rfl) rfl #[.int .i64 b,.int .i64 0,.int .i64 (wrap64 ((S.length:Int)-1))] (by rfl) rfl rfl (by (try simp only [List.map_toArray,List.map_cons,List.map_nil]);first|done|rfl) ?_
      refine (aM.calls _ _ _ _ _ T2.out).mono ?_
      clear an
      rintro e W_ ⟨rfl,gX,rfl⟩
      refine ⟨_,rfl,?_⟩
      replace HS:=HS.drewN gX
      generalize World.drewN _ gX=W_ at HS⊢
      have cR:=cA (HS.bf 0)
      have cK:=aD (HS.bf 3)
      obtain ⟨gf,iR⟩:=HS.m7.hole j0 j1
      refine hK.out _ _ ⟨cR.1,cR.2.1,cR.2.2.1,cK.1,cK.2.1,cK.2.2.1,cK.2.2.2.1,cK.2.2.2.2.1,gf⟩ (fun an=> ?_)
      clear hK K cR cK gf iR
      refine dF (a':= ?_) ?_ ?_
      rotate_left
      ·show Act.put _ (some 53) _=_
       simp only [Act.put,List.setIfInBounds_toArray,List.set_cons_zero,List.set_cons_succ,bX,cL]
       rfl
      refine ag 15 (some 54) 17 65535 aC ?_
      refine ag 16 (some 38) 17 131071 aC ?_
      refine fm (cW aC.out (by kernel_rfl)) ?_
      clear aC eE an
      have cR:=cA (HS.bf 0)
      have cK:=aD (HS.bf 3)
      go_wp2
      replace HS:=HS.mN.mN.rY GS
      go_ret
      replace HS:=HS.m7.tail
      exact ⟨er,HS.mM.m7.mM.mM.mM⟩
     |true=>
      rw [if_pos rfl] at h
      replace h:=cZ h;obtain ⟨⟨ZK,P7⟩,h⟩:=h
      replace h:=bS h;obtain ⟨⟨N0,Kr,Kp,N1,Kq⟩,T1,h⟩:=h
      obtain ⟨e1,e2,e3⟩:=bV.keeps T1.out
      dsimp only at e1 e2 e3
      replace e1:=e1.symm;replace e2:=e2.symm;replace e3:=e3.symm
      subst e1 e2 e3
      obtain ⟨rfl,rfl⟩:=(Prod.mk.injEq _ _ _ _).mp (Option.some.inj h)
      clear h
      generalize rE:aV ByteArray.empty S b=s at T1
      go_enter Tryz.func62,Tryz.ntmps62
      go_upto_region 5 with (first|((with_reducible refine ax (N:=3) rfl ?_);refine cm 3 #[.int .i64 3,.int .i64 b,.string (⟨#[]⟩:ByteArray)] 53 ?_;intro b3 cg W_ bQ bn;replace HS:=HS.box cg bQ bn;clear cg bQ bn;have cR:=cA (HS.bf 0);clear cR;have cR:=cA (HS.bf 0);have cK:=aD (HS.bf 3)))
      go_upto_region 5 with fail
      clear cR cK
      have cR:=cA (HS.bf 0)
      have cK:=aD (HS.bf 3)
      refine ef (n:=15) (S:=fun w'=>w'.cell? ⟨b3,0,none⟩=some (.int .i64 3)∧w'.cell? ⟨b3,1,none⟩=some (.int .i64 b)∧w'.cell? ⟨b3,2,none⟩=some (.string (⟨#[]⟩:ByteArray))∧w'.cell? ⟨b0,0,none⟩=some (.slice A0 ks.length c0)∧w'.cell? ⟨b0,1,none⟩=some (.slice A1 ps.length c1)∧w'.cell? ⟨b0,2,none⟩=some (.slice (some ⟨g2,0,none⟩) ss.length c2)∧w'.cell? ⟨b0,3,none⟩=some (.slice A3 ib.length c3)∧w'.cell? ⟨b0,4,none⟩=some (.int .i64 sd)) (ds:=[]) (bl 15 0) (by kernel_rfl) rfl rfl ⟨cR.1,cR.2.1,cR.2.2.1,cK.1,cK.2.1,cK.2.2.1,cK.2.2.2.1,cK.2.2.2.2.1⟩ (fun an=> ?_);refine bW aW.y4 aW.rX (fun aC eE=> ?_)
      clear cR cK
      replace HS:=HS.drew
      generalize World.drew _=vO at HS an⊢
      refine ag 0 (some 20) 15 1 aC ?_
      refine cl 1 (some 21) 15 3 aC eE an ?_ (hy:=by rintro w' ⟨s0,s1,s2,s3,s4,s5,s6,s7⟩;go_simp;with_reducible rfl)
      refine ag 2 (some 22) 15 7 aC ?_
      refine ag 3 (some 23) 15 15 aC ?_
      try simp only [show ((3:Int)==2)=false from rfl]
      refine cG 4 (some 24) 15 31 aC ?_
      refine cG 5 (some 25) 15 63 aC ?_
      refine cG 6 (some 26) 15 127 aC ?_
      refine cG 7 (some 27) 15 255 aC ?_
      refine cG 8 (some 28) 15 511 aC ?_
      refine cG 9 (some 29) 15 1023 aC ?_
      refine cG 10 (some 30) 15 2047 aC ?_
      refine cG 11 (some 31) 15 4095 aC ?_
      refine cG 12 (some 32) 15 8191 aC ?_
      refine ag 13 (some 33) 15 16383 aC ?_
      refine ag 14 (some 19) 15 32767 aC ?_
      refine fm (cW aC.out (by kernel_rfl)) ?_
      clear aC eE an
      have cR:=cA (HS.bf 0)
      have cK:=aD (HS.bf 3)
      go_upto_region 8 with fail
      go_upto_region 8 with fail
      clear cR cK
      have cR:=cA (HS.bf 0)
      have cK:=aD (HS.bf 3)
      obtain ⟨gf,iR⟩:=HS.m7.hole j0 j1
      refine ef (n:=17) (S:=fun w'=>w'.cell? ⟨b3,0,none⟩=some (.int .i64 3)∧w'.cell? ⟨b3,1,none⟩=some (.int .i64 b)∧w'.cell? ⟨b3,2,none⟩=some (.string (⟨#[]⟩:ByteArray))∧w'.cell? ⟨b0,0,none⟩=some (.slice A0 ks.length c0)∧w'.cell? ⟨b0,1,none⟩=some (.slice A1 ps.length c1)∧w'.cell? ⟨b0,2,none⟩=some (.slice (some ⟨g2,0,none⟩) ss.length c2)∧w'.cell? ⟨b0,3,none⟩=some (.slice A3 ib.length c3)∧w'.cell? ⟨b0,4,none⟩=some (.int .i64 sd)∧w'.cell? ⟨g2,0,none⟩=some (.slice AS S.length qS)) (ds:=[]) (bl 17 0) (by kernel_rfl) rfl rfl ⟨cR.1,cR.2.1,cR.2.2.1,cK.1,cK.2.1,cK.2.2.1,cK.2.2.2.1,cK.2.2.2.2.1,gf⟩ (fun an=> ?_);refine bW aW.yZ aW.rW (fun aC eE=> ?_)
      clear cR cK gf iR
      replace HS:=HS.drew
      generalize World.drew _=vO at HS an⊢
      refine ag 0 (some 39) 17 1 aC ?_
      refine cl 1 (some 40) 17 3 aC eE an ?_ (hy:=by rintro w' ⟨s0,s1,s2,s3,s4,s5,s6,s7,s8⟩;go_simp;with_reducible rfl)
      refine ag 2 (some 41) 17 7 aC ?_
      refine ag 3 (some 42) 17 15 aC ?_
      try simp only [show ((3:Int)==3)=true from rfl]
      refine ag 4 (some 43) 17 31 aC ?_
      refine cl 5 (some 44) 17 63 aC eE an ?_ (hy:=by rintro w' ⟨s0,s1,s2,s3,s4,s5,s6,s7,s8⟩;go_simp;with_reducible rfl)
      refine ag 6 (some 45) 17 127 aC ?_
      refine ag 7 (some 46) 17 255 aC ?_
      refine ag 8 (some 47) 17 511 aC ?_
      refine cl 9 (some 48) 17 1023 aC eE an ?_ (hy:=by rintro w' ⟨s0,s1,s2,s3,s4,s5,s6,s7,s8⟩;go_simp;with_reducible rfl)
      refine ag 10 (some 49) 17 2047 aC ?_
      refine cl 11 (some 50) 17 4095 aC eE an ?_ (hy:=by rintro w' ⟨s0,s1,s2,s3,s4,s5,s6,s7,s8⟩;go_simp;with_reducible rfl)
      refine ag 12 (some 51) 17 8191 aC ?_
      refine ag 13 (some 52) 17 16383 aC ?_
      refine gv 14 (some 53) 17 32767 aC (fun K hK=> ?_)
      refine gw Tryz.func70 (by kernel_rfl) rfl #[.int .i64 b,.int .i64 0,.int .i64 (wrap64 ((S.length:Int)-1))] (by rfl) rfl rfl (by (try simp only [List.map_toArray,List.map_cons,List.map_nil]);first|done|rfl) ?_
      refine (aM.calls _ _ _ _ _ T2.out).mono ?_
      clear an
      rintro e W_ ⟨rfl,gX,rfl⟩
      refine ⟨_,rfl,?_⟩
      replace HS:=HS.drewN gX
      generalize World.drewN _ gX=W_ at HS⊢
      have cR:=cA (HS.bf 0)
      have cK:=aD (HS.bf 3)
      obtain ⟨gf,iR⟩:=HS.m7.hole j0 j1
      refine hK.out _ _ ⟨cR.1,cR.2.1,cR.2.2.1,cK.1,cK.2.1,cK.2.2.1,cK.2.2.2.1,cK.2.2.2.2.1,gf⟩ (fun an=> ?_)
      clear hK K cR cK gf iR
      refine dF (a':= ?_) ?_ ?_
      rotate_left
      ·show Act.put _ (some 53) _=_
       simp only [Act.put,List.setIfInBounds_toArray,List.set_cons_zero,List.set_cons_succ,bX,cL]
       rfl
      refine ag 15 (some 54) 17 65535 aC ?_
      refine ag 16 (some 38) 17 131071 aC ?_
      refine fm (cW aC.out (by kernel_rfl)) ?_
      clear aC eE an
      have cR:=cA (HS.bf 0)
      have cK:=aD (HS.bf 3)
      obtain ⟨gS,qS',e⟩:=HS.vN 2 (hx:=by omega)
      obtain rfl:AS=some ⟨gS,0,none⟩:=by injection e
      clear e
      go_upto_region 9 with fail
      have pb0:(0≤b)=True:=eq_true ZK
      have pb1:(b<(S.length:Int))=True:=eq_true P7
      go_upto_region 9 with fail
      clear cR cK
      have cR:=cA (HS.bf 0)
      have cK:=aD (HS.bf 3)
      obtain ⟨gf,iR⟩:=HS.m7.hole j0 j1
      have Tv:=HS.cellS 2 (n:=S.length) b ZK P7
      rw [rE] at Tv
      refine ef (n:=12) (S:=fun w'=>w'.cell? ⟨b3,0,none⟩=some (.int .i64 3)∧w'.cell? ⟨b3,1,none⟩=some (.int .i64 b)∧w'.cell? ⟨b3,2,none⟩=some (.string (⟨#[]⟩:ByteArray))∧w'.cell? ⟨b0,0,none⟩=some (.slice A0 ks.length c0)∧w'.cell? ⟨b0,1,none⟩=some (.slice A1 ps.length c1)∧w'.cell? ⟨b0,2,none⟩=some (.slice (some ⟨g2,0,none⟩) ss.length c2)∧w'.cell? ⟨b0,3,none⟩=some (.slice A3 ib.length c3)∧w'.cell? ⟨b0,4,none⟩=some (.int .i64 sd)∧w'.cell? ⟨g2,0,none⟩=some (.slice (some ⟨gS,0,none⟩) S.length qS)∧w'.cell? ⟨gS,b.toNat,none⟩=some (.string s)) (ds:=[11]) (bl 12 0) (by kernel_rfl) rfl rfl ⟨cR.1,cR.2.1,cR.2.2.1,cK.1,cK.2.1,cK.2.2.1,cK.2.2.2.1,cK.2.2.2.2.1,gf,Tv⟩ (fun an=> ?_);refine bW aW.ab8 aW.ZI (fun aC eE=> ?_)
      clear cR cK gf iR Tv
      replace HS:=HS.drew
      generalize World.drew _=vO at HS an⊢
      refine ag 0 (some 55) 12 1 aC ?_
      refine ag 1 (some 56) 12 3 aC ?_
      refine ag 2 (some 57) 12 7 aC ?_
      refine ag 3 (some 58) 12 15 aC ?_
      refine cl 4 (some 59) 12 31 aC eE an ?_ (hy:=by rintro w' ⟨s0,s1,s2,s3,s4,s5,s6,s7,s8,s9⟩;go_simp;with_reducible rfl)
      refine ag 5 (some 60) 12 63 aC ?_
      refine cl 6 (some 61) 12 127 aC eE an ?_ (hy:=by rintro w' ⟨s0,s1,s2,s3,s4,s5,s6,s7,s8,s9⟩;go_simp;with_reducible rfl)
      refine ag 7 (some 62) 12 255 aC ?_
      refine cl 8 (some 63) 12 511 aC eE an ?_ (hy:=by rintro w' ⟨s0,s1,s2,s3,s4,s5,s6,s7,s8,s9⟩;go_simp;with_reducible rfl)
      refine ag 9 (some 64) 12 1023 aC ?_
      refine cl 10 (some 65) 12 2047 aC eE an ?_ (hy:=by rintro w' ⟨s0,s1,s2,s3,s4,s5,s6,s7,s8,s9⟩;go_simp;with_reducible rfl)
      replace HS:=HS.mN.mN.rY GS
      refine mm (i:=11) (N:=(some 66)) (bl 12 4095) rfl rfl (jH aC.out (by kernel_rfl)) (by decide) (fun K hK=> ?_)
      clear an
      refine gw Tryz.func98 (by kernel_rfl) rfl #[.pointer (some ⟨b0,0,none⟩),.int .i64 0,.string s] (by rfl) rfl rfl (by (try simp only [List.map_toArray,List.map_cons,List.map_nil]);first|done|rfl) ?_
      have dj:=bV.calls (n:=⟨ks,ps,ss,ib,sd⟩) (HS.jI.m7.jI.jI.jI) T1.out
      refine dj.mono ?_
      clear dj
      rintro e W_ ⟨rfl,ij⟩
      refine ⟨_,rfl,?_⟩
      clear HS
      have HS:=ij
      clear ij
      dsimp only [fH,List.cons_append,List.nil_append] at HS
      refine hK.out _ _ ?_
      clear hK K
      refine dF (a':= ?_) ?_ ?_
      rotate_left
      ·show Act.put _ (some 66) _=_
       simp only [Act.put,List.setIfInBounds_toArray,List.set_cons_zero,List.set_cons_succ,bX,cL]
       rfl
      refine fm (cW aC.out (by kernel_rfl)) ?_
      clear aC eE
      go_wp2
      go_ret
      replace HS:=HS.jI.tail
      exact ⟨er,HS⟩
    ·rw [if_neg a3] at h
     have ha3:(a==3)=false:=beq_eq_false_iff_ne.2 a3
     clear a1 a2 a3
     obtain ⟨rfl,rfl⟩:=(Prod.mk.injEq _ _ _ _).mp (Option.some.inj h)
     clear h
     go_enter Tryz.func62,Tryz.ntmps62
     go_upto_region 5 with (first|((with_reducible refine ax (N:=3) rfl ?_);refine cm 3 #[.int .i64 a,.int .i64 b,.string (⟨#[]⟩:ByteArray)] 53 ?_;intro b3 cg W_ bQ bn;replace HS:=HS.box cg bQ bn;clear cg bQ bn;have cR:=cA (HS.bf 0);clear cR;have cR:=cA (HS.bf 0);have cK:=aD (HS.bf 1)))
     go_upto_region 5 with fail
     clear cR cK
     have cR:=cA (HS.bf 0)
     have cK:=aD (HS.bf 1)
     refine ef (n:=15) (S:=fun w'=>w'.cell? ⟨b3,0,none⟩=some (.int .i64 a)∧w'.cell? ⟨b3,1,none⟩=some (.int .i64 b)∧w'.cell? ⟨b3,2,none⟩=some (.string (⟨#[]⟩:ByteArray))∧w'.cell? ⟨b0,0,none⟩=some (.slice A0 ks.length c0)∧w'.cell? ⟨b0,1,none⟩=some (.slice A1 ps.length c1)∧w'.cell? ⟨b0,2,none⟩=some (.slice A2 ss.length c2)∧w'.cell? ⟨b0,3,none⟩=some (.slice A3 ib.length c3)∧w'.cell? ⟨b0,4,none⟩=some (.int .i64 sd)) (ds:=[]) (bl 15 0) (by kernel_rfl) rfl rfl ⟨cR.1,cR.2.1,cR.2.2.1,cK.1,cK.2.1,cK.2.2.1,cK.2.2.2.1,cK.2.2.2.2.1⟩ (fun an=> ?_);refine bW aW.y4 aW.rX (fun aC eE=> ?_)
     clear cR cK
     replace HS:=HS.drew
     generalize World.drew _=vO at HS an⊢
     refine ag 0 (some 20) 15 1 aC ?_
     refine cl 1 (some 21) 15 3 aC eE an ?_ (hy:=by rintro w' ⟨s0,s1,s2,s3,s4,s5,s6,s7⟩;go_simp;with_reducible rfl)
     refine ag 2 (some 22) 15 7 aC ?_
     refine ag 3 (some 23) 15 15 aC ?_
     try simp only [ha2]
     refine cG 4 (some 24) 15 31 aC ?_
     refine cG 5 (some 25) 15 63 aC ?_
     refine cG 6 (some 26) 15 127 aC ?_
     refine cG 7 (some 27) 15 255 aC ?_
     refine cG 8 (some 28) 15 511 aC ?_
     refine cG 9 (some 29) 15 1023 aC ?_
     refine cG 10 (some 30) 15 2047 aC ?_
     refine cG 11 (some 31) 15 4095 aC ?_
     refine cG 12 (some 32) 15 8191 aC ?_
     refine ag 13 (some 33) 15 16383 aC ?_
     refine ag 14 (some 19) 15 32767 aC ?_
     refine fm (cW aC.out (by kernel_rfl)) ?_
     clear aC eE an
     have cR:=cA (HS.bf 0)
     have cK:=aD (HS.bf 1)
     go_upto_region 8 with fail
     go_upto_region 8 with fail
     clear cR cK
     have cR:=cA (HS.bf 0)
     have cK:=aD (HS.bf 1)
     refine ef (n:=17) (S:=fun w'=>w'.cell? ⟨b3,0,none⟩=some (.int .i64 a)∧w'.cell? ⟨b3,1,none⟩=some (.int .i64 b)∧w'.cell? ⟨b3,2,none⟩=some (.string (⟨#[]⟩:ByteArray))∧w'.cell? ⟨b0,0,none⟩=some (.slice A0 ks.length c0)∧w'.cell? ⟨b0,1,none⟩=some (.slice A1 ps.length c1)∧w'.cell? ⟨b0,2,none⟩=some (.slice A2 ss.length c2)∧w'.cell? ⟨b0,3,none⟩=some (.slice A3 ib.length c3)∧w'.cell? ⟨b0,4,none⟩=some (.int .i64 sd)) (ds:=[]) (bl 17 0) (by kernel_rfl) rfl rfl ⟨cR.1,cR.2.1,cR.2.2.1,cK.1,cK.2.1,cK.2.2.1,cK.2.2.2.1,cK.2.2.2.2.1⟩ (fun an=> ?_);refine bW aW.yZ aW.rW (fun aC eE=> ?_)
     clear cR cK
     replace HS:=HS.drew
     generalize World.drew _=vO at HS an⊢
     refine ag 0 (some 39) 17 1 aC ?_
     refine cl 1 (some 40) 17 3 aC eE an ?_ (hy:=by rintro w' ⟨s0,s1,s2,s3,s4,s5,s6,s7⟩;go_simp;with_reducible rfl)
     refine ag 2 (some 41) 17 7 aC ?_
     refine ag 3 (some 42) 17 15 aC ?_
     try simp only [ha3]
     refine cG 4 (some 43) 17 31 aC ?_
     refine cG 5 (some 44) 17 63 aC ?_
     refine cG 6 (some 45) 17 127 aC ?_
     refine cG 7 (some 46) 17 255 aC ?_
     refine cG 8 (some 47) 17 511 aC ?_
     refine cG 9 (some 48) 17 1023 aC ?_
     refine cG 10 (some 49) 17 2047 aC ?_
     refine cG 11 (some 50) 17 4095 aC ?_
     refine cG 12 (some 51) 17 8191 aC ?_
     refine cG 13 (some 52) 17 16383 aC ?_
     refine cG 14 (some 53) 17 32767 aC ?_
     refine ag 15 (some 54) 17 65535 aC ?_
     refine ag 16 (some 38) 17 131071 aC ?_
     refine fm (cW aC.out (by kernel_rfl)) ?_
     clear aC eE an
     have cR:=cA (HS.bf 0)
     have cK:=aD (HS.bf 1)
     go_wp2
     go_ret
     replace HS:=HS.tail
     exact ⟨er,HS⟩
  ·rw [if_neg hx] at h
   have hxe:=nU hx
   clear hx a1
   obtain ⟨rfl,rfl⟩:=(Prod.mk.injEq _ _ _ _).mp (Option.some.inj h)
   clear h
   go_enter Tryz.func62,Tryz.ntmps62
   go_wp2_with (first|((with_reducible refine ax (N:=3) rfl ?_);refine cm 3 #[.int .i64 a,.int .i64 b,.string x] 53 ?_;intro b3 cg W_ bQ bn;replace HS:=HS.box cg bQ bn;clear cg bQ bn;have cR:=cA (HS.bf 0);clear cR;have cR:=cA (HS.bf 0);have cK:=aD (HS.bf 1)))
   go_ret
   replace HS:=HS.tail
   exact ⟨er,HS⟩
theorem AM {k:Nat} {A0:Option Addr} {c0:Nat} {l0:List Int} {r1:List Int} {r2 r3 r4:List (List ByteArray)} {r5:Int} {r6:Bool} {w:World} (eT:KI.C w A0 l0.length l0) (fE:l0.length≤c0) (h:dW.f k l0=some (r1,r2,r3,r4,r5,r6)):
    Calls Tryz.prog 48 #[.slice A0 l0.length c0] w (wW w ⟨r1,r2,r3,r4,r5⟩ r6):=by
  obtain ⟨h1,rfl⟩:=dW.ye k A0 c0 l0 r1 r2 r3 r4 r5 r6 w eT fE h
  exact h1.mono fun e w' he=>AL he
def eH.l0 (k:Nat):List iK→Nt→List Bool→Option (Nt×List Bool)
 |[],n,d=>some (n,d)
 |s::r,n,d=>(aW.f k n s.f0 s.f1 s.f2).bind fun (n2,q)=>eH.l0 k r n2 (d++[q])
def eH.f (k:Nat) (ks:List Int) (l:List iK):Option (Nt×List Bool×Bool):=(dW.f k ks).bind fun (r1,r2,r3,r4,r5,r6)=>if r6=false then some (⟨[],[],[],[],0⟩,[],false) else if 60<(l.length:Int) then some (⟨[],[],[],[],0⟩,[],false) else (eH.l0 k l ⟨r1,r2,r3,r4,r5⟩ []).bind fun (n,d)=>some (n,d,true)
theorem eH.calls {k:Nat} {A0 A1:Option Addr} {c0 c1:Nat} {ks:List Int} {l:List iK} {m:Nt} {md:List Bool} {r:Bool} {w:World} (eT:KI.C w A0 ks.length ks) (fE:ks.length≤c0) (nY:Kd.C zN w A1 l.length l) (mY:l.length≤c1) (h:eH.f k ks l=some (m,md,r)):
    Calls Tryz.prog 19 #[.slice A0 ks.length c0,.slice A1 l.length c1] w (D3 w m md r):=by
 have mX:=Tryz.underlying27
 have Fl:=Tryz.underlying53
 have fB:=ak eT;have jD:=ak fE;have pX:=ak nY;have Ed:=ak mY
 clear eT fE nY mY
 unfold eH.f at h
 have HS:=Sep.nil w
 replace h:=bS h;obtain ⟨⟨r1,r2,r3,r4,r5,r6⟩,T0,h⟩:=h
 dsimp only at h
 cases r6 with
 |false=>
  rw [if_pos rfl] at h
  obtain ⟨h1,h2⟩:=(Prod.mk.injEq _ _ _ _).mp (Option.some.inj h)
  obtain ⟨h2,h3⟩:=(Prod.mk.injEq _ _ _ _).mp h2
  clear h
  subst h1 h2 h3
  go_enter Tryz.func19,Tryz.ntmps19
  go_upto_region 2 with (first|((with_reducible refine ax (N:=4) rfl ?_);refine cm 4 #[.slice none 0 0,.slice none 0 0,.slice none 0 0,.slice none 0 0,.int .i64 0] 27 ?_;intro b4 cg W_ bQ bn;replace HS:=HS.box cg bQ bn;clear cg bQ bn;have fo:=aD (HS.bf 0))|(go_at_call 48;have dj:=AM (Kd.aH fB.out HS.base) jD.out T0.out;refine dj.mono ?_;clear dj;rintro e W_ ⟨e0,e1,e2,e3,rfl,nu,bn⟩;replace HS:=HS.news bn nu;clear nu bn;dsimp only [fH,List.cons_append,List.nil_append] at HS;obtain ⟨B0,d0,rfl⟩:=HS.lJ 0;obtain ⟨B1,d1,rfl⟩:=HS.jZ 1;obtain ⟨B2,d2,rfl⟩:=HS.jZ 2;obtain ⟨B3,d3,rfl⟩:=HS.jZ 3;clear fo;have fo:=aD (HS.bf 4))|((with_reducible refine ax (N:=7) rfl ?_);refine cm 7 #[.slice none 0 0,.slice none 0 0,.slice none 0 0,.slice none 0 0,.int .i64 0] 27 ?_;intro b7 cg W_ bQ bn;replace HS:=HS.box cg bQ bn;clear cg bQ bn;clear fo;have eV:=aD (HS.bf 0);clear eV;have eV:=aD (HS.bf 0)))
  clear eV
  obtain ⟨uI,iW,iZ⟩:=(((((HS.dg 0 0 (.slice B0 r1.length d0) #[.slice B0 r1.length d0,.slice none 0 0,.slice none 0 0,.slice none 0 0,.int .i64 0]).dg 0 1 (.slice B1 r2.length d1) #[.slice B0 r1.length d0,.slice B1 r2.length d1,.slice none 0 0,.slice none 0 0,.int .i64 0]).dg 0 2 (.slice B2 r3.length d2) #[.slice B0 r1.length d0,.slice B1 r2.length d1,.slice B2 r3.length d2,.slice none 0 0,.int .i64 0]).dg 0 3 (.slice B3 r4.length d3) #[.slice B0 r1.length d0,.slice B1 r2.length d1,.slice B2 r3.length d2,.slice B3 r4.length d3,.int .i64 0]).dg 0 4 (.int .i64 r5) #[.slice B0 r1.length d0,.slice B1 r2.length d1,.slice B2 r3.length d2,.slice B3 r4.length d3,.int .i64 r5]).gen
  rw [iW]
  clear HS iW
  have HS:=iZ
  clear iZ
  have eV:=aD (HS.bf 0)
  have fo:=aD (HS.bf 5)
  go_wp2
  have HF:=HS.ko 5 (.slice none 0 0) (.slice none 0 0) (.slice none 0 0) (.slice none 0 0) (.int .i64 0)
  refine bodyPost_ret (kX rfl _ _ b4 27 #[.slice none 0 0,.slice none 0 0,.slice none 0 0,.slice none 0 0,.int .i64 0] (0,0) _ rfl (by exact (HF.bf 5).out) Tryz.underlying27 rfl (by kernel_rfl)) rfl ?_
  exact ⟨_,_,_,_,_,rfl,nT HF,HF.base⟩
 |true=>
  rw [if_neg (by decide)] at h
  by_cases rG:60<(l.length:Int)
  ·rw [if_pos rG] at h
   have U8:decide (60<(l.length:Int))=true:=decide_eq_true rG
   clear rG
   obtain ⟨h1,h2⟩:=(Prod.mk.injEq _ _ _ _).mp (Option.some.inj h)
   obtain ⟨h2,h3⟩:=(Prod.mk.injEq _ _ _ _).mp h2
   clear h
   subst h1 h2 h3
   go_enter Tryz.func19,Tryz.ntmps19
   go_upto_region 2 with (first|((with_reducible refine ax (N:=4) rfl ?_);refine cm 4 #[.slice none 0 0,.slice none 0 0,.slice none 0 0,.slice none 0 0,.int .i64 0] 27 ?_;intro b4 cg W_ bQ bn;replace HS:=HS.box cg bQ bn;clear cg bQ bn;have fo:=aD (HS.bf 0))|(go_at_call 48;have dj:=AM (Kd.aH fB.out HS.base) jD.out T0.out;refine dj.mono ?_;clear dj;rintro e W_ ⟨e0,e1,e2,e3,rfl,nu,bn⟩;replace HS:=HS.news bn nu;clear nu bn;dsimp only [fH,List.cons_append,List.nil_append] at HS;obtain ⟨B0,d0,rfl⟩:=HS.lJ 0;obtain ⟨B1,d1,rfl⟩:=HS.jZ 1;obtain ⟨B2,d2,rfl⟩:=HS.jZ 2;obtain ⟨B3,d3,rfl⟩:=HS.jZ 3;clear fo;have fo:=aD (HS.bf 4))|((with_reducible refine ax (N:=7) rfl ?_);refine cm 7 #[.slice none 0 0,.slice none 0 0,.slice none 0 0,.slice none 0 0,.int .i64 0] 27 ?_;intro b7 cg W_ bQ bn;replace HS:=HS.box cg bQ bn;clear cg bQ bn;clear fo;have eV:=aD (HS.bf 0);clear eV;have eV:=aD (HS.bf 0)))
   clear eV
   obtain ⟨uI,iW,iZ⟩:=(((((HS.dg 0 0 (.slice B0 r1.length d0) #[.slice B0 r1.length d0,.slice none 0 0,.slice none 0 0,.slice none 0 0,.int .i64 0]).dg 0 1 (.slice B1 r2.length d1) #[.slice B0 r1.length d0,.slice B1 r2.length d1,.slice none 0 0,.slice none 0 0,.int .i64 0]).dg 0 2 (.slice B2 r3.length d2) #[.slice B0 r1.length d0,.slice B1 r2.length d1,.slice B2 r3.length d2,.slice none 0 0,.int .i64 0]).dg 0 3 (.slice B3 r4.length d3) #[.slice B0 r1.length d0,.slice B1 r2.length d1,.slice B2 r3.length d2,.slice B3 r4.length d3,.int .i64 0]).dg 0 4 (.int .i64 r5) #[.slice B0 r1.length d0,.slice B1 r2.length d1,.slice B2 r3.length d2,.slice B3 r4.length d3,.int .i64 r5]).gen
   rw [iW]
   clear HS iW
   have HS:=iZ
   clear iZ
   have eV:=aD (HS.bf 0)
   have fo:=aD (HS.bf 5)
   go_wp2
   have HF:=HS.ko 5 (.slice none 0 0) (.slice none 0 0) (.slice none 0 0) (.slice none 0 0) (.int .i64 0)
   refine bodyPost_ret (kX rfl _ _ b4 27 #[.slice none 0 0,.slice none 0 0,.slice none 0 0,.slice none 0 0,.int .i64 0] (0,0) _ rfl (by exact (HF.bf 5).out) Tryz.underlying27 rfl (by kernel_rfl)) rfl ?_
   exact ⟨_,_,_,_,_,rfl,nT HF,HF.base⟩
  ·rw [if_neg rG] at h
   have U8:decide (60<(l.length:Int))=false:=decide_eq_false rG
   have LL:=ak (show l.length≤60 by omega)
   clear rG
   replace h:=bS h;obtain ⟨⟨n2,dd⟩,T1,h⟩:=h
   dsimp only at h
   obtain ⟨h1,h2⟩:=(Prod.mk.injEq _ _ _ _).mp (Option.some.inj h)
   obtain ⟨h2,h3⟩:=(Prod.mk.injEq _ _ _ _).mp h2
   clear h
   subst h1 h2 h3
   have H':=T1;clear T1
   go_enter Tryz.func19,Tryz.ntmps19
   go_upto_region 2 with (first|((with_reducible refine ax (N:=4) rfl ?_);refine cm 4 #[.slice none 0 0,.slice none 0 0,.slice none 0 0,.slice none 0 0,.int .i64 0] 27 ?_;intro b4 cg W_ bQ bn;replace HS:=HS.box cg bQ bn;clear cg bQ bn;have fo:=aD (HS.bf 0))|(go_at_call 48;have dj:=AM (Kd.aH fB.out HS.base) jD.out T0.out;refine dj.mono ?_;clear dj;rintro e W_ ⟨e0,e1,e2,e3,rfl,nu,bn⟩;replace HS:=HS.news bn nu;clear nu bn;dsimp only [fH,List.cons_append,List.nil_append] at HS;obtain ⟨B0,d0,rfl⟩:=HS.lJ 0;obtain ⟨B1,d1,rfl⟩:=HS.jZ 1;obtain ⟨B2,d2,rfl⟩:=HS.jZ 2;obtain ⟨B3,d3,rfl⟩:=HS.jZ 3;clear fo;have fo:=aD (HS.bf 4))|((with_reducible refine ax (N:=7) rfl ?_);refine cm 7 #[.slice none 0 0,.slice none 0 0,.slice none 0 0,.slice none 0 0,.int .i64 0] 27 ?_;intro b7 cg W_ bQ bn;replace HS:=HS.box cg bQ bn;clear cg bQ bn;clear fo;have eV:=aD (HS.bf 0);clear eV;have eV:=aD (HS.bf 0)))
   clear eV
   obtain ⟨uI,iW,iZ⟩:=(((((HS.dg 0 0 (.slice B0 r1.length d0) #[.slice B0 r1.length d0,.slice none 0 0,.slice none 0 0,.slice none 0 0,.int .i64 0]).dg 0 1 (.slice B1 r2.length d1) #[.slice B0 r1.length d0,.slice B1 r2.length d1,.slice none 0 0,.slice none 0 0,.int .i64 0]).dg 0 2 (.slice B2 r3.length d2) #[.slice B0 r1.length d0,.slice B1 r2.length d1,.slice B2 r3.length d2,.slice none 0 0,.int .i64 0]).dg 0 3 (.slice B3 r4.length d3) #[.slice B0 r1.length d0,.slice B1 r2.length d1,.slice B2 r3.length d2,.slice B3 r4.length d3,.int .i64 0]).dg 0 4 (.int .i64 r5) #[.slice B0 r1.length d0,.slice B1 r2.length d1,.slice B2 r3.length d2,.slice B3 r4.length d3,.int .i64 r5]).gen
   rw [iW]
   clear HS iW
   have HS:=iZ
   clear iZ
   have eV:=aD (HS.bf 0)
   have fo:=aD (HS.bf 5)
   go_wp2_with (first|((with_reducible refine ax (N:=25) rfl ?_);refine Kd.gy Kd.bool _ 4 ?hg (N:=25) ?hd (xs:=([]:List Bool)) (inner:=[]) (ok:=fun _=>True) (okp:=fun _=>True) ?hr ?hp (fun _ hk=>hk) trivial (Below.refl _ _) (Nat.le_refl _) (by simp) ?_;(case hd=>rfl);(case hg=>rfl);(case hr=>first|(go_simp;done)|(go_simp;rfl));(case hp=>exact (bN.none _ _));intro abX W_ bQ bn _ _;replace HS:=HS.new (A:=rA Kd.bool 4 abX ([])) bn bQ;clear bQ bn;clear eV fo;have eV:=aD (HS.bf 1);have fo:=aD (HS.bf 6)))
   clear eV fo
   go_loopg [9,28] l.length (fun kq v9 v28 w'=>∃(j:Nat) (n:Nt) (d:List Bool) (e0 e1 e2 e3:Value),v28= .int .i64 (j:Int)∧Aside0 (eH.l0 k (l.drop j) n d=some (n2,dd))∧j≤l.length∧l.length-j≤kq∧d.length=j∧Sep w w' (rA Kd.bool 4 v9 d::bA b7 #[e0,e1,e2,e3,.int .i64 n.sd] 27::bA b4 #[.slice none 0 0,.slice none 0 0,.slice none 0 0,.slice none 0 0,.int .i64 0] 27::rA KI 3 e0 n.ks::sA KT 62 e1 n.ps::sA KT 62 e2 n.ss::sA KT 62 e3 n.ib::[]))
   case atStart=>exact ⟨0,⟨r1,r2,r3,r4,r5⟩,[],_,_,_,_,rfl,H',Nat.zero_le _,Nat.le_refl _,rfl,HS.jI.jI.jI.jI.kG.kG.kG⟩
   case round=>
    clear HS H'
    obtain ⟨j,n,d,e0,e1,e2,e3,rfl,HA,j1,j2,Kv,HS⟩:=hrel
    have h:=HA.out;clear HA
    have HD:=ak Kv;clear Kv
    obtain ⟨E0,f0,rfl⟩:=HS.lJ 3
    obtain ⟨E1,f1,rfl⟩:=HS.jZ 4
    obtain ⟨E2,f2,rfl⟩:=HS.jZ 5
    obtain ⟨E3,f3,rfl⟩:=HS.jZ 6
    obtain ⟨A9,c9,rfl⟩:=HS.lJ 0
    by_cases hj:j<l.length
    ·have Fs:decide ((j:Int)<(l.length:Int))=true:=decide_eq_true (by omega)
     rw [GQ hj] at h
     obtain ⟨ad,e,Fk,JE,JD⟩:=oz (Kd.aH pX.out HS.base) (j:Int) (by omega) (by omega)
     cases e
     rw [Int.toNat_natCast] at Fk JE JD
     generalize cw l (j:Int)=s at h Fk JE JD
     obtain ⟨sa,sb,sx⟩:=s
     dsimp only at Fk JE JD
     have pj0:(0≤(j:Int))=True:=eq_true (by omega)
     have XK:((j:Int)<(l.length:Int))=True:=eq_true (by omega)
     simp only [eH.l0] at h
     go_upto_region 8 with (first|((with_reducible refine ax (N:=11) rfl ?_);refine cm 11 #[.int .i64 0,.int .i64 0,.string (⟨#[]⟩:ByteArray)] 53 ?_;intro wP cg W_ bQ bn;replace HS:=HS.box cg bQ bn;replace Fk:=oH bn Fk;replace JE:=oH bn JE;replace JD:=oH bn JD;clear cg bQ bn;have gb:=cA (HS.bf 0)))
     clear gb
     obtain ⟨uI,iW,iZ⟩:=(((HS.dg 0 0 (.int .i64 sa) #[.int .i64 sa,.int .i64 0,.string (⟨#[]⟩:ByteArray)]).dg 0 1 (.int .i64 sb) #[.int .i64 sa,.int .i64 sb,.string (⟨#[]⟩:ByteArray)]).dg 0 2 (.string sx) #[.int .i64 sa,.int .i64 sb,.string sx]).gen
     rw [iW]
     clear HS iW
     have HS:=iZ
     clear iZ
     clear Fk JE JD
     replace h:=bS h;obtain ⟨⟨n4,q⟩,T2,h⟩:=h
     dsimp only at h T2
     have eV:=aD (HS.bf 2)
     have gb:=cA (HS.bf 0)
     go_wp2_with (first|(go_at_call 62;have dj:=aW.calls (n:=n) (HS.zU.zU.zU.zU.kG) T2.out;refine dj.mono ?_;clear dj;rintro e W_ ⟨rfl,ij⟩;clear HS;have HS:=ij;clear ij;dsimp only [fH,List.cons_append,List.nil_append] at HS;clear eV gb;have eV:=aD (HS.bf 0))|((with_reducible refine ax (N:=35) rfl ?_);refine Kd.gy Kd.bool _ 4 ?hg (N:=35) ?hd (xs:=([q]:List Bool)) (inner:=[.bool q]) (ok:=fun _=>True) (okp:=fun _=>True) ?hr ?hp (fun _ hk=>hk) trivial (Below.refl _ _) (Nat.le_refl _) (by simp) ?_;(case hd=>rfl);(case hg=>rfl);(case hr=>first|(go_simp;done)|(go_simp;rfl));(case hp=>exact (bN.one (show Kd.M Kd.bool _ _ _ q [.bool q] from rfl) (bN.none _ _)));intro xp W_ bQ bn _ _;replace HS:=HS.new (A:=rA Kd.bool 4 xp ([q])) bn bQ;clear bQ bn;obtain ⟨A8,c8,rfl⟩:=HS.lJ 0;clear eV;have eV:=aD (HS.bf 1))|((with_reducible refine cr (b:= .append) (xs:= #[.tmp 32,.tmp 35]) rfl ?_);at_builtin;have HU:=(HS.jb 0).2.2;replace HS:=HS.zU;refine Sep.uj Kd.bool rfl (.tmp 32) (.tmp 35) 36 4 (.bool false) 1 rfl Tryz.underlying36 tq rfl (by decide) (by omega) (.slice A9 d.length c9) d [q] A8 1 c8 rfl rfl HS HU (fun _ _ _ _ h=>h) (by have:=LL.out;have:=HD.out;omega) ?_;clear HS HU;intro v9' W_ HS;clear eV;have eV:=aD (HS.bf 2)))
     replace HS:=HS.m7.tail
     replace HS:=HS.kG.tail
     go_roundg (l.length-(j+1))
     case measure=>omega
     case rel=>exact ⟨j+1,_,_,_,_,_,_,gm hj (Nat.le_trans LL.out (by decide)),⟨h⟩,hj,Nat.le_refl _,by rw [List.length_append,HD.out];rfl,HS.jI.jI.jI.jI.kG.kG.kG⟩
    ·rw [List.drop_eq_nil_of_le (by omega)] at h
     simp only [eH.l0] at h
     obtain ⟨rfl,rfl⟩:=(Prod.mk.injEq _ _ _ _).mp (Option.some.inj h)
     clear h
     have Fs:decide ((j:Int)<(l.length:Int))=false:=decide_eq_false (by omega)
     have eV:=aD (HS.bf 1)
     have fo:=aD (HS.bf 2)
     go_wp2
     have HF:=HS.ko 2 (.slice E0 n.ks.length f0) (.slice E1 n.ps.length f1) (.slice E2 n.ss.length f2) (.slice E3 n.ib.length f3) (.int .i64 n.sd)
     refine bodyPost_ret (kX rfl _ _ b4 27 #[.slice E0 n.ks.length f0,.slice E1 n.ps.length f1,.slice E2 n.ss.length f2,.slice E3 n.ib.length f3,.int .i64 n.sd] (0,0) _ rfl (by exact (HF.bf 2).out) Tryz.underlying27 rfl (by kernel_rfl)) rfl ?_
     replace HS:=HF
     have HF:=HS.kG.kG.kG.kG
     exact ⟨_,_,_,_,_,rfl,uV HF,HF.base⟩
def au (w0 W:World) (g:Nat) (f0:List Int) (f1:Int) (f2:Int):Prop:=∃A0 c0,W.heap[g]? =some (.cells #[.slice A0 f0.length c0,.int .i64 f1,.int .u64 f2] 89 (0,0))∧w0.heap.size≤g∧Kd.C (Kd.int .u8) w0 A0 f0.length f0
theorem au.grown {w0 W:World} {g:Nat} {f0:List Int} {f1:Int} {f2:Int} {W1:World} {row:Option Nat} (h:au w0 W g f0 f1 f2) (hw:W.grownBy W1 row) (jy:some g≠row):au w0 W1 g f0 f1 f2:=by
 obtain ⟨A0,c0,hb,hg,eT⟩:=h
 exact ⟨A0,c0,lq hb hw jy,hg,eT⟩
theorem au.fresh {w0 W:World} {g:Nat} {f0:List Int} {f1:Int} {f2:Int} (h:au w0 W g f0 f1 f2):∀k,W.heap.size≤k→k≠g:=by
 obtain ⟨A0,c0,hb,hg,eT⟩:=h
 exact Kd.FL hb
theorem au.kept {w0 W:World} {g:Nat} {f0:List Int} {f1:Int} {f2:Int} {W1:World} {S:Nat→Prop} (h:au w0 W g f0 f1 f2) (hk:Kept W W1 S) (jy:¬S g):au w0 W1 g f0 f1 f2:=by
 obtain ⟨A0,c0,hb,hg,eT⟩:=h
 exact ⟨A0,c0,DT hb hk jy,hg,eT⟩
theorem au.below {w0 W:World} {g:Nat} {f0:List Int} {f1:Int} {f2:Int} {W1:World} (h:au w0 W g f0 f1 f2) (hw:Below W.heap.size W W1):au w0 W1 g f0 f1 f2:=h.grown (qx hw none) (by simp)
theorem au.alloc {w0 W:World} {g:Nat} {f0:List Int} {f1:Int} {f2:Int} (h:au w0 W g f0 f1 f2) (o:Obj):au w0 (W.alloc o) g f0 f1 f2:=h.below (dA (Below.refl _ _) o)
theorem au.drewN {w0 W:World} {g:Nat} {f0:List Int} {f1:Int} {f2:Int} (h:au w0 W g f0 f1 f2) (m:Nat):au w0 (W.drewN m) g f0 f1 f2:=h
theorem au.drew {w0 W:World} {g:Nat} {f0:List Int} {f1:Int} {f2:Int} (h:au w0 W g f0 f1 f2):au w0 W.drew g f0 f1 f2:=h
theorem au.at_ {w0 W:World} {g:Nat} {f0:List Int} {f1:Int} {f2:Int} {w':World} {m:Nat} (hq:W.drewN m=w') (h:au w0 W g f0 f1 f2):au w0 w' g f0 f1 f2:=by subst hq;exact au.drewN h m
theorem au.apart {w0 W:World} {g:Nat} {f0:List Int} {f1:Int} {f2:Int} {α:Type} {d:Kd α} {e:Nat} {base:Nat} {ok:Nat→Prop} {v:Value} {xs:List α} (h:au w0 W g f0 f1 f2) (ho:d.R e W base ok v xs) (ht:∀q,q∈e::d.E→q≠89):d.R e W base (fun k=>ok k∧k≠g) v xs:=by
 obtain ⟨A0,c0,hb,hg,eT⟩:=h
 exact Kd.jB ho hb ht
theorem au.lM {w0 W:World} {g:Nat} {f0:List Int} {f1:Int} {f2:Int} {α:Type} {d:Kd α} {e:Nat} {base:Nat} {ok:Nat→Prop} {v:Value} {xs:List α} (h:au w0 W g f0 f1 f2) (ho:d.R e W base ok v xs) (ht:e≠89):some g≠v.ownBlock:=by
 obtain ⟨A0,c0,hb,hg,eT⟩:=h
 exact Kd.F9 ho hb ht
theorem au.AJ {w0 W:World} {g:Nat} {f0:List Int} {f1:Int} {f2:Int} {A0:Option Addr} {c0:Nat} (hb:W.heap[g]? =some (.cells #[.slice A0 f0.length c0,.int .i64 f1,.int .u64 f2] 89 (0,0))) (hg:w0.heap.size≤g) (eT:Kd.C (Kd.int .u8) w0 A0 f0.length f0):au w0 W g f0 f1 f2:=⟨A0,c0,hb,hg,eT⟩
theorem au.lt {w0 W:World} {g:Nat} {f0:List Int} {f1:Int} {f2:Int} (h:au w0 W g f0 f1 f2):g<W.heap.size:=by
 obtain ⟨A0,c0,hb,hg,eT⟩:=h
 exact ji hb
theorem au.ge {w0 W:World} {g:Nat} {f0:List Int} {f1:Int} {f2:Int} (h:au w0 W g f0 f1 f2):w0.heap.size≤g:=by
 obtain ⟨A0,c0,hb,hg,eT⟩:=h
 exact hg
theorem au.MB {w0 W:World} {g:Nat} {f0:List Int} {f1:Int} {f2:Int} {p:Addr} (h:au w0 W g f0 f1 f2) (jy:g≠p.block) (u:Value):au w0 (W.setCell p u) g f0 f1 f2:=by
 obtain ⟨A0,c0,hb,hg,eT⟩:=h
 exact ⟨A0,c0,P6 hb jy u,hg,eT⟩
theorem rz {W:World} {g:Nat} {A0:Option Addr} {c0:Nat} {f0:List Int} {f1:Int} {f2:Int} (h:W.heap[g]? =some (.cells #[.slice A0 f0.length c0,.int .i64 f1,.int .u64 f2] 89 (0,0))):W.cell? ⟨g,0,none⟩=some (.slice A0 f0.length c0):=(iJ h 0).trans rfl
theorem ry {W:World} {g:Nat} {A0:Option Addr} {c0:Nat} {f0:List Int} {f1:Int} {f2:Int} (h:W.heap[g]? =some (.cells #[.slice A0 f0.length c0,.int .i64 f1,.int .u64 f2] 89 (0,0))):W.cell? ⟨g,1,none⟩=some (.int .i64 f1):=(iJ h 1).trans rfl
theorem au.QK {w0 W:World} {g:Nat} {f0:List Int} {f1:Int} {f2:Int} (h:au w0 W g f0 f1 f2) (x:Int):au w0 (W.setCell ⟨g,1,none⟩ (.int .i64 x)) g f0 x f2:=by
 obtain ⟨A0,c0,hb,hg,eT⟩:=h
 exact ⟨A0,c0,by simpa using wO hb 1 (.int .i64 x),hg,eT⟩
theorem ru {W:World} {g:Nat} {A0:Option Addr} {c0:Nat} {f0:List Int} {f1:Int} {f2:Int} (h:W.heap[g]? =some (.cells #[.slice A0 f0.length c0,.int .i64 f1,.int .u64 f2] 89 (0,0))):W.cell? ⟨g,2,none⟩=some (.int .u64 f2):=(iJ h 2).trans rfl
theorem au.QJ {w0 W:World} {g:Nat} {f0:List Int} {f1:Int} {f2:Int} (h:au w0 W g f0 f1 f2) (x:Int):au w0 (W.setCell ⟨g,2,none⟩ (.int .u64 x)) g f0 f1 x:=by
 obtain ⟨A0,c0,hb,hg,eT⟩:=h
 exact ⟨A0,c0,by simpa using wO hb 2 (.int .u64 x),hg,eT⟩
theorem au.d {p q:Prop} (h:Aside0 p) (hw:p→q:=by intro h_;repeat (first|(with_reducible first|exact h_|apply au.alloc|apply au.drewN|apply au.drew|apply au.QK|apply au.QJ)|exact h_)):q:=hw h.out
theorem au.df {p q r:Prop} (h:Aside0 p) (k:Aside0 r) (hw:p→r→q:=by intro h_ k_;repeat (first|(with_reducible first|exact h_|apply au.alloc|apply au.drewN|apply au.drew|apply au.QK|apply au.QJ|refine au.MB ?_ k_ _)|exact h_)):q:=hw h.out k.out
theorem au.b {p q r:Prop} (h:Aside0 p) (s:Aside0 r) (hw:p→r→q:=by intro h_ s_;repeat (first|(with_reducible first|exact h_|apply dA|apply dS|apply cJ|refine dX ?_ (au.ge s_))|exact h_)):q:=hw h.out s.out
theorem au.bg {p q r u:Prop} (h:Aside0 p) (s:Aside0 r) (k:Aside0 u) (hw:p→r→u→q:=by intro h_ s_ k_;repeat (first|(with_reducible first|exact h_|apply dA|apply dS|apply cJ|refine dX ?_ (au.ge s_)|refine dX ?_ k_)|exact h_)):q:=hw h.out s.out k.out
theorem au.new (w0 W:World) (A0:Option Addr) (c0:Nat) (f0:List Int) (f1:Int) (f2:Int) (hB:Below w0.heap.size w0 W) (eT:Kd.C (Kd.int .u8) w0 A0 f0.length f0):au w0 (W.alloc (.cells #[.slice A0 f0.length c0,.int .i64 f1,.int .u64 f2] 89)) W.heap.size f0 f1 f2:=⟨A0,c0,by simpa using heap_alloc_new W _,hB.size,eT⟩
def eY.f (bM:List Int) (ez:Int) (fC:Int):Option (Int×Int×Int):=if ez<(bM.length:Int) then (if 0≤ez then (if (wrap64 (ez+1))≤(bM.length:Int) then (some (wrap64 (rd bM ez),wrap64 (ez+1),IntKind.u64.wrap ((IntKind.u64.wrap ((IntKind.u64.wrap (fC*6364136223846793005))+(IntKind.u64.wrap (wrap64 (rd bM ez)))))+1442695040888963407))) else (some (wrap64 (Go.bits .and .u64 ((IntKind.u64.wrap ((IntKind.u64.wrap ((IntKind.u64.wrap (fC*6364136223846793005))+(IntKind.u64.wrap (wrap64 (rd bM ez)))))+1442695040888963407))/1099511627776) 255),wrap64 (ez+1),IntKind.u64.wrap ((IntKind.u64.wrap ((IntKind.u64.wrap (fC*6364136223846793005))+(IntKind.u64.wrap (wrap64 (rd bM ez)))))+1442695040888963407)))) else (none)) else (if (wrap64 (ez+1))≤(bM.length:Int) then (some (0,wrap64 (ez+1),IntKind.u64.wrap ((IntKind.u64.wrap ((IntKind.u64.wrap (fC*6364136223846793005))))+1442695040888963407))) else (some (wrap64 (Go.bits .and .u64 ((IntKind.u64.wrap ((IntKind.u64.wrap ((IntKind.u64.wrap (fC*6364136223846793005))))+1442695040888963407))/1099511627776) 255),wrap64 (ez+1),IntKind.u64.wrap ((IntKind.u64.wrap ((IntKind.u64.wrap (fC*6364136223846793005))))+1442695040888963407))))
theorem eY.calls (g:Nat) (bM:List Int) (ez:Int) (fC:Int) (r1:Int) (r2:Int) (r3:Int) (w0 w:World) (hI:au w0 w g bM ez fC) (hB:Below w0.heap.size w0 w) (h:eY.f bM ez fC=some (r1,r2,r3)):
  Calls Tryz.prog 108 #[.pointer (some ⟨g,0,none⟩)] w fun e w'=>e= .returned (.int .i64 r1)∧au w0 w' g bM r2 r3∧Below w0.heap.size w0 w'∧aN w w' g none:=by
 have dH:=ak hI
 have HK:=ak (aN.refl w g none)
 have HL:=ak hB.size
 clear hI
 have Iw:=ak hB.size
 have HB:=ak hB;clear hB
 have H:(if ez<(bM.length:Int) then (if 0≤ez then (if (wrap64 (ez+1))≤(bM.length:Int) then (some (wrap64 (rd bM ez),wrap64 (ez+1),IntKind.u64.wrap ((IntKind.u64.wrap ((IntKind.u64.wrap (fC*6364136223846793005))+(IntKind.u64.wrap (wrap64 (rd bM ez)))))+1442695040888963407))) else (some (wrap64 (Go.bits .and .u64 ((IntKind.u64.wrap ((IntKind.u64.wrap ((IntKind.u64.wrap (fC*6364136223846793005))+(IntKind.u64.wrap (wrap64 (rd bM ez)))))+1442695040888963407))/1099511627776) 255),wrap64 (ez+1),IntKind.u64.wrap ((IntKind.u64.wrap ((IntKind.u64.wrap (fC*6364136223846793005))+(IntKind.u64.wrap (wrap64 (rd bM ez)))))+1442695040888963407)))) else (none)) else (if (wrap64 (ez+1))≤(bM.length:Int) then (some (0,wrap64 (ez+1),IntKind.u64.wrap ((IntKind.u64.wrap ((IntKind.u64.wrap (fC*6364136223846793005))))+1442695040888963407))) else (some (wrap64 (Go.bits .and .u64 ((IntKind.u64.wrap ((IntKind.u64.wrap ((IntKind.u64.wrap (fC*6364136223846793005))))+1442695040888963407))/1099511627776) 255),wrap64 (ez+1),IntKind.u64.wrap ((IntKind.u64.wrap ((IntKind.u64.wrap (fC*6364136223846793005))))+1442695040888963407)))))=some (r1,r2,r3):=h
 clear h
 by_cases c2:ez<(bM.length:Int)
 ·rw [if_pos c2] at H
  have oQ:=decide_eq_true c2
  clear c2;replace H:=cZ H;obtain ⟨c3,H⟩:=H;have jh:=decide_eq_true c3;clear c3
  by_cases c4:(wrap64 (ez+1))≤(bM.length:Int)
  ·rw [if_pos c4] at H
   have iI:=decide_eq_true c4
   clear c4
   simp only [Option.some.injEq,Prod.mk.injEq] at H
   obtain ⟨rfl,rfl,rfl⟩:=H
   obtain ⟨aff,aeQ,Ke,adC,VA⟩:=dH.out
   have adU:=rz Ke
   have adT:=ry Ke
   have adS:=ru Ke
   have adI:=eD Ke 1
   have adH:=eD Ke 2
   clear Ke adC
   have EW:0≤(ez:Int):=da
   have EE:ez<(bM.length:Int):=da
   obtain ⟨Z4,UO,tH⟩:=Kd.jA VA ez EW EE
   cases UO
   replace tH:=kK HB.out tH
   replace EW:=eq_true EW;replace EE:=eq_true EE
   go_enter Tryz.func108,Tryz.ntmps108
   go_wp2
   repeat (go_quiet (fail);try go_wp2)
   go_ret
   exact ⟨jT,au.d dH,au.b HB dH,mo HK⟩
  ·rw [if_neg c4] at H
   have iI:=decide_eq_false c4
   clear c4
   simp only [Option.some.injEq,Prod.mk.injEq] at H
   obtain ⟨rfl,rfl,rfl⟩:=H
   obtain ⟨afe,aeP,Kb,adB,Vz⟩:=dH.out
   have adR:=rz Kb
   have adQ:=ry Kb
   have adP:=ru Kb
   have adG:=eD Kb 1
   have adF:=eD Kb 2
   clear Kb adB
   have EW:0≤(ez:Int):=da
   have EE:ez<(bM.length:Int):=da
   obtain ⟨Z4,UO,tH⟩:=Kd.jA Vz ez EW EE
   cases UO
   replace tH:=kK HB.out tH
   replace EW:=eq_true EW;replace EE:=eq_true EE
   go_enter Tryz.func108,Tryz.ntmps108
   go_wp2
   repeat (go_quiet (fail);try go_wp2)
   go_ret
   exact ⟨jT,au.d dH,au.b HB dH,mo HK⟩
 ·rw [if_neg c2] at H
  have oQ:=decide_eq_false c2
  clear c2
  by_cases c7:(wrap64 (ez+1))≤(bM.length:Int)
  ·rw [if_pos c7] at H
   have rF:=decide_eq_true c7
   clear c7
   simp only [Option.some.injEq,Prod.mk.injEq] at H
   obtain ⟨rfl,rfl,rfl⟩:=H
   obtain ⟨afd,aeO,Ka,adA,ae6⟩:=dH.out
   have Mt:=rz Ka
   have Ms:=ry Ka
   have Mr:=ru Ka
   have Mp:=eD Ka 1
   have Mo:=eD Ka 2
   clear Ka adA
   go_enter Tryz.func108,Tryz.ntmps108
   go_wp2
   repeat (go_quiet (fail);try go_wp2)
   go_ret
   exact ⟨jT,au.d dH,au.b HB dH,mo HK⟩
  ·rw [if_neg c7] at H
   have rF:=decide_eq_false c7
   clear c7
   simp only [Option.some.injEq,Prod.mk.injEq] at H
   obtain ⟨rfl,rfl,rfl⟩:=H
   obtain ⟨afc,aeN,J9,adz,ae5⟩:=dH.out
   have adO:=rz J9
   have adN:=ry J9
   have adM:=ru J9
   have adE:=eD J9 1
   have adD:=eD J9 2
   clear J9 adz
   go_enter Tryz.func108,Tryz.ntmps108
   go_wp2
   repeat (go_quiet (fail);try go_wp2)
   go_ret
   exact ⟨jT,au.d dH,au.b HB dH,mo HK⟩
def aJ.f (bM:List Int) (ez:Int) (fC:Int) (a1:Int):Option (Int×Int×Int):=if a1≤1 then (some (0,ez,fC)) else ((eY.f bM ez fC).bind fun oS=>(if a1>200 then ((eY.f bM oS.2.1 oS.2.2).bind fun yy=>(if a1=0 then (none) else (some (Int.tmod (wrap64 ((wrap64 (oS.1*256))+yy.1)) a1,yy.2.1,yy.2.2)))) else (if a1=0 then (none) else (some (Int.tmod oS.1 a1,oS.2.1,oS.2.2)))))
theorem aJ.calls (g:Nat) (bM:List Int) (ez:Int) (fC:Int) (a1:Int) (r1:Int) (r2:Int) (r3:Int) (w0 w:World) (hI:au w0 w g bM ez fC) (hB:Below w0.heap.size w0 w) (h:aJ.f bM ez fC a1=some (r1,r2,r3)):
  Calls Tryz.prog 78 #[.pointer (some ⟨g,0,none⟩),.int .i64 a1] w fun e w'=>e= .returned (.int .i64 r1)∧au w0 w' g bM r2 r3∧Below w0.heap.size w0 w'∧aN w w' g none:=by
 have dH:=ak hI
 have HK:=ak (aN.refl w g none)
 have HL:=ak hB.size
 clear hI
 have Iw:=ak hB.size
 have HB:=ak hB;clear hB
 have H:(if a1≤1 then (some (0,ez,fC)) else ((eY.f bM ez fC).bind fun oS=>(if a1>200 then ((eY.f bM oS.2.1 oS.2.2).bind fun yy=>(if a1=0 then (none) else (some (Int.tmod (wrap64 ((wrap64 (oS.1*256))+yy.1)) a1,yy.2.1,yy.2.2)))) else (if a1=0 then (none) else (some (Int.tmod oS.1 a1,oS.2.1,oS.2.2))))))=some (r1,r2,r3):=h
 clear h
 by_cases c3:a1≤1
 ·rw [if_pos c3] at H
  have jh:=decide_eq_true c3
  clear c3
  simp only [Option.some.injEq,Prod.mk.injEq] at H
  obtain ⟨rfl,rfl,rfl⟩:=H
  go_enter Tryz.func78,Tryz.ntmps78
  go_wp2
  go_ret
  exact ⟨jT,au.d dH,au.b HB dH,mo HK⟩
 ·rw [if_neg c3] at H
  have jh:=decide_eq_false c3
  clear c3;replace H:=bS H;obtain ⟨⟨Xy,SI,SH⟩,A4,H⟩:=H
  dsimp only at H
  by_cases c5:a1>200
  ·rw [if_pos c5] at H
   have jg:=H6 c5
   clear c5;replace H:=bS H;obtain ⟨⟨acy,acw,acv⟩,A6,H⟩:=H
   dsimp only at H
   by_cases c7:a1=0
   ·rw [if_pos c7] at H
    exact absurd H (by simp)
   ·rw [if_neg c7] at H
    have rF:=jV c7
    have P2:=jU c7
    simp only [Option.some.injEq,Prod.mk.injEq] at H
    obtain ⟨rfl,rfl,rfl⟩:=H
    go_enter Tryz.func78,Tryz.ntmps78
    go_wp2_with (first|((with_reducible refine eG (f:=108) rfl ?_);refine kS (some 9) rfl Tryz.func108 #[.pointer (some ⟨g,0,none⟩)] rfl ?_;(with_reducible refine (eY.calls g bM ez fC Xy SI SH w0 _ ?side1 ?side2 A4.out).mono ?_);(case side1=>exact au.d dH);(case side2=>exact au.b HB dH);rintro e w8 ⟨rfl,hi,hb,hk⟩;refine ⟨_,rfl,?_⟩;replace HK:=ak (aN.trans (mo HK) hk (.inl rfl));replace HB:=ak (hb);replace dH:=ak (hi);(try clear hb);(try clear hk);(try clear hi))|((with_reducible refine eG (f:=108) rfl ?_);refine kS (some 15) rfl Tryz.func108 #[.pointer (some ⟨g,0,none⟩)] rfl ?_;(with_reducible refine (eY.calls g bM SI SH acy acw acv w0 _ ?side1 ?side2 A6.out).mono ?_);(case side1=>exact au.d dH);(case side2=>exact au.b HB dH);rintro e w9 ⟨rfl,hi,hb,hk⟩;refine ⟨_,rfl,?_⟩;replace HK:=ak (aN.trans (mo HK) hk (.inl rfl));replace HB:=ak (hb);replace dH:=ak (hi);(try clear hb);(try clear hk);(try clear hi)))
    go_ret
    exact ⟨jT,au.d dH,au.b HB dH,mo HK⟩
  ·rw [if_neg c5] at H
   have jg:=H7 c5
   clear c5
   by_cases gu:a1=0
   ·rw [if_pos gu] at H
    exact absurd H (by simp)
   ·rw [if_neg gu] at H
    have kC:=jV gu
    have Il:=jU gu
    simp only [Option.some.injEq,Prod.mk.injEq] at H
    obtain ⟨rfl,rfl,rfl⟩:=H
    go_enter Tryz.func78,Tryz.ntmps78
    go_wp2_with (first|(go_at_call 108;(with_reducible refine (eY.calls g bM ez fC Xy SI SH w0 _ ?side1 ?side2 A4.out).mono ?_);(case side1=>exact au.d dH);(case side2=>exact au.b HB dH);rintro e w11 ⟨rfl,hi,hb,hk⟩;replace HK:=ak (aN.trans (mo HK) hk (.inl rfl));replace HB:=ak (hb);replace dH:=ak (hi);(try clear hb);(try clear hk);(try clear hi)))
    go_ret
    exact ⟨jT,au.d dH,au.b HB dH,mo HK⟩
end Go.Proofs.YtihekdlcfohkkaaGreatDoor.QFnNet
