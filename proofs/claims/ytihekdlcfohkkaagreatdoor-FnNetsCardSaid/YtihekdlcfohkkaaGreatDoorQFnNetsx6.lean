-- printed by this session's own program (wip/tools/pp.py: the kit's print.py with changes); Lean checks it
import Derived.Test.YtihekdlcfohkkaaGreatDoorQFnNetsx0
import Derived.Test.YtihekdlcfohkkaaGreatDoorQFnNetsx1
import Derived.Test.YtihekdlcfohkkaaGreatDoorQFnNetsx2
import Derived.Test.YtihekdlcfohkkaaGreatDoorQFnNetsx3
import Derived.Test.YtihekdlcfohkkaaGreatDoorQFnNetsx4
import Derived.Test.YtihekdlcfohkkaaGreatDoorQFnNetsx5
namespace Go.Proofs.YtihekdlcfohkkaaGreatDoor.QFnNets
open Go.RowKit Go.Proofs.YtihekdlcfohkkaaGreatDoorW.PrintWords Go.Proofs.YtihekdlcfohkkaaGreatDoorW.PrintLast Go.Proofs.YtihekdlcfohkkaaGreatDoorW.PrintMore
attribute [local go_sem] max2_int min2_int max_two min_two max_three min_three max_four min_four strLss strGtr strLeq strGeq
set_option linter.unusedVariables false
set_option linter.unusedSimpArgs false
set_option maxHeartbeats 16000000
set_option maxRecDepth 100000
def aV.T0:Bool×List (List Nat×List Nat):=(true,[([],[]),([0],[0]),([1],[1]),([2],[2]),([],[]),([3,4],[3,4]),([5],[5]),([],[]),([],[]),([8],[8]),([9],[9]),([10],[10]),([11],[11]),([12],[12]),([7,13],[7,13]),([6,0,1,2,3,4,5,6],[6]),([14,15,0,1,2,3,4,5,6,7,8,9,10,11,12,13,14,15],[14])])
def aV.B0:List Nat:=[0,1,3,7,0,31,63,0,0,256,768,1792,3840,7936,16256,127,65535]
theorem aV.aeV:gz .any (opsOf Tryz.f92 0)=aV.T0:=by kernel_rfl
theorem aV.acs:dZ aV.T0.2 aV.B0=true:=by kernel_rfl
def aV.Up:Bool×List (List Nat×List Nat):=(true,[([],[]),([0],[0]),([1],[1]),([2],[2]),([],[]),([],[]),([5],[5]),([6],[6]),([7],[7]),([],[]),([8,9],[8,9]),([10],[10]),([],[]),([12],[12]),([13],[13]),([11,14],[11,14]),([3,4,0,1,2,3,4,5,6,7,8,9,10,11,12,13,14,15],[3,4]),([16,15,15,0,1,2,3,4,5,6,7,8,9,10,11,12,13,14,15],[15,16])])
def aV.B11:List Nat:=[0,1,3,7,0,0,32,96,224,0,992,2016,0,4096,12288,32736,65535,131071]
theorem aV.Mw:gz .any (opsOf Tryz.f92 11)=aV.Up:=by kernel_rfl
theorem aV.Ie:dZ aV.Up.2 aV.B11=true:=by kernel_rfl
def aV.l0 (k:Nat) (i:Int) (z:Bool):List ByteArray→Nt→Option Nt
  |[],n=>some n
  |s::r,n=>if i<(n.ks.length:Int) then (dY.f k (rd n.ks i) s).bind fun (x,y,b,o)=>if o=false then aV.l0 k i z r n else if z=false then (if x=1 then (cv.f k n (wrap64 (i+1)) y).bind fun n'=>aV.l0 k i z r n' else aV.l0 k i z r n) else (bk.f (wrap64 (x-2)) 0 3).bind fun c=>if c=false then aV.l0 k i z r n else if b=(⟨#[]⟩:ByteArray) then aV.l0 k i z r n else if 0≤wrap64 (x-2)∧wrap64 (x-2)<(n.ib.length:Int) then (if (n.ib.getD (wrap64 (x-2)).toNat []).length<60 then aV.l0 k i z r ⟨n.ks,n.ps,n.ss,n.ib.set (wrap64 (x-2)).toNat (n.ib.getD (wrap64 (x-2)).toNat []++[b]),n.sd⟩ else aV.l0 k i z r n) else none else none
def aV.f (k:Nat) (n:Nt) (i:Int):Option Nt:=if 0≤i∧i<(n.ps.length:Int)∧i<(n.ks.length:Int)∧0<n.ib.length∧(n.ps.getD i.toNat []).length≤1048576 then aV.l0 k i (i==wrap64 ((n.ks.length:Int)-1)) (n.ps.getD i.toNat []) ⟨n.ks,n.ps.set i.toNat [],n.ss,n.ib,n.sd⟩ else none
theorem aV.calls {k:Nat} {v0 v1 v2 v3:Value} {n m:Nt} {i:Int} {L:List SA} {w0 w:World} {b0:Nat} (hs:Sep w0 w (bA b0 #[v0,v1,v2,v3,.int .i64 n.sd] 27::eO v0 v1 v2 v3 n++L)) (h:aV.f k n i=some m):
    Calls Tryz.prog 92 #[.pointer (some ⟨b0,0,none⟩),.int .i64 i] w fun e w'=>e= .returned (.tuple #[])∧Sep w0 w' (bA b0 #[v0,v1,v2,v3,.int .i64 n.sd] 27::eO v0 v1 v2 v3 m++L):=by
 have lg:=Tryz.underlying27
 obtain ⟨ks,ps,ss,ib,sd⟩:=n
 have HS:Sep w0 w (bA b0 #[v0,v1,v2,v3,.int .i64 sd] 27::rA KI 3 v0 ks::sA KT 62 v1 ps::sA KT 62 v2 ss::sA KT 62 v3 ib::L):=hs
 clear hs
 unfold aV.f at h
 dsimp only at h⊢
 replace h:=dy h;obtain ⟨⟨i0,i1,i2,i3,i4⟩,h⟩:=h
 obtain ⟨A2,c2,rfl⟩:=HS.gY 3
 obtain ⟨g0,q0,rfl⟩:=HS.uN 1 (hx:=by omega)
 obtain ⟨g1,q1,rfl⟩:=HS.addr 2 (hx:=by omega)
 obtain ⟨g3,q3,rfl⟩:=HS.addr 4 (hx:=by omega)
 have p0:(0≤i)=True:=eq_true i0
 have p1:(i<(ps.length:Int))=True:=eq_true i1
 have p2:(i<(ks.length:Int))=True:=eq_true i2
 obtain ⟨AP,qP,HS,-,-⟩:=HS.me.yS i i0 i1
 generalize ps.getD i.toNat []=P at HS h i4
 have I4:=ak i4;have H':=ak h;clear i4 h
 have hz_:∃z,(i==wrap64 ((ks.length:Int)-1))=z:=⟨_,rfl⟩
 obtain ⟨z,hz⟩:=hz_
 rw [hz] at H'
 go_enter Tryz.func92,Tryz.ntmps92
 go_upto_region 0 with fail
 have cP:=an (HS.aI 2)
 obtain ⟨m7,pZ⟩:=HS.hole i0 i1
 refine dV (n:=17) (S:=fun w'=>w'.cell? ⟨b0,0,none⟩=some (.slice (some ⟨g0,0,none⟩) ks.length q0)∧w'.cell? ⟨b0,1,none⟩=some (.slice (some ⟨g1,0,none⟩) ps.length q1)∧w'.cell? ⟨b0,2,none⟩=some (.slice A2 ss.length c2)∧w'.cell? ⟨b0,3,none⟩=some (.slice (some ⟨g3,0,none⟩) ib.length q3)∧w'.cell? ⟨b0,4,none⟩=some (.int .i64 sd)∧w'.cell? ⟨g1,i.toNat,none⟩=some (.slice AP P.length qP)) (ds:=[]) (bl 17 0) (by kernel_rfl) rfl rfl ⟨cP.1,cP.2.1,cP.2.2.1,cP.2.2.2.1,cP.2.2.2.2.1,m7⟩ (fun ah=> ?_);refine bZ aV.aeV aV.acs (fun aA ef=> ?_)
 clear cP m7 pZ
 replace HS:=HS.drew
 generalize World.drew _=tD at HS ah⊢
 refine ag 0 (some 11) 17 1 aA ?_
 refine ag 1 (some 12) 17 3 aA ?_
 refine ag 2 (some 13) 17 7 aA ?_
 refine cg 3 (some 14) 17 15 aA ef ah ?_ (hy:=by rintro w' ⟨s0,s1,s2,s3,s4,s5⟩;go_simp;with_reducible rfl)
 refine ag 4 (some 15) 17 31 aA ?_
 refine ag 5 (some 16) 17 63 aA ?_
 refine cg 6 (some 17) 17 127 aA ef ah ?_ (hy:=by rintro w' ⟨s0,s1,s2,s3,s4,s5⟩;go_simp;with_reducible rfl)
 refine ag 7 (some 18) 17 255 aA ?_
 refine ag 8 (some 19) 17 511 aA ?_
 refine ag 9 (some 20) 17 1023 aA ?_
 refine ag 10 (some 21) 17 2047 aA ?_
 refine cg 11 (some 22) 17 4095 aA ef ah ?_ (hy:=by rintro w' ⟨s0,s1,s2,s3,s4,s5⟩;go_simp;with_reducible rfl)
 refine ag 12 (some 23) 17 8191 aA ?_
 refine ag 13 (some 24) 17 16383 aA ?_
 refine ag 14 (some 25) 17 32767 aA ?_
 refine ag 15 (some 4) 17 65535 aA ?_
 refine ag 16 (some 5) 17 131071 aA ?_
 refine eZ (cV aA.out (by kernel_rfl)) ?_
 clear aA ef ah
 have cP:=an (HS.aI 2)
 obtain ⟨m7,pZ⟩:=HS.hole i0 i1
 go_upto_region 2 with fail
 clear cP m7 pZ
 replace HS:=HS.C2 i0 i1 (.slice none 0 0) rfl
 obtain ⟨rC,gU,gX⟩:=HS.gen
 rw [gU]
 clear HS gU
 have HS:=gX
 clear gX
 replace HS:=HS.tg Kd.string 9
 replace HS:=HS.mE.back
 replace HS:=HS.mE.jR.jR.vm.jR.jR
 try go_wp2
 go_loopg [34] P.length (fun kq v34 w'=>∃(j:Nat) (sD sy pe:List (List ByteArray)),v34= .int .i64 (j:Int)∧Aside0 (aV.l0 k i z (P.drop j) ⟨ks,sD,sy,pe,sd⟩=some m)∧j≤P.length∧P.length-j≤kq∧pe.length=ib.length∧Sep w0 w' (bA b0 #[.slice (some ⟨g0,0,none⟩) ks.length q0,.slice (some ⟨g1,0,none⟩) ps.length q1,.slice A2 ss.length c2,.slice (some ⟨g3,0,none⟩) ib.length q3,.int .i64 sd] 27::rA KI 3 (.slice (some ⟨g0,0,none⟩) ks.length q0) ks::sA KT 62 (.slice (some ⟨g1,0,none⟩) ps.length q1) sD::sA KT 62 (.slice A2 ss.length c2) sy::sA KT 62 (.slice (some ⟨g3,0,none⟩) ib.length q3) pe::rA Kd.string 9 (.slice AP P.length qP) P::L))
 case atStart=>exact ⟨0,_,_,_,rfl,H',Nat.zero_le _,Nat.le_refl _,rfl,HS⟩
 case round=>
  clear HS H'
  obtain ⟨j,sD,sy,pe,rfl,HA,j1,j2,ER,HS⟩:=hrel
  have h:=HA.out;clear HA
  by_cases hj:j<P.length
  ·obtain ⟨s,hsj⟩:∃s,aQ ByteArray.empty P (j:Int)=s:=⟨_,rfl⟩
   have hd:P.drop j=s::P.drop (j+1):=by rw [←hsj,List.drop_eq_getElem_cons hj];simp [aQ,List.getD_eq_getElem?_getD,List.getElem?_eq_getElem hj]
   rw [hd] at h
   simp only [aV.l0] at h
   rw [if_pos i2] at h
   replace h:=bS h;obtain ⟨⟨x,y,b,o⟩,T1,h⟩:=h
   obtain ⟨gP,qP',e⟩:=HS.uN 5 (hx:=by omega)
   obtain rfl:AP=some ⟨gP,0,none⟩:=by injection e
   clear e
   have Li:decide ((j:Int)<(P.length:Int))=true:=decide_eq_true (by omega)
   have pj0:(0≤(j:Int))=True:=eq_true (by omega)
   have pj1:((j:Int)<(P.length:Int))=True:=eq_true (by omega)
   have Wq:=HS.cellS 5 (n:=P.length) (j:Int) (by omega) (by omega)
   rw [hsj] at Wq
   rw [Int.toNat_natCast] at Wq
   have Wz:=HS.Fa 1 i i0 i2
   have cP:=an (HS.aI 0)
   go_upto_region 6 with (first|(go_at_call 115;refine (dY.calls k _ _ x y b o _ T1.out).mono ?_;rintro e W_ ⟨rfl,aW⟩;replace HS:=HS.below aW;clear aW Wq Wz;clear cP;have cP:=an (HS.aI 0);have Wz:=HS.Fa 1 i i0 i2)|((with_reducible refine av (N:=8) rfl ?_);refine bN 8 #[.int .i64 0,.string (⟨#[]⟩:ByteArray),.string (⟨#[]⟩:ByteArray)] 105 ?_;intro b8 bK W_ bD aW;replace HS:=HS.box bK bD aW;clear bK bD aW;clear cP;have kZ:=ck (HS.aI 0);clear Wz;clear kZ;have cP:=an (HS.aI 1);have kZ:=ck (HS.aI 0)))
   clear cP kZ
   obtain ⟨rC,gU,gX⟩:=(((HS.cq 0 0 (.int .i64 x) #[.int .i64 x,.string (⟨#[]⟩:ByteArray),.string (⟨#[]⟩:ByteArray)]).cq 0 1 (.string y) #[.int .i64 x,.string y,.string (⟨#[]⟩:ByteArray)]).cq 0 2 (.string b) #[.int .i64 x,.string y,.string b]).gen
   rw [gU]
   clear HS gU
   have HS:=gX
   clear gX
   have cP:=an (HS.aI 1)
   have kZ:=ck (HS.aI 0)
   go_upto_region 7 with fail
   generalize wrap64 (x-2)=u at h⊢
   cases o with
   |false=>
    rw [if_pos rfl] at h
    go_wp2
    replace HS:=HS.tail
    go_roundg (P.length-(j+1))
    case measure=>omega
    case rel=>exact ⟨j+1,sD,sy,pe,gZ hj I4.out,⟨h⟩,hj,Nat.le_refl _,ER,HS⟩
   |true=>
    rw [if_neg (by decide)] at h
    cases z with
    |false=>
     rw [if_pos rfl] at h
     by_cases hx:x=1
     ·rw [if_pos hx] at h
      have Wh:(x==1)=true:=beq_iff_eq.2 hx
      clear hx
      replace h:=bS h;obtain ⟨⟨Ny,KR,Ky,NP,KJ⟩,T3,h⟩:=h
      obtain ⟨e1,e2,e3⟩:=cv.keeps T3.out
      dsimp only at e1 e2 e3
      replace e1:=e1.symm;replace e2:=e2.symm;replace e3:=e3.symm
      subst e1 e2 e3
      go_wp2_with (first|(go_at_call 98;have cE:=cv.calls (n:=⟨ks,sD,sy,pe,sd⟩) (HS.jR.jR.jR.jR.jR) T3.out;refine cE.mono ?_;clear cE;rintro e W_ ⟨rfl,fX⟩;clear HS;have HS:=fX;clear fX;dsimp only [eO,List.cons_append,List.nil_append] at HS;clear cP kZ;have cP:=an (HS.aI 0);have kZ:=ck (HS.aI 5)))
      replace HS:=HS.jR.tail
      go_roundg (P.length-(j+1))
      case measure=>omega
      case rel=>exact ⟨j+1,KR,Ky,pe,gZ hj I4.out,⟨h⟩,hj,Nat.le_refl _,ER,HS⟩
     ·rw [if_neg hx] at h
      have Wh:(x==1)=false:=beq_eq_false_iff_ne.2 hx
      clear hx
      go_wp2
      replace HS:=HS.tail
      go_roundg (P.length-(j+1))
      case measure=>omega
      case rel=>exact ⟨j+1,sD,sy,pe,gZ hj I4.out,⟨h⟩,hj,Nat.le_refl _,ER,HS⟩
    |true=>
     rw [if_neg (by decide)] at h
     replace h:=bS h;obtain ⟨c,T2,h⟩:=h
     rcases Bool.eq_false_or_eq_true (x==1) with Wh|Wh
     all_goals
      cases c with
      |false=>
       rw [if_pos rfl] at h
       go_wp2_with (first|(go_at_call 70;refine (bk.calls _ _ _ _ _ T2.out).mono ?_;rintro e W_ ⟨rfl,iC,rfl⟩;replace HS:=HS.drewN iC;generalize World.drewN _ iC=W_ at HS⊢;clear cP kZ;have cP:=an (HS.aI 1);have kZ:=ck (HS.aI 0)))
       replace HS:=HS.tail
       go_roundg (P.length-(j+1))
       case measure=>omega
       case rel=>exact ⟨j+1,sD,sy,pe,gZ hj I4.out,⟨h⟩,hj,Nat.le_refl _,ER,HS⟩
      |true=>
       rw [if_neg (by decide)] at h
       by_cases hb:b=(⟨#[]⟩:ByteArray)
       ·rw [if_pos hb] at h
        subst hb
        go_wp2_with (first|(go_at_call 70;refine (bk.calls _ _ _ _ _ T2.out).mono ?_;rintro e W_ ⟨rfl,iC,rfl⟩;replace HS:=HS.drewN iC;generalize World.drewN _ iC=W_ at HS⊢;clear cP kZ;have cP:=an (HS.aI 1);have kZ:=ck (HS.aI 0)))
        replace HS:=HS.tail
        go_roundg (P.length-(j+1))
        case measure=>omega
        case rel=>exact ⟨j+1,sD,sy,pe,gZ hj I4.out,⟨h⟩,hj,Nat.le_refl _,ER,HS⟩
       ·rw [if_neg hb] at h
        have hbb:=oe hb
        clear hb
        replace h:=dy h;obtain ⟨⟨u0,u1⟩,h⟩:=h
        rw [ER] at u1
        have pu0:(0≤u)=True:=eq_true u0
        have pu1:(u<(ib.length:Int))=True:=eq_true u1
        obtain ⟨AI,qI,HS,-,-⟩:=HS.jR.yS u u0 u1
        generalize hI:pe.getD u.toNat []=I at HS h
        have GI:=ak hI;clear hI
        clear cP kZ
        have cP:=an (HS.aI 3)
        have kZ:=ck (HS.aI 2)
        obtain ⟨ga,iF⟩:=HS.hole u0 u1
        by_cases hn:I.length<60
        ·rw [if_pos hn] at h
         have hnb:decide ((I.length:Int)<60)=true:=decide_eq_true (by omega)
         generalize hIb:I++[b]=I' at h
         go_upto_region 11 with (first|(go_at_call 70;refine (bk.calls _ _ _ _ _ T2.out).mono ?_;rintro e W_ ⟨rfl,iC,rfl⟩;replace HS:=HS.drewN iC;generalize World.drewN _ iC=W_ at HS⊢;clear cP kZ ga iF;have cP:=an (HS.aI 3);have kZ:=ck (HS.aI 2);obtain ⟨ga,iF⟩:=HS.hole u0 u1))
         clear cP kZ ga iF
         have cP:=an (HS.aI 3)
         have kZ:=ck (HS.aI 2)
         obtain ⟨ga,iF⟩:=HS.hole u0 u1
         refine dV (n:=18) (S:=fun w'=>w'.cell? ⟨b0,0,none⟩=some (.slice (some ⟨g0,0,none⟩) ks.length q0)∧w'.cell? ⟨b0,1,none⟩=some (.slice (some ⟨g1,0,none⟩) ps.length q1)∧w'.cell? ⟨b0,2,none⟩=some (.slice A2 ss.length c2)∧w'.cell? ⟨b0,3,none⟩=some (.slice (some ⟨g3,0,none⟩) ib.length q3)∧w'.cell? ⟨b0,4,none⟩=some (.int .i64 sd)∧w'.cell? ⟨b8,0,none⟩=some (.int .i64 x)∧w'.cell? ⟨b8,1,none⟩=some (.string y)∧w'.cell? ⟨b8,2,none⟩=some (.string b)∧w'.cell? ⟨g3,u.toNat,none⟩=some (.slice AI I.length qI)) (ds:=[17]) (bl 18 0) (by kernel_rfl) rfl rfl ⟨cP.1,cP.2.1,cP.2.2.1,cP.2.2.2.1,cP.2.2.2.2.1,kZ.1,kZ.2.1,kZ.2.2.1,ga⟩ (fun ah=> ?_);refine bZ aV.Mw aV.Ie (fun aA ef=> ?_)
         clear cP kZ ga iF
         replace HS:=HS.drew
         generalize World.drew _=tD at HS ah⊢
         refine ag 0 (some 92) 18 1 aA ?_
         refine ag 1 (some 93) 18 3 aA ?_
         refine ag 2 (some 94) 18 7 aA ?_
         refine cg 3 (some 95) 18 15 aA ef ah ?_ (hy:=by rintro w' ⟨s0,s1,s2,s3,s4,s5,s6,s7,s8⟩;go_simp;with_reducible rfl)
         refine ag 4 (some 96) 18 31 aA ?_
         refine ag 5 (some 97) 18 63 aA ?_
         refine ag 6 (some 98) 18 127 aA ?_
         refine ag 7 (some 99) 18 255 aA ?_
         refine cg 8 (some 100) 18 511 aA ef ah ?_ (hy:=by rintro w' ⟨s0,s1,s2,s3,s4,s5,s6,s7,s8⟩;go_simp;with_reducible rfl)
         refine ag 9 (some 101) 18 1023 aA ?_
         refine ag 10 (some 102) 18 2047 aA ?_
         refine cg 11 (some 103) 18 4095 aA ef ah ?_ (hy:=by rintro w' ⟨s0,s1,s2,s3,s4,s5,s6,s7,s8⟩;go_simp;with_reducible rfl)
         refine ag 12 (some 104) 18 8191 aA ?_
         refine cg 13 (some 105) 18 16383 aA ef ah ?_ (hy:=by rintro w' ⟨s0,s1,s2,s3,s4,s5,s6,s7,s8⟩;go_simp;with_reducible rfl)
         refine fJ 14 (some 106) 18 32767 aA (fun K hK=> ?_)
         clear ah
         refine Kd.iJ Kd.string _ 9 ?hg (N:=106) ?hd (xs:=([b]:List ByteArray)) (inner:=[.string b]) (ok:=fun _=>True) (okp:=fun _=>True) ?hr ?hp (fun _ hk=>hk) trivial (Below.refl _ _) (Nat.le_refl _) (by simp) ?_
         (case hd=>rfl)
         (case hg=>rfl)
         (case hr=>first|(go_simp;done)|(go_simp;rfl))
         (case hp=>exact bT.one (show Kd.M Kd.string _ _ _ b [.string b] from rfl) (bT.none _ _))
         intro vU W_ bD aW _ _
         replace HS:=HS.new (A:=rA Kd.string 9 vU [b]) aW bD
         clear bD aW
         obtain ⟨AU,qU,rfl⟩:=HS.lz 0
         have cP:=an (HS.aI 4)
         have kZ:=ck (HS.aI 3)
         obtain ⟨ga,iF⟩:=HS.mE.hole u0 u1
         refine hK.out _ _ ⟨cP.1,cP.2.1,cP.2.2.1,cP.2.2.2.1,cP.2.2.2.2.1,kZ.1,kZ.2.1,kZ.2.2.1,ga⟩ (fun ah=> ?_)
         clear hK K cP kZ ga iF
         refine cM (a':= ?_) ?_ ?_
         rotate_left
         ·show Act.put _ (some 106) _=_
          simp only [Act.put,List.setIfInBounds_toArray,List.set_cons_zero,List.set_cons_succ,bW,cA]
          rfl
         refine fJ 15 (some 107) 18 65535 aA (fun K hK=> ?_)
         clear ah
         have HU:=(HS.mA 0).2.2
         replace HS:=HS.me
         refine Sep.append Kd.string (by rfl) (.tmp 103) (.tmp 106) 62 9 (.string ⟨#[]⟩) 16 rfl Tryz.underlying62 fu rfl (by decide) (by omega) (.slice AI I.length qI) I [b] AU 1 qU rfl rfl HS HU (fun _ _ _ _ h=>h) (by omega) ?_
         clear HS HU
         intro vI W_ HS
         rw [hIb] at HS
         obtain ⟨Y6,VD,rfl⟩:=HS.lz 0
         have cP:=an (HS.aI 4)
         have kZ:=ck (HS.aI 3)
         obtain ⟨ga,iF⟩:=HS.me.hole u0 u1
         refine hK.out _ _ ⟨cP.1,cP.2.1,cP.2.2.1,cP.2.2.2.1,cP.2.2.2.2.1,kZ.1,kZ.2.1,kZ.2.2.1,ga⟩ (fun ah=> ?_)
         clear hK K cP kZ ga iF
         refine cM (a':= ?_) ?_ ?_
         rotate_left
         ·show Act.put _ (some 107) _=_
          simp only [Act.put,List.setIfInBounds_toArray,List.set_cons_zero,List.set_cons_succ,bW,cA]
          rfl
         refine ag 16 (some 108) 18 131071 aA ?_
         refine lH (i:=17) (N:=none) (bl 18 262143) rfl rfl (jd aA.out (by kernel_rfl)) (by decide) (fun K hK=> ?_)
         clear ah
         obtain ⟨ga,iF⟩:=HS.me.hole u0 u1
         refine jV (w1:= ?_) (by rfl) rfl ?_ ?_
         rotate_left
         ·go_simp
          rfl
         clear ga iF
         replace HS:=HS.me.C2 u0 u1 (.slice Y6 I'.length VD) rfl
         refine hK.out _ _ ?_
         clear hK K
         refine eZ (cV aA.out (by kernel_rfl)) ?_
         clear aA ef
         obtain ⟨rC,gU,gX⟩:=HS.gen
         rw [gU]
         clear HS gU
         have HS:=gX
         clear gX
         replace HS:=HS.back
         have WB:(pe.set u.toNat I').length=ib.length:=by rw [List.length_set];exact ER
         go_wp2
         replace HS:=HS.me.tail
         replace HS:=HS.mE.tail
         go_roundg (P.length-(j+1))
         case measure=>omega
         case rel=>exact ⟨j+1,sD,sy,pe.set u.toNat I',gZ hj I4.out,⟨h⟩,hj,Nat.le_refl _,WB,HS.jR.mE.jR.jR.jR.jR⟩
        ·rw [if_neg hn] at h
         have hnb:decide ((I.length:Int)<60)=false:=decide_eq_false (by omega)
         go_wp2_with (first|(go_at_call 70;refine (bk.calls _ _ _ _ _ T2.out).mono ?_;rintro e W_ ⟨rfl,iC,rfl⟩;replace HS:=HS.drewN iC;generalize World.drewN _ iC=W_ at HS⊢;clear cP kZ ga iF;have cP:=an (HS.aI 3);have kZ:=ck (HS.aI 2);obtain ⟨ga,iF⟩:=HS.hole u0 u1))
         replace HS:=HS.sP GI
         replace HS:=HS.mE.tail
         go_roundg (P.length-(j+1))
         case measure=>omega
         case rel=>exact ⟨j+1,sD,sy,pe,gZ hj I4.out,⟨h⟩,hj,Nat.le_refl _,ER,HS.jR.mE.jR.jR.jR.jR⟩
  ·have hd:P.drop j=[]:=List.drop_eq_nil_of_le (by omega)
   rw [hd] at h
   simp only [aV.l0] at h
   obtain rfl:=Option.some.inj h
   have Li:decide ((j:Int)<(P.length:Int))=false:=decide_eq_false (by omega)
   have cP:=an (HS.aI 0)
   go_wp2
   refine bodyPost_end (results_none rfl _ _ _) rfl ?_
   replace HS:=HS.jR.tail
   exact ⟨rfl,HS⟩
theorem aV.oh {k:Nat} {i:Int} {z:Bool} :∀ {P:List ByteArray} {n m:Nt},aV.l0 k i z P n=some m→m.ks=n.ks∧m.sd=n.sd
 |[],n,m,h=>by
  simp only [aV.l0] at h
  obtain rfl:=Option.some.inj h
  exact ⟨rfl,rfl⟩
 |s::r,n,m,h=>by
  have ih:∀n':Nt,aV.l0 k i z r n'=some m→m.ks=n'.ks∧m.sd=n'.sd:=fun n' h'=>aV.oh h'
  simp only [aV.l0] at h
  replace h:=dy h;obtain ⟨-,h⟩:=h
  replace h:=bS h;obtain ⟨⟨x,y,b,o⟩,-,h⟩:=h
  dsimp only at h
  repeat' split at h
  all_goals
   first
   |exact ih _ h
   |(replace h:=bS h;obtain ⟨n',T,h⟩:=h;obtain ⟨e1,e2,e3⟩:=cv.keeps T.out;have:=ih _ h;exact ⟨this.1.trans e1,this.2.trans e3⟩)
   |(replace h:=bS h;obtain ⟨c,-,h⟩:=h;(repeat' split at h);(all_goals first|exact ih _ h|(have h2:=ih _ h;exact h2)|cases h))
theorem aV.keeps {k:Nat} {n m:Nt} {i:Int} (h:aV.f k n i=some m):m.ks=n.ks∧m.sd=n.sd:=by
 unfold aV.f at h
 replace h:=dy h;obtain ⟨-,h⟩:=h
 exact aV.oh (n:=⟨n.ks,n.ps.set i.toNat [],n.ss,n.ib,n.sd⟩) h
def ct.l0 (k:Nat):Nat→Nat→Nt→Option Nt
 |0,_,n=>some n
 |d+1,j,n=>(aV.f k n (j:Int)).bind fun n'=>ct.l0 k d (j+1) n'
def ct.f (k:Nat) (n:Nt):Option Nt:=if n.ks.length≤1048576 then ct.l0 k n.ks.length 0 n else none
theorem ct.oh {k:Nat} :∀ {d j:Nat} {n m:Nt},ct.l0 k d j n=some m→m.ks=n.ks∧m.sd=n.sd
 |0,j,n,m,h=>by
  simp only [ct.l0] at h
  obtain rfl:=Option.some.inj h
  exact ⟨rfl,rfl⟩
 |d+1,j,n,m,h=>by
  simp only [ct.l0] at h
  replace h:=bS h;obtain ⟨n',T,h⟩:=h
  have e:=aV.keeps T.out
  have e':=ct.oh h
  exact ⟨e'.1.trans e.1,e'.2.trans e.2⟩
theorem ct.keeps {k:Nat} {n m:Nt} (h:ct.f k n=some m):m.ks=n.ks∧m.sd=n.sd:=ct.oh (dy h).2
theorem ct.calls {k:Nat} {v0 v1 v2 v3:Value} {n m:Nt} {L:List SA} {w0 w:World} {b0:Nat} (hs:Sep w0 w (bA b0 #[v0,v1,v2,v3,.int .i64 n.sd] 27::eO v0 v1 v2 v3 n++L)) (h:ct.f k n=some m):
    Calls Tryz.prog 56 #[.pointer (some ⟨b0,0,none⟩)] w fun e w'=>e= .returned (.tuple #[])∧Sep w0 w' (bA b0 #[v0,v1,v2,v3,.int .i64 n.sd] 27::eO v0 v1 v2 v3 m++L):=by
 have lg:=Tryz.underlying27
 obtain ⟨ks,ps,ss,ib,sd⟩:=n
 have HS:Sep w0 w (bA b0 #[v0,v1,v2,v3,.int .i64 sd] 27::rA KI 3 v0 ks::sA KT 62 v1 ps::sA KT 62 v2 ss::sA KT 62 v3 ib::L):=hs
 clear hs
 unfold ct.f at h
 dsimp only at h⊢
 obtain ⟨A0,c0,rfl⟩:=HS.lz 1
 obtain ⟨A1,c1,rfl⟩:=HS.gY 2
 obtain ⟨A2,c2,rfl⟩:=HS.gY 3
 obtain ⟨A3,c3,rfl⟩:=HS.gY 4
 obtain ⟨KL',h⟩:=dy h
 have KL:=ak KL';clear KL'
 have H':=ak h;clear h
 go_enter Tryz.func56,Tryz.ntmps56
 have cP:=an (HS.aI 0)
 go_wp2
 clear cP
 go_loopg [8] ks.length (fun kq v8 w'=>∃(j:Nat) (sD sy pe:List (List ByteArray)),v8= .int .i64 (j:Int)∧Aside0 (ct.l0 k (ks.length-j) j ⟨ks,sD,sy,pe,sd⟩=some m)∧j≤ks.length∧ks.length-j≤kq∧Sep w0 w' (bA b0 #[.slice A0 ks.length c0,.slice A1 ps.length c1,.slice A2 ss.length c2,.slice A3 ib.length c3,.int .i64 sd] 27::rA KI 3 (.slice A0 ks.length c0) ks::sA KT 62 (.slice A1 ps.length c1) sD::sA KT 62 (.slice A2 ss.length c2) sy::sA KT 62 (.slice A3 ib.length c3) pe::L))
 case atStart=>exact ⟨0,_,_,_,rfl,H',Nat.zero_le _,Nat.le_refl _,HS⟩
 case round=>
  clear HS H'
  obtain ⟨j,sD,sy,pe,rfl,HA,j1,j2,HS⟩:=hrel
  have h:=HA.out;clear HA
  by_cases hj:j<ks.length
  ·have Li:decide ((j:Int)<(ks.length:Int))=true:=decide_eq_true (by omega)
   rw [show ks.length-j=(ks.length-(j+1))+1 from by omega] at h
   simp only [ct.l0] at h
   replace h:=bS h;obtain ⟨⟨Ny,KR,Ky,NP,KJ⟩,T1,h⟩:=h
   obtain ⟨e1,e3⟩:=aV.keeps T1.out
   dsimp only at e1 e3
   replace e1:=e1.symm;replace e3:=e3.symm
   subst e1 e3
   have cP:=an (HS.aI 0)
   go_wp2_with (first|(go_at_call 92;have cE:=aV.calls (n:=⟨ks,sD,sy,pe,sd⟩) (HS) T1.out;refine cE.mono ?_;clear cE;rintro e W_ ⟨rfl,fX⟩;clear HS;have HS:=fX;clear fX;dsimp only [eO,List.cons_append,List.nil_append] at HS;clear cP;have cP:=an (HS.aI 0)))
   go_roundg (ks.length-(j+1))
   case measure=>omega
   case rel=>exact ⟨j+1,_,_,_,gZ hj KL.out,⟨h⟩,hj,Nat.le_refl _,HS⟩
  ·obtain rfl:j=ks.length:=by omega
   rw [Nat.sub_self] at h
   simp only [ct.l0] at h
   have Li:decide ((ks.length:Int)<(ks.length:Int))=false:=decide_eq_false (by omega)
   obtain rfl:=Option.some.inj h
   have cP:=an (HS.aI 0)
   go_wp2
   refine bodyPost_end (results_none rfl _ _ _) rfl ?_
   exact ⟨rfl,HS⟩
theorem ax.KZ {k:Nat} {v0 v1 v2 v3:Value} {n:Nt} {r:Bool} {w:World} (hn:NC w v0 v1 v2 v3 n) (h:ax.f k n.ks n.ps n.ss n.ib n.sd=some r):
    Calls Tryz.prog 35 #[.agg #[v0,v1,v2,v3,.int .i64 n.sd]] w fun e w'=>e= .returned (.bool r)∧Below w.heap.size w w':=by
  obtain ⟨A0,c0,A1,c1,A2,c2,A3,c3,⟨rfl,rfl,rfl,rfl⟩,⟨x0,y0⟩,⟨x1,y1⟩,⟨x2,y2⟩,⟨x3,y3⟩⟩:=hn
  exact ax.calls k A0 c0 n.ks A1 c1 n.ps A2 c2 n.ss A3 c3 n.ib n.sd r w x0 y0 x1 y1 x2 y2 x3 y3 h
def iD.f (k:Nat) (n:Nt):Option (Nt×Bool):=(ax.f k n.ks n.ps n.ss n.ib n.sd).bind fun g=>if g=false then some (⟨[],[],[],[],0⟩,false) else (ep.f k n).bind fun n1=>(ct.f k n1).bind fun n2=>some (n2,true)
theorem iD.calls {k:Nat} {v0 v1 v2 v3:Value} {n m:Nt} {r:Bool} {w:World} (hn:NC w v0 v1 v2 v3 n) (h:iD.f k n=some (m,r)):
    Calls Tryz.prog 11 #[.agg #[v0,v1,v2,v3,.int .i64 n.sd]] w (qc w m r):=by
 have lg:=Tryz.underlying27
 unfold iD.f at h
 obtain ⟨A0,c0,A1,c1,A2,c2,A3,c3,e_,x_⟩:=hn
 have HN:=ak (show NC w v0 v1 v2 v3 n from ⟨A0,c0,A1,c1,A2,c2,A3,c3,e_,x_⟩)
 obtain ⟨rfl,rfl,rfl,rfl⟩:=e_
 clear x_
 obtain ⟨ks,ps,ss,ib,sd⟩:=n
 dsimp only at HN h⊢
 have HS:=Sep.nil w
 replace h:=bS h;obtain ⟨g,T0,h⟩:=h
 cases g with
 |false=>
  rw [if_pos rfl] at h
  obtain ⟨rfl,rfl⟩:=(Prod.mk.injEq _ _ _ _).mp (Option.some.inj h)
  clear h
  go_enter Tryz.func11,Tryz.ntmps11
  go_wp2_with (first|((with_reducible refine av (N:=1) rfl ?_);refine bN 1 #[.slice A0 ks.length c0,.slice A1 ps.length c1,.slice A2 ss.length c2,.slice A3 ib.length c3,.int .i64 sd] 27 ?_;intro b1 bK W_ bD aW;replace HS:=HS.box bK bD aW;clear bK bD aW;have fY:=an (HS.aI 0))|((with_reducible refine av (N:=2) rfl ?_);refine bN 2 #[.slice none 0 0,.slice none 0 0,.slice none 0 0,.slice none 0 0,.int .i64 0] 27 ?_;intro b2 bK W_ bD aW;replace HS:=HS.box bK bD aW;clear bK bD aW;clear fY;have cJ:=an (HS.aI 0);clear cJ;have cJ:=an (HS.aI 0);have fY:=an (HS.aI 1))|(go_at_call 35;have cE:=ax.KZ (n:=⟨ks,ps,ss,ib,sd⟩) (HN.out.below HS.base) T0.out;refine cE.mono ?_;clear cE;rintro e W_ ⟨rfl,aW⟩;replace HS:=HS.below aW;clear aW;clear cJ fY;have cJ:=an (HS.aI 0);have fY:=an (HS.aI 1)))
  have HF:=HS.iw 0 (.slice none 0 0) (.slice none 0 0) (.slice none 0 0) (.slice none 0 0) (.int .i64 0)
  refine bodyPost_ret (cK rfl _ _ b2 27 #[.slice none 0 0,.slice none 0 0,.slice none 0 0,.slice none 0 0,.int .i64 0] (0,0) _ rfl (by exact (HF.aI 0).out) Tryz.underlying27 rfl (by kernel_rfl)) rfl ?_
  exact ⟨_,_,_,_,rfl,rU HF,HF.base⟩
 |true=>
  rw [if_neg (by decide)] at h
  replace h:=bS h;obtain ⟨⟨k1,p1,s1,i1,d1⟩,T1,h⟩:=h
  replace h:=bS h;obtain ⟨n2,T2,h⟩:=h
  go_enter Tryz.func11,Tryz.ntmps11
  go_upto_region 4 with (first|((with_reducible refine av (N:=1) rfl ?_);refine bN 1 #[.slice A0 ks.length c0,.slice A1 ps.length c1,.slice A2 ss.length c2,.slice A3 ib.length c3,.int .i64 sd] 27 ?_;intro b1 bK W_ bD aW;replace HS:=HS.box bK bD aW;clear bK bD aW;have fY:=an (HS.aI 0))|((with_reducible refine av (N:=2) rfl ?_);refine bN 2 #[.slice none 0 0,.slice none 0 0,.slice none 0 0,.slice none 0 0,.int .i64 0] 27 ?_;intro b2 bK W_ bD aW;replace HS:=HS.box bK bD aW;clear bK bD aW;clear fY;have cJ:=an (HS.aI 0);clear cJ;have cJ:=an (HS.aI 0);have fY:=an (HS.aI 1))|(go_at_call 35;have cE:=ax.KZ (n:=⟨ks,ps,ss,ib,sd⟩) (HN.out.below HS.base) T0.out;refine cE.mono ?_;clear cE;rintro e W_ ⟨rfl,aW⟩;replace HS:=HS.below aW;clear aW;clear cJ fY;have cJ:=an (HS.aI 0);have fY:=an (HS.aI 1))|(go_at_call 55;have cE:=ep.calls (n:=⟨ks,ps,ss,ib,sd⟩) (HN.out.below HS.base) T1.out;refine cE.mono ?_;clear cE;rintro e W_ ⟨u0,u1,u2,u3,rfl,ie,aW⟩;replace HS:=HS.news aW ie;clear ie aW;dsimp only [eO,List.cons_append,List.nil_append] at HS;obtain ⟨B0,r8,rfl⟩:=HS.lz 0;obtain ⟨B1,tG,rfl⟩:=HS.gY 1;obtain ⟨B2,wM,rfl⟩:=HS.gY 2;obtain ⟨B3,Ag,rfl⟩:=HS.gY 3;clear cJ fY;have cJ:=an (HS.aI 4);have fY:=an (HS.aI 5))|((with_reducible refine av (N:=4) rfl ?_);refine bN 4 #[.slice none 0 0,.slice none 0 0,.slice none 0 0,.slice none 0 0,.int .i64 0] 27 ?_;intro b4 bK W_ bD aW;replace HS:=HS.box bK bD aW;clear bK bD aW;clear cJ fY;have eR:=an (HS.aI 0);clear eR;have eR:=an (HS.aI 0)))
  clear eR
  obtain ⟨rC,gU,gX⟩:=(((((HS.cq 0 0 (.slice B0 k1.length r8) #[.slice B0 k1.length r8,.slice none 0 0,.slice none 0 0,.slice none 0 0,.int .i64 0]).cq 0 1 (.slice B1 p1.length tG) #[.slice B0 k1.length r8,.slice B1 p1.length tG,.slice none 0 0,.slice none 0 0,.int .i64 0]).cq 0 2 (.slice B2 s1.length wM) #[.slice B0 k1.length r8,.slice B1 p1.length tG,.slice B2 s1.length wM,.slice none 0 0,.int .i64 0]).cq 0 3 (.slice B3 i1.length Ag) #[.slice B0 k1.length r8,.slice B1 p1.length tG,.slice B2 s1.length wM,.slice B3 i1.length Ag,.int .i64 0]).cq 0 4 (.int .i64 d1) #[.slice B0 k1.length r8,.slice B1 p1.length tG,.slice B2 s1.length wM,.slice B3 i1.length Ag,.int .i64 d1]).gen
  rw [gU]
  clear HS gU
  have HS:=gX
  clear gX
  obtain ⟨rfl,rfl⟩:=(Prod.mk.injEq _ _ _ _).mp (Option.some.inj h)
  clear h
  obtain ⟨k2,p2,s2,i2,d2⟩:=n2
  obtain ⟨e1,e3⟩:=ct.keeps T2.out
  dsimp only at e1 e3
  subst e1 e3
  have eR:=an (HS.aI 0)
  have cJ:=an (HS.aI 5)
  go_wp2_with (first|(go_at_call 56;have cE:=ct.calls (n:=⟨k2,p1,s1,i1,d2⟩) (HS) T2.out;refine cE.mono ?_;clear cE;rintro e W_ ⟨rfl,fX⟩;clear HS;have HS:=fX;clear fX;dsimp only [eO,List.cons_append,List.nil_append] at HS;clear eR cJ;have eR:=an (HS.aI 0);have cJ:=an (HS.aI 5)))
  have HF:=HS.iw 5 (.slice B0 k2.length r8) (.slice B1 p1.length tG) (.slice B2 s1.length wM) (.slice B3 i1.length Ag) (.int .i64 d2)
  refine bodyPost_ret (cK rfl _ _ b2 27 #[.slice B0 k2.length r8,.slice B1 p1.length tG,.slice B2 s1.length wM,.slice B3 i1.length Ag,.int .i64 d2] (0,0) _ rfl (by exact (HF.aI 5).out) Tryz.underlying27 rfl (by kernel_rfl)) rfl ?_
  replace HS:=HF
  have HF:=HS.j9.j9.j9.j9
  exact ⟨_,_,_,_,rfl,ld HF,HF.base⟩
def iu.f (a0:ByteArray):Option (Bool):=some (decide ((a0.size:Int)<16))
theorem iu.calls (a0:ByteArray) (r:Bool) (w:World) (h:iu.f a0=some r):
  Calls Tryz.prog 128 #[.string a0] w fun e w'=>e= .returned (.bool r)∧cQ w w':=by
 have H:(some (decide ((a0.size:Int)<16)))=some r:=h
 clear h
 obtain rfl:=Option.some.inj H
 go_enter Tryz.func128,Tryz.ntmps128
 go_wp2
 go_ret
 exact ⟨er,gV⟩
def gi.f (a0:ByteArray):Option (ByteArray):=if a0.size+1≤9223372036854775807 then (if 0≤(wrap64 (15-(a0.size:Int))) then (if (wrap64 (15-(a0.size:Int)):Int).toNat≤281474976710656 then ((some (List.replicate (wrap64 (15-(a0.size:Int)):Int).toNat 0:List Int)).bind fun vo=>(if (a0++(⟨#[128]⟩:ByteArray)).size+(strOfNums vo).size≤9223372036854775807 then (some ((a0++(⟨#[128]⟩:ByteArray))++(strOfNums vo))) else (none))) else (none)) else (none)) else (none)
theorem gi.calls (a0:ByteArray) (r:ByteArray) (w:World) (h:gi.f a0=some r):
  Calls Tryz.prog 129 #[.string a0] w fun e w'=>e= .returned (.string r)∧Below w.heap.size w w':=by
 have HB:=ak (Below.refl w.heap.size w)
 have H:(if a0.size+1≤9223372036854775807 then (if 0≤(wrap64 (15-(a0.size:Int))) then (if (wrap64 (15-(a0.size:Int)):Int).toNat≤281474976710656 then ((some (List.replicate (wrap64 (15-(a0.size:Int)):Int).toNat 0:List Int)).bind fun vo=>(if (a0++(⟨#[128]⟩:ByteArray)).size+(strOfNums vo).size≤9223372036854775807 then (some ((a0++(⟨#[128]⟩:ByteArray))++(strOfNums vo))) else (none))) else (none)) else (none)) else (none))=some r:=h
 clear h;replace H:=dy H;obtain ⟨c2,H⟩:=H;have o5:=eq_true c2
 have Fj:decide (a0.size+1≤9223372036854775807)=true:=decide_eq_true c2
 try have ahB:(9223372036854775807<a0.size+1)=False:=eq_false (Nat.not_lt.2 c2)
 obtain ⟨RA,R3⟩:∃j_:Int,(wrap64 (15-(a0.size:Int)))=j_:=⟨_,rfl⟩
 replace H:(if 0≤(RA) then (if (RA:Int).toNat≤281474976710656 then ((some (List.replicate (RA:Int).toNat 0:List Int)).bind fun vo=>(if (a0++(⟨#[128]⟩:ByteArray)).size+(strOfNums vo).size≤9223372036854775807 then (some ((a0++(⟨#[128]⟩:ByteArray))++(strOfNums vo))) else (none))) else (none)) else (none))=some r:=by first|(rw [R3] at H;exact H)|(simp only [R3] at H⊢;exact H)
 have aip:(IntKind.i64.wrap (15-(a0.size:Int)))=RA:=(bW _).trans R3
 replace H:=dy H;obtain ⟨c4,H⟩:=H;have jn:=eq_true c4
 have ab0:decide (0≤(RA))=true:=decide_eq_true c4
 clear c4;replace H:=dy H;obtain ⟨c5,H⟩:=H;have mh:=eq_true c5
 have OS:decide ((RA:Int).toNat≤281474976710656)=true:=decide_eq_true c5
 clear c5
 obtain ⟨vo,ez⟩:∃y_:List Int,y_=(List.replicate (RA:Int).toNat 0):=⟨_,rfl⟩
 replace H:(if (a0++(⟨#[128]⟩:ByteArray)).size+(strOfNums vo).size≤9223372036854775807 then (some ((a0++(⟨#[128]⟩:ByteArray))++(strOfNums vo))) else (none))=some r:=yH
 have UA:=ak ez;clear ez;replace H:=dy H;obtain ⟨c6,H⟩:=H;have kO:=eq_true c6
 have vS:decide ((a0++(⟨#[128]⟩:ByteArray)).size+(strOfNums vo).size≤9223372036854775807)=true:=decide_eq_true c6
 try have abV:(9223372036854775807<(a0++(⟨#[128]⟩:ByteArray)).size+(strOfNums vo).size)=False:=eq_false (Nat.not_lt.2 c6)
 obtain rfl:=Option.some.inj H
 go_enter Tryz.func129,Tryz.ntmps129
 go_wp2_with (first|((with_reducible refine av (N:=8) rfl ?_);refine Kd.Pq (Kd.int .u8) _ 5 rfl (N:=8) rfl 56 _ _ rfl RA rfl rfl Tryz.underlying56 (.int .u8 0) 1 sG rfl (by decide) (by omega) 0 (ok:=fun _=>True) (okp:=fun _=>True) rfl (fun _ hk=>hk) trivial (da) (Nat.le_trans (Nat.mul_le_mul_right _ (da:RA.toNat≤281474976710656)) (by omega)) (Below.refl _ _) (Nat.le_refl _) ?_;intro ajn w7 L7 hb bK dP;clear bK dP;(first|rw [←UA.out] at L7|(simp only [Int.reduceToNat] at L7;rw [←UA.out] at L7));have adS:=ak (Kd.dz L7 (aX (aq HB)));replace HB:=ak (aH (aq HB) hb);clear hb L7;have aj2:=jc (P:=Tryz.prog) Tryz.underlying56 Tryz.underlying5 Tryz.underlying9 (Kd.iV adS.out)))
 go_ret
 exact ⟨by first|rfl|(simp [oZ,oY]<;>rfl)|(simp only [←R3];first|rfl|(simp [oZ,oY]<;>rfl))|(simp [*,oZ,oY]<;>rfl),aq HB⟩
mutual
def aK.j0:Nat→List Int→List Int→ByteArray→Bool→Option (ByteArray×Bool)
  |0,_,_,_,_=>none
  |k+1,x0,x1,x2,x35=>if x35=true then (some ((⟨#[]⟩:ByteArray),false)) else ((gi.f x2).bind fun td=>(if 8≤281474976710656 then ((some (List.replicate 8 0:List Int)).bind fun tI=>(if td.size+(strOfNums tI).size≤9223372036854775807 then (aK.l0 k x0 x1 (td++(strOfNums tI)) (wrap64 ((x0.length:Int)-1))) else (none))) else (none)))
def aK.l0:Nat→List Int→List Int→ByteArray→Int→Option (ByteArray×Bool)
  |0,_,_,_,_=>none
  |k+1,x0,x1,x8,x9=>if x9≥0 then (if 0≤22 then (if 22≤(x8.size:Int) then (if 0≤x9 then (if x9<(x1.length:Int) then (if 0≤16 then (if 16≤((x8.extract 0 22).size:Int) then ((eo.f k ((x8.extract 0 22).extract 0 16)).bind fun Ek=>((some (([(rd x1 x9)%256,(Ek)%256]:List Int):List Int)).bind fun D8=>(if (strOfNums D8).size+(x8.extract 0 22).size≤9223372036854775807 then (if x9<(x0.length:Int) then ((jb.f k (rd x0 x9) 24).bind fun Kx=>((iB.f k ((strOfNums D8)++(x8.extract 0 22)) Kx).bind fun Kw=>(aK.l0 k x0 x1 Kw (wrap64 (x9-1))))) else (none)) else (none)))) else (none)) else (none)) else (none)) else (none)) else (none)) else (none)) else (some (x8,true))
end
def aK.f (k:Nat) (l0:List Int) (l1:List Int) (a2:ByteArray):Option (ByteArray×Bool):=(bE.f (l0.length:Int) 1 4).bind fun MJ=>(if MJ=true then ((cm.f k l0 0 65535).bind fun F6=>(if F6=true then (if (l1.length:Int)=(l0.length:Int) then ((cm.f k l1 1 250).bind fun Cm=>(if Cm=true then ((iu.f a2).bind fun wZ=>(aK.j0 k l0 l1 a2 (!wZ))) else (aK.j0 k l0 l1 a2 true))) else (aK.j0 k l0 l1 a2 true)) else (aK.j0 k l0 l1 a2 true))) else (aK.j0 k l0 l1 a2 true))
def aK.T8:Bool×List (List Nat×List Nat):=(true,[([],[]),([],[]),([0,1],[0,1]),([2],[2]),([3],[3]),([],[]),([5],[5]),([6],[6]),([7],[7]),([4,8],[4,8]),([9],[9]),([],[]),([10,11],[10,11]),([12,7,0,1,2,3,4,5,6,7,8,9,10,11,12],[5,11,12])])
def aK.B8:List Nat:=[0,0,3,7,15,0,32,96,224,511,1023,0,4095,8191]
theorem aK.wX:gz .any (opsOf Tryz.f116 8)=aK.T8:=by kernel_rfl
theorem aK.qm:dZ aK.T8.2 aK.B8=true:=by kernel_rfl
theorem aK.calls (k:Nat) (A0:Option Addr) (c0:Nat) (l0:List Int) (A1:Option Addr) (c1:Nat) (l1:List Int) (a2:ByteArray) (r1:ByteArray) (r2:Bool) (w:World) (ff:Kd.C (Kd.int .i64) w A0 l0.length l0) (fL:l0.length≤c0) (sH:Kd.C (Kd.int .i64) w A1 l1.length l1) (qA:l1.length≤c1) (h:aK.f k l0 l1 a2=some (r1,r2)):
  Calls Tryz.prog 116 #[.slice A0 l0.length c0,.slice A1 l1.length c1,.string a2] w fun e w'=>e= .returned (.tuple #[.string r1,.bool r2])∧Below w.heap.size w w':=by
 have fZ:=ak ff;have ki:=ak fL;clear ff fL;have yc:=ak sH;have LS:=ak qA;clear sH qA
 have HB:=ak (Below.refl w.heap.size w)
 have H:((bE.f (l0.length:Int) 1 4).bind fun MJ=>(if MJ=true then ((cm.f k l0 0 65535).bind fun F6=>(if F6=true then (if (l1.length:Int)=(l0.length:Int) then ((cm.f k l1 1 250).bind fun Cm=>(if Cm=true then ((iu.f a2).bind fun wZ=>(aK.j0 k l0 l1 a2 (!wZ))) else (aK.j0 k l0 l1 a2 true))) else (aK.j0 k l0 l1 a2 true)) else (aK.j0 k l0 l1 a2 true))) else (aK.j0 k l0 l1 a2 true)))=some (r1,r2):=h
 clear h;have YP:=ak H;clear H
 go_enter Tryz.func116,Tryz.ntmps116
 go_upto_region 1 with (fail)
 go_cut [35] (fun v35 wc=>∃(kq:Nat) (Ix:Bool),v35= .bool Ix∧Aside0 (aK.j0 kq l0 l1 a2 Ix=some (r1,r2))∧Aside0 (kq≤k)∧Aside0 (Below w.heap.size w wc))
 case first=>
  have H:=YP.out;clear YP;replace H:=bS H;obtain ⟨MJ,A5,H⟩:=H
  by_cases c6:MJ=true
  ·subst c6
   have H1:((cm.f k l0 0 65535).bind fun F6=>(if F6=true then (if (l1.length:Int)=(l0.length:Int) then ((cm.f k l1 1 250).bind fun Cm=>(if Cm=true then ((iu.f a2).bind fun wZ=>(aK.j0 k l0 l1 a2 (!wZ))) else (aK.j0 k l0 l1 a2 true))) else (aK.j0 k l0 l1 a2 true)) else (aK.j0 k l0 l1 a2 true)))=some (r1,r2):=by rw [if_pos rfl] at H;exact H
   clear H
   have H:=H1
   clear H1;replace H:=bS H;obtain ⟨F6,A7,H⟩:=H
   by_cases c8:F6=true
   ·subst c8
    have H1:(if (l1.length:Int)=(l0.length:Int) then ((cm.f k l1 1 250).bind fun Cm=>(if Cm=true then ((iu.f a2).bind fun wZ=>(aK.j0 k l0 l1 a2 (!wZ))) else (aK.j0 k l0 l1 a2 true))) else (aK.j0 k l0 l1 a2 true))=some (r1,r2):=by rw [if_pos rfl] at H;exact H
    clear H
    have H:=H1
    clear H1
    by_cases c9:(l1.length:Int)=(l0.length:Int)
    ·rw [if_pos c9] at H
     have mg:=lO c9
     have HY:=mR c9
     have OR:(l1.length==l0.length)=true:=by first|simpa using c9|(simp at c9⊢;omega)
     clear c9
     (first|rw [mg]|(simp only [bW,cA];rw [mg])|skip)
     replace H:=bS H;obtain ⟨Cm,tH,H⟩:=H
     by_cases mY:Cm=true
     ·subst mY
      have H1:((iu.f a2).bind fun wZ=>(aK.j0 k l0 l1 a2 (!wZ)))=some (r1,r2):=by rw [if_pos rfl] at H;exact H
      clear H
      have H:=H1
      clear H1;replace H:=bS H;obtain ⟨wZ,L5,H⟩:=H
      have H':=ak H
      clear H
      go_wp2_with (first|(go_at_call 79;(with_reducible refine (bE.calls (l0.length:Int) 1 4 true _ A5.out).mono ?_);rintro e w' ⟨rfl,⟨nd,rfl⟩⟩)|(go_at_call 81;(with_reducible refine (cm.calls k _ _ l0 0 65535 true _ ?side1 ?side2 A7.out).mono ?_);(case side1=>exact cd (Kd.aD fZ.out (aq HB)));(case side2=>exact ki.out);rintro e w' ⟨rfl,⟨nd,rfl⟩⟩)|(go_at_call 81;(with_reducible refine (cm.calls k _ _ l1 1 250 true _ ?side1 ?side2 tH.out).mono ?_);(case side1=>exact cd (Kd.aD yc.out (aq HB)));(case side2=>exact LS.out);rintro e w' ⟨rfl,⟨nd,rfl⟩⟩)|(go_at_call 128;(with_reducible refine (iu.calls a2 wZ _ L5.out).mono ?_);rintro e w' ⟨rfl,⟨nd,rfl⟩⟩))
      go_meet
      case rel=>exact ⟨_,(!wZ),er,H',⟨by first|omega|exact Nat.le_refl _⟩,⟨aq HB⟩⟩
     ·replace mY:=Bool.eq_false_iff.mpr mY
      subst mY
      have H1:(aK.j0 k l0 l1 a2 true)=some (r1,r2):=by rw [if_neg (show¬(false=true) by decide)] at H;exact H
      clear H
      have H:=H1
      clear H1
      have H':=ak H
      clear H
      go_wp2_with (first|(go_at_call 79;(with_reducible refine (bE.calls (l0.length:Int) 1 4 true _ A5.out).mono ?_);rintro e w' ⟨rfl,⟨nd,rfl⟩⟩)|(go_at_call 81;(with_reducible refine (cm.calls k _ _ l0 0 65535 true _ ?side1 ?side2 A7.out).mono ?_);(case side1=>exact cd (Kd.aD fZ.out (aq HB)));(case side2=>exact ki.out);rintro e w' ⟨rfl,⟨nd,rfl⟩⟩)|(go_at_call 81;(with_reducible refine (cm.calls k _ _ l1 1 250 false _ ?side1 ?side2 tH.out).mono ?_);(case side1=>exact cd (Kd.aD yc.out (aq HB)));(case side2=>exact LS.out);rintro e w' ⟨rfl,⟨nd,rfl⟩⟩))
      go_meet
      case rel=>exact ⟨_,(true),er,H',⟨by first|omega|exact Nat.le_refl _⟩,⟨aq HB⟩⟩
    ·rw [if_neg c9] at H
     have mg:=lq c9
     have HY:=mj c9
     have OR:(l1.length==l0.length)=false:=by first|simpa using c9|(simp at c9⊢;omega)
     (first|rw [mg]|(simp only [bW,cA];rw [mg])|skip)
     have H':=ak H
     clear H
     go_wp2_with (first|(go_at_call 79;(with_reducible refine (bE.calls (l0.length:Int) 1 4 true _ A5.out).mono ?_);rintro e w' ⟨rfl,⟨nd,rfl⟩⟩)|(go_at_call 81;(with_reducible refine (cm.calls k _ _ l0 0 65535 true _ ?side1 ?side2 A7.out).mono ?_);(case side1=>exact cd (Kd.aD fZ.out (aq HB)));(case side2=>exact ki.out);rintro e w' ⟨rfl,⟨nd,rfl⟩⟩))
     go_meet
     case rel=>exact ⟨_,(true),er,H',⟨by first|omega|exact Nat.le_refl _⟩,⟨aq HB⟩⟩
   ·replace c8:=Bool.eq_false_iff.mpr c8
    subst c8
    have H1:(aK.j0 k l0 l1 a2 true)=some (r1,r2):=by rw [if_neg (show¬(false=true) by decide)] at H;exact H
    clear H
    have H:=H1
    clear H1
    have H':=ak H
    clear H
    go_wp2_with (first|(go_at_call 79;(with_reducible refine (bE.calls (l0.length:Int) 1 4 true _ A5.out).mono ?_);rintro e w' ⟨rfl,⟨nd,rfl⟩⟩)|(go_at_call 81;(with_reducible refine (cm.calls k _ _ l0 0 65535 false _ ?side1 ?side2 A7.out).mono ?_);(case side1=>exact cd (Kd.aD fZ.out (aq HB)));(case side2=>exact ki.out);rintro e w' ⟨rfl,⟨nd,rfl⟩⟩))
    go_meet
    case rel=>exact ⟨_,(true),er,H',⟨by first|omega|exact Nat.le_refl _⟩,⟨aq HB⟩⟩
  ·replace c6:=Bool.eq_false_iff.mpr c6
   subst c6
   have H1:(aK.j0 k l0 l1 a2 true)=some (r1,r2):=by rw [if_neg (show¬(false=true) by decide)] at H;exact H
   clear H
   have H:=H1
   clear H1
   have H':=ak H
   clear H
   go_wp2_with (first|(go_at_call 79;(with_reducible refine (bE.calls (l0.length:Int) 1 4 false _ A5.out).mono ?_);rintro e w' ⟨rfl,⟨nd,rfl⟩⟩))
   go_meet
   case rel=>exact ⟨_,(true),er,H',⟨by first|omega|exact Nat.le_refl _⟩,⟨aq HB⟩⟩
 case rest=>
  clear YP;(try clear c1)
  obtain ⟨kq,Ix,rfl,HA,SR,HB⟩:=hcut
  cases kq with
  |zero=>exact absurd HA.out (by simp [aK.j0])
  |succ We=>
   have H:=HA.out;clear HA
   simp only [aK.j0] at H
   by_cases oA:Ix=true
   ·subst oA
    have H1:(some ((⟨#[]⟩:ByteArray),false))=some (r1,r2):=by rw [if_pos rfl] at H;exact H
    clear H
    have H:=H1
    clear H1
    simp only [Option.some.injEq,Prod.mk.injEq] at H
    obtain ⟨rfl,rfl⟩:=H;go_wp2
    go_ret2
    exact ⟨kK,aq HB⟩
   ·replace oA:=Bool.eq_false_iff.mpr oA
    subst oA
    have H1:((gi.f a2).bind fun td=>(if 8≤281474976710656 then ((some (List.replicate 8 0:List Int)).bind fun tI=>(if td.size+(strOfNums tI).size≤9223372036854775807 then (aK.l0 We l0 l1 (td++(strOfNums tI)) (wrap64 ((l0.length:Int)-1))) else (none))) else (none)))=some (r1,r2):=by rw [if_neg (show¬(false=true) by decide)] at H;exact H
    clear H
    have H:=H1
    clear H1;replace H:=bS H;obtain ⟨td,wS,H⟩:=H
    replace H:=dy H;obtain ⟨wP,H⟩:=H;have zx:=eq_true wP
    have Fl:decide (8≤281474976710656)=true:=decide_eq_true wP
    clear wP
    obtain ⟨tI,ez⟩:∃y_:List Int,y_=(List.replicate 8 0):=⟨_,rfl⟩
    replace H:(if td.size+(strOfNums tI).size≤9223372036854775807 then (aK.l0 We l0 l1 (td++(strOfNums tI)) (wrap64 ((l0.length:Int)-1))) else (none))=some (r1,r2):=yH
    have JU:=ak ez;clear ez;replace H:=dy H;obtain ⟨Ic,H⟩:=H;have zw:=eq_true Ic
    have Ui:decide (td.size+(strOfNums tI).size≤9223372036854775807)=true:=decide_eq_true Ic
    try have acn:(9223372036854775807<td.size+(strOfNums tI).size)=False:=eq_false (Nat.not_lt.2 Ic)
    have H':=ak H
    clear H
    try go_wp2
    replace HB:=ak (cO HB.out)
    refine dV (n:=6) (S:=fun w'=>True) (ds:=[]) (bl 6 0) (by kernel_rfl) rfl rfl trivial (fun ah=> ?_)
    generalize wc.drew=L6 at HB ah⊢
    refine Ew (i:=0) (N:=some 36) (v:= ?_) (a':= ?_) (bl 6 1) rfl rfl (by kernel_rfl) (fun _ _ _ h=>h) (Or.inl ⟨by rfl,?_⟩) ?_ ?_
    rotate_left
    ·intro w'
     go_simp
     with_reducible rfl
    rotate_left
    ·simp only [Act.put,List.setIfInBounds_toArray,List.set_cons_zero,List.set_cons_succ,bW,cA]
     rfl
    refine NF (σ:=Value) 2 (bl 6 15) (fun s_=>[(37,.string td),(38,s_),(39,.string (strOfNums tI))]) (fun s_ w'=>(Kd.R (Kd.int .u8) 5 w' w.heap.size (fun _=>True) s_ tI)∧(Below w.heap.size w w')) ?_ ?_
    rotate_left
    ·intro qW
     refine Kk (i:=1) (j:=2) (Ni:=some 37) (Nj:=some 38) (bl 6 3) (bl 6 5) rfl rfl rfl rfl (by kernel_rfl) (by decide) (by decide) (fun K hK=> ?_) (fun K hK=> ?_)
     ·skip
      refine fM Tryz.func129 (by kernel_rfl) rfl #[.string a2] (by rfl) rfl rfl (by (try simp only [List.map_toArray,List.map_cons,List.map_nil]);first|done|rfl|(simp only [List.length_drop,List.length_take];rfl)) ?_
      with_reducible refine (gi.calls a2 td _ wS.out).mono ?_
      rintro e QA ⟨rfl,hb⟩
      refine ⟨_,rfl,?_⟩
      replace HB:=ak (aH (aq HB) hb)
      (try clear hb);(try clear L9);(try clear hk);(try clear hi)
      refine hK.out _ _ trivial (fun ah=> ?_)
      clear hK K
      refine cM (a':= ?_) ?_ ?_
      rotate_left
      ·show Act.put _ (some 37) _=_
       simp only [Act.put,List.setIfInBounds_toArray,List.set_cons_zero,List.set_cons_succ,bW,cA]
       rfl
      refine No (i:=2) (N:=some 38) (bl 6 7) rfl rfl (by kernel_rfl) (by decide) (fun K hK=> ?_)
      refine Kd.rF (Kd.int .u8) _ 5 (by rfl) (N:=38) rfl 56 _ _ rfl 8 rfl rfl Tryz.underlying56 (.int .u8 0) 1 sG rfl (by decide) (by omega) 0 (ok:=fun _=>True) (okp:=fun _=>True) rfl (fun _ hk=>hk) trivial (by omega) (by omega) (Below.refl _ _) (Nat.le_refl _) ?_
      intro Ki w19 N6 hb bK dP
      clear bK dP
      (first|rw [←JU.out] at N6|(simp only [Int.reduceToNat] at N6;rw [←JU.out] at N6))
      have qq:=ak (Kd.dz N6 (aX (aq HB)))
      replace HB:=ak (aH (aq HB) hb)
      clear hb N6
      refine hK.out _ _ trivial (fun ah=> ?_)
      clear hK K
      refine cM (a':= ?_) ?_ ?_
      rotate_left
      ·show Act.put _ (some 38) _=_
       simp only [Act.put,List.setIfInBounds_toArray,List.set_cons_zero,List.set_cons_succ,bW,cA]
       rfl
      refine No (i:=3) (N:=some 39) (bl 6 15) rfl rfl (by kernel_rfl) (by decide) (fun K hK=> ?_)
      have On:=jc (P:=Tryz.prog) Tryz.underlying56 Tryz.underlying5 Tryz.underlying9 (Kd.iV qq.out)
      refine vr (w1:= ?_) (v:= ?_) (by rfl) rfl ?_ ?_
      rotate_left 2
      ·go_simp
       constructor
       ·rfl
       ·rfl
      clear On
      refine hK.out _ _ trivial (fun ah=> ?_)
      clear hK K
      refine cM (a':= ?_) ?_ ?_
      rotate_left
      ·show Act.put _ (some 39) _=_
       simp only [Act.put,List.setIfInBounds_toArray,List.set_cons_zero,List.set_cons_succ,bW,cA]
       rfl
      exact cM (by simp only [kE,Act.put,List.setIfInBounds_toArray,List.set_cons_zero,List.set_cons_succ]) (qW (Ki) _ ⟨(dH qq),(aq HB)⟩)
     ·skip
      refine Kd.rF (Kd.int .u8) _ 5 (by rfl) (N:=38) rfl 56 _ _ rfl 8 rfl rfl Tryz.underlying56 (.int .u8 0) 1 sG rfl (by decide) (by omega) 0 (ok:=fun _=>True) (okp:=fun _=>True) rfl (fun _ hk=>hk) trivial (by omega) (by omega) (Below.refl _ _) (Nat.le_refl _) ?_
      intro Ki QA N7 hb bK dP
      clear bK dP
      (first|rw [←JU.out] at N7|(simp only [Int.reduceToNat] at N7;rw [←JU.out] at N7))
      have qq:=ak (Kd.dz N7 (aX (aq HB)))
      replace HB:=ak (aH (aq HB) hb)
      clear hb N7
      refine hK.out _ _ trivial (fun ah=> ?_)
      clear hK K
      refine cM (a':= ?_) ?_ ?_
      rotate_left
      ·show Act.put _ (some 38) _=_
       simp only [Act.put,List.setIfInBounds_toArray,List.set_cons_zero,List.set_cons_succ,bW,cA]
       rfl
      refine Kk (i:=1) (j:=3) (Ni:=some 37) (Nj:=some 39) (bl 6 7) (bl 6 13) rfl rfl rfl rfl (by kernel_rfl) (by decide) (by decide) (fun K hK=> ?_) (fun K hK=> ?_)
      ·skip
       refine fM Tryz.func129 (by kernel_rfl) rfl #[.string a2] (by rfl) rfl rfl (by (try simp only [List.map_toArray,List.map_cons,List.map_nil]);first|done|rfl|(simp only [List.length_drop,List.length_take];rfl)) ?_
       with_reducible refine (gi.calls a2 td _ wS.out).mono ?_
       rintro e w20 ⟨rfl,hb⟩
       refine ⟨_,rfl,?_⟩
       replace qq:=ak (Kd.fF (dH qq) hb)
       replace HB:=ak (aH (aq HB) hb)
       (try clear hb);(try clear L9);(try clear hk);(try clear hi)
       refine hK.out _ _ trivial (fun ah=> ?_)
       clear hK K
       refine cM (a':= ?_) ?_ ?_
       rotate_left
       ·show Act.put _ (some 37) _=_
        simp only [Act.put,List.setIfInBounds_toArray,List.set_cons_zero,List.set_cons_succ,bW,cA]
        rfl
       refine No (i:=3) (N:=some 39) (bl 6 15) rfl rfl (by kernel_rfl) (by decide) (fun K hK=> ?_)
       have On:=jc (P:=Tryz.prog) Tryz.underlying56 Tryz.underlying5 Tryz.underlying9 (Kd.iV qq.out)
       refine vr (w1:= ?_) (v:= ?_) (by rfl) rfl ?_ ?_
       rotate_left 2
       ·go_simp
        constructor
        ·rfl
        ·rfl
       clear On
       refine hK.out _ _ trivial (fun ah=> ?_)
       clear hK K
       refine cM (a':= ?_) ?_ ?_
       rotate_left
       ·show Act.put _ (some 39) _=_
        simp only [Act.put,List.setIfInBounds_toArray,List.set_cons_zero,List.set_cons_succ,bW,cA]
        rfl
       exact cM (by simp only [kE,Act.put,List.setIfInBounds_toArray,List.set_cons_zero,List.set_cons_succ]) (qW (Ki) _ ⟨(dH qq),(aq HB)⟩)
      ·skip
       have aa7:=jc (P:=Tryz.prog) Tryz.underlying56 Tryz.underlying5 Tryz.underlying9 (Kd.iV qq.out)
       refine vr (w1:= ?_) (v:= ?_) (by rfl) rfl ?_ ?_
       rotate_left 2
       ·go_simp
        constructor
        ·rfl
        ·rfl
       clear aa7
       refine hK.out _ _ trivial (fun ah=> ?_)
       clear hK K
       refine cM (a':= ?_) ?_ ?_
       rotate_left
       ·show Act.put _ (some 39) _=_
        simp only [Act.put,List.setIfInBounds_toArray,List.set_cons_zero,List.set_cons_succ,bW,cA]
        rfl
       refine No (i:=1) (N:=some 37) (bl 6 15) rfl rfl (by kernel_rfl) (by decide) (fun K hK=> ?_)
       refine fM Tryz.func129 (by kernel_rfl) rfl #[.string a2] (by rfl) rfl rfl (by (try simp only [List.map_toArray,List.map_cons,List.map_nil]);first|done|rfl|(simp only [List.length_drop,List.length_take];rfl)) ?_
       with_reducible refine (gi.calls a2 td _ wS.out).mono ?_
       rintro e w21 ⟨rfl,hb⟩
       refine ⟨_,rfl,?_⟩
       replace qq:=ak (Kd.fF (dH qq) hb)
       replace HB:=ak (aH (aq HB) hb)
       (try clear hb);(try clear L9);(try clear hk);(try clear hi)
       refine hK.out _ _ trivial (fun ah=> ?_)
       clear hK K
       refine cM (a':= ?_) ?_ ?_
       rotate_left
       ·show Act.put _ (some 37) _=_
        simp only [Act.put,List.setIfInBounds_toArray,List.set_cons_zero,List.set_cons_succ,bW,cA]
        rfl
       exact cM (by simp only [kE,Act.put,List.setIfInBounds_toArray,List.set_cons_zero,List.set_cons_succ]) (qW (Ki) _ ⟨(dH qq),(aq HB)⟩)
    rintro Ki w22 ⟨h0_,h1_⟩
    have Bo:Aside0 (Kd.R (Kd.int .u8) 5 w22 w.heap.size (fun _=>True) Ki tI):=⟨h0_⟩
    have Bn:Aside0 (Below w.heap.size w w22):=⟨h1_⟩
    clear HB;clear h0_ h1_
    have qq:=Bo
    have HB:=Bn
    clear Bo Bn
    have ah:=trivial
    refine cM (a':= ?_) ?_ ?_
    rotate_left
    ·simp only [kE,Act.put,List.setIfInBounds_toArray,List.set_cons_zero,List.set_cons_succ]
     rfl
    refine Ew (i:=4) (N:=some 40) (v:= ?_) (a':= ?_) (bl 6 31) rfl rfl (by kernel_rfl) (fun _ _ _ h=>h) (Or.inl ⟨by rfl,?_⟩) ?_ ?_
    rotate_left
    ·intro w'
     go_simp
     with_reducible rfl
    rotate_left
    ·simp only [Act.put,List.setIfInBounds_toArray,List.set_cons_zero,List.set_cons_succ,bW,cA]
     rfl
    refine Ew (i:=5) (N:=some 8) (v:= ?_) (a':= ?_) (bl 6 63) rfl rfl (by kernel_rfl) (fun _ _ _ h=>h) (Or.inl ⟨by rfl,?_⟩) ?_ ?_
    rotate_left
    ·intro w'
     go_simp
     with_reducible rfl
    rotate_left
    ·simp only [Act.put,List.setIfInBounds_toArray,List.set_cons_zero,List.set_cons_succ,bW,cA]
     rfl
    refine eZ (by kernel_rfl) ?_
    try go_wp2
    go_loopg [8,9] We (fun kq v8 v9 w'=>∃(wT:ByteArray) (gG:Int),v8= .string wT∧v9= .int .i64 gG∧Aside0 (aK.l0 kq l0 l1 wT gG=some (r1,r2))∧Aside0 (kq≤We)∧Aside0 (Below w.heap.size w w'))
    case atStart=>exact ⟨(td++(strOfNums tI)),(wrap64 ((l0.length:Int)-1)),er,er,H',⟨Nat.le_refl _⟩,⟨aq HB⟩⟩
    case round=>
     clear H'
     (try clear oA);(try clear zx);(try clear Fl);(try clear Ic);(try clear zw);(try clear Ui);(try clear acn)
     obtain ⟨wT,gG,rfl,rfl,HA,kg,HB⟩:=hrel
     cases gk with
     |zero=>exact absurd HA.out (by simp [aK.l0])
     |succ k2=>
      have H:=HA.out;clear HA
      simp only [aK.l0] at H
      by_cases H6:gG≥0
      ·rw [if_pos H6] at H
       have OY:=geT H6
       clear H6;replace H:=dy H;obtain ⟨ZD,H⟩:=H;have Ug:=eq_true ZD
       have aiC:decide (0≤22)=true:=decide_eq_true ZD
       clear ZD;replace H:=dy H;obtain ⟨BI,H⟩:=H;have OX:=eq_true BI
       have aiB:decide (22≤(wT.size:Int))=true:=decide_eq_true BI
       clear BI;replace H:=dy H;obtain ⟨OW,H⟩:=H;have BH:=decide_eq_true OW;clear OW;replace H:=dy H;obtain ⟨c27,H⟩:=H;have acf:=decide_eq_true c27;clear c27;replace H:=dy H;obtain ⟨Yc,H⟩:=H;have ace:=eq_true Yc
       have acd:decide (0≤16)=true:=decide_eq_true Yc
       clear Yc;replace H:=dy H;obtain ⟨D5,H⟩:=H;have ab9:=eq_true D5
       have aiA:decide (16≤((wT.extract 0 22).size:Int))=true:=decide_eq_true D5
       (try have ab8:=ab9;simp only [ByteArray.size_extract,Nat.sub_zero,Nat.min_self] at ab8)
       clear D5;replace H:=bS H;obtain ⟨Ek,A30,H⟩:=H
       obtain ⟨D8,ez⟩:∃y_:List Int,y_=(([(rd l1 gG)%256,(Ek)%256]:List Int)):=⟨_,rfl⟩
       replace H:(if (strOfNums D8).size+(wT.extract 0 22).size≤9223372036854775807 then (if gG<(l0.length:Int) then ((jb.f k2 (rd l0 gG) 24).bind fun Kx=>((iB.f k2 ((strOfNums D8)++(wT.extract 0 22)) Kx).bind fun Kw=>(aK.l0 k2 l0 l1 Kw (wrap64 (gG-1))))) else (none)) else (none))=some (r1,r2):=yH
       have Uz:=ak ez;clear ez;replace H:=dy H;obtain ⟨zv,H⟩:=H;have wN:=eq_true zv
       have JJ:decide ((strOfNums D8).size+(wT.extract 0 22).size≤9223372036854775807)=true:=decide_eq_true zv
       try have ab7:(9223372036854775807<(strOfNums D8).size+(wT.extract 0 22).size)=False:=eq_false (Nat.not_lt.2 zv)
       (try have ab6:=wN;simp only [ByteArray.size_extract,Nat.sub_zero,Nat.min_self] at ab6)
       (try have ab5:=ab7;simp only [ByteArray.size_extract,Nat.sub_zero,Nat.min_self] at ab5)
       replace H:=dy H;obtain ⟨HZ,H⟩:=H;have BG:=decide_eq_true HZ;clear HZ;replace H:=bS H;obtain ⟨Kx,A33,H⟩:=H
       replace H:=bS H;obtain ⟨Kw,A34,H⟩:=H
       have H':=ak H
       clear H
       try go_wp2
       replace HB:=ak (cO HB.out)
       have VZ:0≤(gG:Int):=da
       have VL:gG<(l1.length:Int):=da
       obtain ⟨acO,ahe,um⟩:=Kd.jS yc.out gG VZ VL
       have oo:=um
       cases ahe
       replace um:=(HB.out.cell (World.block_lt_of_cell? w _ um)).trans um
       replace VZ:=eq_true VZ;replace VL:=eq_true VL
       refine dV (n:=14) (S:=fun w'=>w'.cell? (acO.add (gG).toNat)=some (.int .i64 (rd l1 gG))) (ds:=[]) (bl 14 0) (by kernel_rfl) rfl rfl (((HB.out.cell (World.block_lt_of_cell? w _ oo)).trans oo)) (fun ah=> ?_);refine bZ aK.wX aK.qm (fun aA ef=> ?_)
       generalize wr.drew=w35 at HB um ah⊢
       refine ag 0 (some 50) 14 1 aA ?_
       refine ag 1 (some 51) 14 3 aA ?_
       refine ag 2 (some 52) 14 7 aA ?_
       refine ag 5 (some 55) 14 39 aA ?_
       refine ag 6 (some 56) 14 103 aA ?_
       refine ag 11 (some 61) 14 2151 aA ?_
       refine cg 3 (some 53) 14 2159 aA ef ah ?_ (hy:=by intro w' s0;go_simp;with_reducible rfl)
       refine ag 4 (some 54) 14 2175 aA ?_
       refine fJ 7 (some 57) 14 2303 aA (fun K hK=> ?_)
       refine fM Tryz.func112 (by kernel_rfl) rfl #[.string ((wT.extract 0 22).extract 0 16)] (by rfl) rfl rfl (by (try simp only [List.map_toArray,List.map_cons,List.map_nil]);first|done|rfl|(simp only [List.length_drop,List.length_take];rfl)) ?_
       with_reducible refine (eo.calls k2 ((wT.extract 0 22).extract 0 16) Ek _ A30.out).mono ?_
       rintro e w' ⟨rfl,⟨nd,rfl⟩⟩
       refine ⟨_,rfl,?_⟩
       refine hK.out _ _ (((HB.out.cell (World.block_lt_of_cell? w _ oo)).trans oo)) (fun ah=> ?_)
       clear hK K
       refine cM (a':= ?_) ?_ ?_
       rotate_left
       ·show Act.put _ (some 57) _=_
        simp only [Act.put,List.setIfInBounds_toArray,List.set_cons_zero,List.set_cons_succ,bW,cA]
        rfl
       refine ag 8 (some 58) 14 2559 aA ?_
       refine fJ 9 (some 59) 14 3071 aA (fun K hK=> ?_)
       refine Kd.iJ (Kd.int .u8) _ 5 ?hg (N:=59) ?hd (xs:=([(rd l1 gG)%256,(Ek)%256]:List Int)) (inner:=[.int .u8 ((rd l1 gG)%256),.int .u8 ((Ek)%256)]) (ok:=fun _=>True) (okp:=fun _=>True) ?hr ?hp (fun _ hk=>hk) trivial (Below.refl _ _) (Nat.le_refl _) (by simp) ?_;(case hd=>rfl);(case hg=>rfl);(case hr=>exact rZ);(case hp=>exact (bT.one (show Kd.M (Kd.int .u8) _ _ _ ((rd l1 gG)%256) [.int .u8 ((rd l1 gG)%256)] from rfl) (bT.one (show Kd.M (Kd.int .u8) _ _ _ ((Ek)%256) [.int .u8 ((Ek)%256)] from rfl) (bT.none _ _))))
       intro ajm w36 N2 hb bK dP
       clear bK dP
       (first|rw [←Uz.out] at N2|(simp only [Int.reduceToNat] at N2;rw [←Uz.out] at N2))
       have FF:=ak (Kd.dz N2 (aX (aq HB)))
       replace HB:=ak (aH (aq HB) hb)
       clear hb N2
       refine hK.out _ _ (((HB.out.cell (World.block_lt_of_cell? w _ oo)).trans oo)) (fun ah=> ?_)
       clear hK K
       refine cM (a':= ?_) ?_ ?_
       rotate_left
       ·show Act.put _ (some 59) _=_
        simp only [Act.put,List.setIfInBounds_toArray,List.set_cons_zero,List.set_cons_succ,bW,cA]
        rfl
       refine fJ 10 (some 60) 14 4095 aA (fun K hK=> ?_)
       have aa5:=jc (P:=Tryz.prog) Tryz.underlying56 Tryz.underlying5 Tryz.underlying9 (Kd.iV FF.out)
       refine vr (w1:= ?_) (v:= ?_) (by rfl) rfl ?_ ?_
       rotate_left 2
       ·go_simp
        constructor
        ·rfl
        ·rfl
       clear aa5
       refine hK.out _ _ (((HB.out.cell (World.block_lt_of_cell? w _ oo)).trans oo)) (fun ah=> ?_)
       clear hK K
       refine cM (a':= ?_) ?_ ?_
       rotate_left
       ·show Act.put _ (some 60) _=_
        simp only [Act.put,List.setIfInBounds_toArray,List.set_cons_zero,List.set_cons_succ,bW,cA]
        rfl
       refine ag 12 (some 62) 14 8191 aA ?_
       refine ag 13 (some 8) 14 16383 aA ?_
       refine eZ (cV aA.out (by kernel_rfl)) ?_
       have VY:0≤(gG:Int):=da
       have VK:gG<(l0.length:Int):=da
       obtain ⟨aiL,ahd,CV⟩:=Kd.jS fZ.out gG VY VK
       cases ahd
       replace CV:=(HB.out.cell (World.block_lt_of_cell? w _ CV)).trans CV
       replace VY:=eq_true VY;replace VK:=eq_true VK
       try go_wp2_with (first|(go_at_call 111;(with_reducible refine (jb.calls k2 (rd l0 gG) 24 Kx _ A33.out).mono ?_);rintro e Zf ⟨rfl,hb⟩;replace FF:=ak (Kd.fF (dH FF) hb);replace HB:=ak (aH (aq HB) hb);(try clear hb))|(go_at_call 110;(with_reducible refine (iB.calls k2 ((strOfNums D8)++(wT.extract 0 22)) Kx Kw _ A34.out).mono ?_);rintro e w40 ⟨rfl,hb⟩;replace FF:=ak (Kd.fF (dH FF) hb);replace HB:=ak (aH (aq HB) hb);(try clear hb)))
       go_roundg k2
       case measure=>have:=SR.out;have:=kg.out;omega
       case rel=>exact ⟨(Kw),(wrap64 (gG-1)),er,er,H',⟨by have:=SR.out;have:=kg.out;omega⟩,⟨aq HB⟩⟩
      ·rw [if_neg H6] at H
       have OY:=geF H6
       clear H6
       simp only [Option.some.injEq,Prod.mk.injEq] at H
       obtain ⟨rfl,rfl⟩:=H;go_wp2
       go_ret2
       exact ⟨kK,aq HB⟩
end Go.Proofs.YtihekdlcfohkkaaGreatDoor.QFnNets
