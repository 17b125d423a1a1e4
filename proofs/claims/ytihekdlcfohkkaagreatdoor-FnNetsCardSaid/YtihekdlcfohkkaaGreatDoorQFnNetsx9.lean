-- printed by this session's own program (wip/tools/pp.py: the kit's print.py with changes); Lean checks it
import Derived.Test.YtihekdlcfohkkaaGreatDoorQFnNetsx0
import Derived.Test.YtihekdlcfohkkaaGreatDoorQFnNetsx2
import Derived.Test.YtihekdlcfohkkaaGreatDoorQFnNetsx4
import Derived.Test.YtihekdlcfohkkaaGreatDoorQFnNetsx6
import Derived.Test.YtihekdlcfohkkaaGreatDoorQFnNetsx8
namespace Go.Proofs.YtihekdlcfohkkaaGreatDoor.QFnNets
open Go.RowKit Go.Proofs.YtihekdlcfohkkaaGreatDoorW.PrintWords Go.Proofs.YtihekdlcfohkkaaGreatDoorW.PrintLast Go.Proofs.YtihekdlcfohkkaaGreatDoorW.PrintMore
attribute [local go_sem] max2_int min2_int max_two min_two max_three min_three max_four min_four strLss strGtr strLeq strGeq
set_option linter.unusedVariables false
set_option linter.unusedSimpArgs false
set_option maxHeartbeats 16000000
set_option maxRecDepth 100000
def jP.f (k:Nat) (n:Nt) (a b:Int) (x:ByteArray):Option (Nt×Bool):=(ax.f k n.ks n.ps n.ss n.ib n.sd).bind fun g=>if g=false then some (⟨[],[],[],[],0⟩,false) else (ep.f k n).bind fun n1=>(bh.f k n1 a b x).bind fun (n2,r)=>if r=false then some (⟨[],[],[],[],0⟩,false) else some (n2,true)
theorem jP.calls {k:Nat} {v0 v1 v2 v3:Value} {n m:Nt} {a b:Int} {x:ByteArray} {r:Bool} {w:World} (hn:NC w v0 v1 v2 v3 n) (h:jP.f k n a b x=some (m,r)):
    Calls Tryz.prog 30 #[.agg #[v0,v1,v2,v3,.int .i64 n.sd],.agg #[.int .i64 a,.int .i64 b,.string x]] w (qc w m r):=by
 have lg:=Tryz.underlying27
 have GX:=Tryz.underlying53
 unfold jP.f at h
 obtain ⟨A0,c0,A1,c1,A2,c2,A3,c3,e_,x_⟩:=hn
 have HN:=ak (show NC w v0 v1 v2 v3 n from ⟨A0,c0,A1,c1,A2,c2,A3,c3,e_,x_⟩)
 obtain ⟨rfl,rfl,rfl,rfl⟩:=e_
 clear x_
 obtain ⟨ks,ps,ss,ib,sd⟩:=n
 dsimp only at HN h⊢
 have HS:=Sep.nil w
 replace h:=bS h;obtain ⟨g,T0,h⟩:=h
 cases g with
 |false=>
  rw [if_pos rfl] at h
  obtain ⟨rfl,rfl⟩:=(Prod.mk.injEq _ _ _ _).mp (Option.some.inj h)
  clear h
  go_enter Tryz.func30,Tryz.ntmps30
  go_wp2_with (first|((with_reducible refine av (N:=2) rfl ?_);refine bN 2 #[.slice A0 ks.length c0,.slice A1 ps.length c1,.slice A2 ss.length c2,.slice A3 ib.length c3,.int .i64 sd] 27 ?_;intro b2 bK W_ bD aW;replace HS:=HS.box bK bD aW;clear bK bD aW;have cJ:=an (HS.aI 0))|((with_reducible refine av (N:=3) rfl ?_);refine bN 3 #[.int .i64 a,.int .i64 b,.string x] 53 ?_;intro b3 bK W_ bD aW;replace HS:=HS.box bK bD aW;clear bK bD aW;clear cJ;have bL:=ck (HS.aI 0))|((with_reducible refine av (N:=4) rfl ?_);refine bN 4 #[.slice none 0 0,.slice none 0 0,.slice none 0 0,.slice none 0 0,.int .i64 0] 27 ?_;intro b4 bK W_ bD aW;replace HS:=HS.box bK bD aW;clear bK bD aW;clear bL;have eR:=an (HS.aI 0);clear eR;have eR:=an (HS.aI 0);have bL:=ck (HS.aI 1);have cJ:=an (HS.aI 2))|(go_at_call 35;have cE:=ax.KZ (n:=⟨ks,ps,ss,ib,sd⟩) (HN.out.below HS.base) T0.out;refine cE.mono ?_;clear cE;rintro e W_ ⟨rfl,aW⟩;replace HS:=HS.below aW;clear aW;clear eR bL cJ;have eR:=an (HS.aI 0);have bL:=ck (HS.aI 1);have cJ:=an (HS.aI 2)))
  have HF:=HS.iw 0 (.slice none 0 0) (.slice none 0 0) (.slice none 0 0) (.slice none 0 0) (.int .i64 0)
  refine bodyPost_ret (cK rfl _ _ b4 27 #[.slice none 0 0,.slice none 0 0,.slice none 0 0,.slice none 0 0,.int .i64 0] (0,0) _ rfl (by exact (HF.aI 0).out) Tryz.underlying27 rfl (by kernel_rfl)) rfl ?_
  exact ⟨_,_,_,_,rfl,rU HF,HF.base⟩
 |true=>
  rw [if_neg (by decide)] at h
  replace h:=bS h;obtain ⟨n1,T1,h⟩:=h
  replace h:=bS h;obtain ⟨⟨n2,q⟩,T2,h⟩:=h
  dsimp only at h
  go_enter Tryz.func30,Tryz.ntmps30
  go_upto_region 4 with (first|((with_reducible refine av (N:=2) rfl ?_);refine bN 2 #[.slice A0 ks.length c0,.slice A1 ps.length c1,.slice A2 ss.length c2,.slice A3 ib.length c3,.int .i64 sd] 27 ?_;intro b2 bK W_ bD aW;replace HS:=HS.box bK bD aW;clear bK bD aW;have cJ:=an (HS.aI 0))|((with_reducible refine av (N:=3) rfl ?_);refine bN 3 #[.int .i64 a,.int .i64 b,.string x] 53 ?_;intro b3 bK W_ bD aW;replace HS:=HS.box bK bD aW;clear bK bD aW;clear cJ;have bL:=ck (HS.aI 0))|((with_reducible refine av (N:=4) rfl ?_);refine bN 4 #[.slice none 0 0,.slice none 0 0,.slice none 0 0,.slice none 0 0,.int .i64 0] 27 ?_;intro b4 bK W_ bD aW;replace HS:=HS.box bK bD aW;clear bK bD aW;clear bL;have eR:=an (HS.aI 0);clear eR;have eR:=an (HS.aI 0);have bL:=ck (HS.aI 1);have cJ:=an (HS.aI 2))|(go_at_call 35;have cE:=ax.KZ (n:=⟨ks,ps,ss,ib,sd⟩) (HN.out.below HS.base) T0.out;refine cE.mono ?_;clear cE;rintro e W_ ⟨rfl,aW⟩;replace HS:=HS.below aW;clear aW;clear eR bL cJ;have eR:=an (HS.aI 0);have bL:=ck (HS.aI 1);have cJ:=an (HS.aI 2))|(go_at_call 55;have cE:=ep.calls (n:=⟨ks,ps,ss,ib,sd⟩) (HN.out.below HS.base) T1.out;refine cE.mono ?_;clear cE;rintro e W_ ⟨u0,u1,u2,u3,rfl,ie,aW⟩;replace HS:=HS.news aW ie;clear ie aW;dsimp only [eO,List.cons_append,List.nil_append] at HS;obtain ⟨B0,d0,rfl⟩:=HS.lz 0;obtain ⟨B1,d1,rfl⟩:=HS.gY 1;obtain ⟨B2,d2,rfl⟩:=HS.gY 2;obtain ⟨B3,d3,rfl⟩:=HS.gY 3;clear eR bL cJ;have eR:=an (HS.aI 4);have bL:=ck (HS.aI 5);have cJ:=an (HS.aI 6))|((with_reducible refine av (N:=6) rfl ?_);refine bN 6 #[.slice none 0 0,.slice none 0 0,.slice none 0 0,.slice none 0 0,.int .i64 0] 27 ?_;intro b6 bK W_ bD aW;replace HS:=HS.box bK bD aW;clear bK bD aW;clear eR bL cJ;have jZ:=an (HS.aI 0);clear jZ;have jZ:=an (HS.aI 0)))
  clear jZ
  obtain ⟨rC,gU,gX⟩:=(((((HS.cq 0 0 (.slice B0 n1.ks.length d0) #[.slice B0 n1.ks.length d0,.slice none 0 0,.slice none 0 0,.slice none 0 0,.int .i64 0]).cq 0 1 (.slice B1 n1.ps.length d1) #[.slice B0 n1.ks.length d0,.slice B1 n1.ps.length d1,.slice none 0 0,.slice none 0 0,.int .i64 0]).cq 0 2 (.slice B2 n1.ss.length d2) #[.slice B0 n1.ks.length d0,.slice B1 n1.ps.length d1,.slice B2 n1.ss.length d2,.slice none 0 0,.int .i64 0]).cq 0 3 (.slice B3 n1.ib.length d3) #[.slice B0 n1.ks.length d0,.slice B1 n1.ps.length d1,.slice B2 n1.ss.length d2,.slice B3 n1.ib.length d3,.int .i64 0]).cq 0 4 (.int .i64 n1.sd) #[.slice B0 n1.ks.length d0,.slice B1 n1.ps.length d1,.slice B2 n1.ss.length d2,.slice B3 n1.ib.length d3,.int .i64 n1.sd]).gen
  rw [gU]
  clear HS gU
  have HS:=gX
  clear gX
  have jZ:=an (HS.aI 0)
  have eR:=an (HS.aI 5)
  have bL:=ck (HS.aI 6)
  cases q with
  |false=>
   rw [if_pos rfl] at h
   obtain ⟨rfl,rfl⟩:=(Prod.mk.injEq _ _ _ _).mp (Option.some.inj h)
   clear h
   go_wp2_with (first|(go_at_call 62;have cE:=bh.calls (n:=n1) (HS) T2.out;refine cE.mono ?_;clear cE;rintro e W_ ⟨rfl,fX⟩;clear HS;have HS:=fX;clear fX;dsimp only [eO,List.cons_append,List.nil_append] at HS;clear jZ eR bL;have jZ:=an (HS.aI 0);have eR:=an (HS.aI 5)))
   have HF:=HS.iw 5 (.slice none 0 0) (.slice none 0 0) (.slice none 0 0) (.slice none 0 0) (.int .i64 0)
   refine bodyPost_ret (cK rfl _ _ b4 27 #[.slice none 0 0,.slice none 0 0,.slice none 0 0,.slice none 0 0,.int .i64 0] (0,0) _ rfl (by exact (HF.aI 5).out) Tryz.underlying27 rfl (by kernel_rfl)) rfl ?_
   exact ⟨_,_,_,_,rfl,rU HF,HF.base⟩
  |true=>
   rw [if_neg (by decide)] at h
   obtain ⟨rfl,rfl⟩:=(Prod.mk.injEq _ _ _ _).mp (Option.some.inj h)
   clear h
   go_wp2_with (first|(go_at_call 62;have cE:=bh.calls (n:=n1) (HS) T2.out;refine cE.mono ?_;clear cE;rintro e W_ ⟨rfl,fX⟩;clear HS;have HS:=fX;clear fX;dsimp only [eO,List.cons_append,List.nil_append] at HS;clear jZ eR bL;have jZ:=an (HS.aI 0);have eR:=an (HS.aI 5)))
   have HF:=HS.iw 5 (.slice B0 n1.ks.length d0) (.slice B1 n1.ps.length d1) (.slice B2 n1.ss.length d2) (.slice B3 n1.ib.length d3) (.int .i64 n2.sd)
   refine bodyPost_ret (cK rfl _ _ b4 27 #[.slice B0 n1.ks.length d0,.slice B1 n1.ps.length d1,.slice B2 n1.ss.length d2,.slice B3 n1.ib.length d3,.int .i64 n2.sd] (0,0) _ rfl (by exact (HF.aI 5).out) Tryz.underlying27 rfl (by kernel_rfl)) rfl ?_
   replace HS:=HF
   have HF:=HS.j9.j9.j9.j9
   exact ⟨_,_,_,_,rfl,ld HF,HF.base⟩
def dJ.l0:Nat→List Int→List Int→Int→Int→Option (Bool)
  |0,_,_,_,_=>none
  |k+1,x0,x1,Mj,iz=>if iz<Mj then (if 0≤iz then (if iz<(x0.length:Int) then (if iz<(x1.length:Int) then (if (rd x0 iz)=(rd x1 iz) then (dJ.l0 k x0 x1 Mj (wrap64 (iz+1))) else (some false)) else (none)) else (none)) else (none)) else (some true)
def dJ.f (k:Nat) (l0:List Int) (l1:List Int):Option (Bool):=if (l0.length:Int)=(l1.length:Int) then (dJ.l0 k l0 l1 (l0.length:Int) 0) else (some false)
theorem dJ.calls (k:Nat) (A0:Option Addr) (c0:Nat) (l0:List Int) (A1:Option Addr) (c1:Nat) (l1:List Int) (r:Bool) (w:World) (ff:Kd.C (Kd.int .i64) w A0 l0.length l0) (fL:l0.length≤c0) (sH:Kd.C (Kd.int .i64) w A1 l1.length l1) (qA:l1.length≤c1) (h:dJ.f k l0 l1=some r):
  Calls Tryz.prog 67 #[.slice A0 l0.length c0,.slice A1 l1.length c1] w fun e w'=>e= .returned (.bool r)∧cQ w w':=by
 have fZ:=ak ff;have ki:=ak fL;clear ff fL;have yc:=ak sH;have LS:=ak qA;clear sH qA
 have H:(if (l0.length:Int)=(l1.length:Int) then (dJ.l0 k l0 l1 (l0.length:Int) 0) else (some false))=some r:=h
 clear h
 by_cases c3:(l0.length:Int)=(l1.length:Int)
 ·rw [if_pos c3] at H
  have jX:=lO c3
  have xx:=mR c3
  have Fi:(l0.length==l1.length)=true:=by first|simpa using c3|(simp at c3⊢;omega)
  clear c3
  have H':=ak H
  clear H
  go_enter Tryz.func67,Tryz.ntmps67
  go_wp2
  repeat (go_quiet (fail);try go_wp2)
  go_loopg [13] k (fun kq QB w'=>∃(dL:Int),QB= .int .i64 dL∧Aside0 (dJ.l0 kq l0 l1 (l0.length:Int) dL=some r)∧Aside0 (kq≤k)∧cQ w w')
  case atStart=>exact ⟨(0),er,H',⟨Nat.le_refl _⟩,gV⟩
  case round=>
   clear H'
   (try clear c1);(try clear jX);(try clear xx);(try clear Fi)
   obtain ⟨dL,rfl,HA,gf,⟨m1,rfl⟩⟩:=hrel
   cases gk with
   |zero=>exact absurd HA.out (by simp [dJ.l0])
   |succ k1=>
    have H:=HA.out;clear HA
    simp only [dJ.l0] at H
    by_cases c4:dL<(l0.length:Int)
    ·rw [if_pos c4] at H
     have jn:=decide_eq_true c4
     clear c4;replace H:=dy H;obtain ⟨c5,H⟩:=H;have mh:=decide_eq_true c5;clear c5;replace H:=dy H;obtain ⟨c6,H⟩:=H;have kO:=decide_eq_true c6;clear c6;replace H:=dy H;obtain ⟨c7,H⟩:=H;have tw:=decide_eq_true c7;clear c7
     by_cases c8:(rd l0 dL)=(rd l1 dL)
     ·rw [if_pos c8] at H
      have xw:=lO c8
      have LF:=mR c8
      clear c8
      have H':=ak H
      clear H
      obtain ⟨afQ,afA,acM,XI,RI⟩:=ng (Kd.jS fZ.out dL)
      cases XI
      have Gx:0≤(dL:Int):=da
      have Gh:dL<(l1.length:Int):=da
      obtain ⟨acL,XH,RH⟩:=Kd.jS yc.out dL Gx Gh
      cases XH
      replace Gx:=eq_true Gx;replace Gh:=eq_true Gh;go_wp2
      repeat (go_quiet (fail);try go_wp2)
      go_roundg k1
      case measure=>have:=gf.out;omega
      case rel=>exact ⟨(wrap64 (dL+1)),er,H',⟨by have:=gf.out;omega⟩,gV⟩
     ·rw [if_neg c8] at H
      have xw:=lq c8
      have LF:=mj c8
      obtain rfl:=Option.some.inj H
      obtain ⟨afQ,afA,acM,XI,RI⟩:=ng (Kd.jS fZ.out dL)
      cases XI
      have Gx:0≤(dL:Int):=da
      have Gh:dL<(l1.length:Int):=da
      obtain ⟨acL,XH,RH⟩:=Kd.jS yc.out dL Gx Gh
      cases XH
      replace Gx:=eq_true Gx;replace Gh:=eq_true Gh;go_wp2
      repeat (go_quiet (fail);try go_wp2)
      go_ret
      exact ⟨er,gV⟩
    ·rw [if_neg c4] at H
     have jn:=decide_eq_false c4
     clear c4
     obtain rfl:=Option.some.inj H
     go_wp2
     repeat (go_quiet (fail);try go_wp2)
     go_ret
     exact ⟨er,gV⟩
 ·rw [if_neg c3] at H
  have jX:=lq c3
  have xx:=mj c3
  have Fi:(l0.length==l1.length)=false:=by first|simpa using c3|(simp at c3⊢;omega)
  obtain rfl:=Option.some.inj H
  go_enter Tryz.func67,Tryz.ntmps67
  go_wp2
  repeat (go_quiet (fail);try go_wp2)
  go_ret
  exact ⟨er,gV⟩
def cI.l0:Nat→List ByteArray→List ByteArray→Int→Int→Option (Bool)
  |0,_,_,_,_=>none
  |k+1,x0,x1,Mj,iz=>if iz<Mj then (if 0≤iz then (if iz<(x0.length:Int) then (if iz<(x1.length:Int) then (if (aQ ByteArray.empty x0 iz).toList=(aQ ByteArray.empty x1 iz).toList then (cI.l0 k x0 x1 Mj (wrap64 (iz+1))) else (some false)) else (none)) else (none)) else (none)) else (some true)
def cI.f (k:Nat) (l0:List ByteArray) (l1:List ByteArray):Option (Bool):=if (l0.length:Int)=(l1.length:Int) then (cI.l0 k l0 l1 (l0.length:Int) 0) else (some false)
theorem cI.calls (k:Nat) (A0:Option Addr) (c0:Nat) (l0:List ByteArray) (A1:Option Addr) (c1:Nat) (l1:List ByteArray) (r:Bool) (w:World) (ff:Kd.C Kd.string w A0 l0.length l0) (fL:l0.length≤c0) (sH:Kd.C Kd.string w A1 l1.length l1) (qA:l1.length≤c1) (h:cI.f k l0 l1=some r):
  Calls Tryz.prog 38 #[.slice A0 l0.length c0,.slice A1 l1.length c1] w fun e w'=>e= .returned (.bool r)∧cQ w w':=by
 have fZ:=ak ff;have ki:=ak fL;clear ff fL;have yc:=ak sH;have LS:=ak qA;clear sH qA
 have H:(if (l0.length:Int)=(l1.length:Int) then (cI.l0 k l0 l1 (l0.length:Int) 0) else (some false))=some r:=h
 clear h
 by_cases c3:(l0.length:Int)=(l1.length:Int)
 ·rw [if_pos c3] at H
  have jX:=lO c3
  have xx:=mR c3
  have Fi:(l0.length==l1.length)=true:=by first|simpa using c3|(simp at c3⊢;omega)
  clear c3
  have H':=ak H
  clear H
  go_enter Tryz.func38,Tryz.ntmps38
  go_wp2
  repeat (go_quiet (fail);try go_wp2)
  go_loopg [13] k (fun kq QB w'=>∃(dL:Int),QB= .int .i64 dL∧Aside0 (cI.l0 kq l0 l1 (l0.length:Int) dL=some r)∧Aside0 (kq≤k)∧cQ w w')
  case atStart=>exact ⟨(0),er,H',⟨Nat.le_refl _⟩,gV⟩
  case round=>
   clear H'
   (try clear c1);(try clear jX);(try clear xx);(try clear Fi)
   obtain ⟨dL,rfl,HA,gf,⟨m1,rfl⟩⟩:=hrel
   cases gk with
   |zero=>exact absurd HA.out (by simp [cI.l0])
   |succ k1=>
    have H:=HA.out;clear HA
    simp only [cI.l0] at H
    by_cases c4:dL<(l0.length:Int)
    ·rw [if_pos c4] at H
     have jn:=decide_eq_true c4
     clear c4;replace H:=dy H;obtain ⟨c5,H⟩:=H;have mh:=decide_eq_true c5;clear c5;replace H:=dy H;obtain ⟨c6,H⟩:=H;have kO:=decide_eq_true c6;clear c6;replace H:=dy H;obtain ⟨c7,H⟩:=H;have tw:=decide_eq_true c7;clear c7
     by_cases c8:(aQ ByteArray.empty l0 dL).toList=(aQ ByteArray.empty l1 dL).toList
     ·rw [if_pos c8] at H
      have xw:=lO c8
      have LF:=mR c8
      clear c8
      have H':=ak H
      clear H
      obtain ⟨afP,afz,acK,XG,RG⟩:=ng (Kd.bq fZ.out dL)
      cases XG
      have Gw:0≤(dL:Int):=da
      have Gg:dL<(l1.length:Int):=da
      obtain ⟨acJ,XF,RF⟩:=Kd.bq yc.out dL Gw Gg
      cases XF
      replace Gw:=eq_true Gw;replace Gg:=eq_true Gg;go_wp2
      repeat (go_quiet (fail);try go_wp2)
      go_roundg k1
      case measure=>have:=gf.out;omega
      case rel=>exact ⟨(wrap64 (dL+1)),er,H',⟨by have:=gf.out;omega⟩,gV⟩
     ·rw [if_neg c8] at H
      have xw:=lq c8
      have LF:=mj c8
      obtain rfl:=Option.some.inj H
      obtain ⟨afP,afz,acK,XG,RG⟩:=ng (Kd.bq fZ.out dL)
      cases XG
      have Gw:0≤(dL:Int):=da
      have Gg:dL<(l1.length:Int):=da
      obtain ⟨acJ,XF,RF⟩:=Kd.bq yc.out dL Gw Gg
      cases XF
      replace Gw:=eq_true Gw;replace Gg:=eq_true Gg;go_wp2
      repeat (go_quiet (fail);try go_wp2)
      go_ret
      exact ⟨er,gV⟩
    ·rw [if_neg c4] at H
     have jn:=decide_eq_false c4
     clear c4
     obtain rfl:=Option.some.inj H
     go_wp2
     repeat (go_quiet (fail);try go_wp2)
     go_ret
     exact ⟨er,gV⟩
 ·rw [if_neg c3] at H
  have jX:=lq c3
  have xx:=mj c3
  have Fi:(l0.length==l1.length)=false:=by first|simpa using c3|(simp at c3⊢;omega)
  obtain rfl:=Option.some.inj H
  go_enter Tryz.func38,Tryz.ntmps38
  go_wp2
  repeat (go_quiet (fail);try go_wp2)
  go_ret
  exact ⟨er,gV⟩
def bI.l0:Nat→List (List ByteArray)→List (List ByteArray)→Int→Int→Option (Bool)
  |0,_,_,_,_=>none
  |k+1,x0,x1,Mj,iz=>if iz<Mj then (if 0≤iz then (if iz<(x0.length:Int) then (if iz<(x1.length:Int) then ((cI.f k (aN x0 iz) (aN x1 iz)).bind fun Vu=>(if Vu=true then (bI.l0 k x0 x1 Mj (wrap64 (iz+1))) else (some false))) else (none)) else (none)) else (none)) else (some true)
def bI.f (k:Nat) (l0:List (List ByteArray)) (l1:List (List ByteArray)):Option (Bool):=if (l0.length:Int)=(l1.length:Int) then (bI.l0 k l0 l1 (l0.length:Int) 0) else (some false)
theorem bI.calls (k:Nat) (A0:Option Addr) (c0:Nat) (l0:List (List ByteArray)) (A1:Option Addr) (c1:Nat) (l1:List (List ByteArray)) (r:Bool) (w:World) (ff:Kd.C (Kd.slice 9 Kd.string) w A0 l0.length l0) (fL:l0.length≤c0) (sH:Kd.C (Kd.slice 9 Kd.string) w A1 l1.length l1) (qA:l1.length≤c1) (h:bI.f k l0 l1=some r):
  Calls Tryz.prog 68 #[.slice A0 l0.length c0,.slice A1 l1.length c1] w fun e w'=>e= .returned (.bool r)∧cQ w w':=by
 have fZ:=ak ff;have ki:=ak fL;clear ff fL;have yc:=ak sH;have LS:=ak qA;clear sH qA
 have H:(if (l0.length:Int)=(l1.length:Int) then (bI.l0 k l0 l1 (l0.length:Int) 0) else (some false))=some r:=h
 clear h
 by_cases c3:(l0.length:Int)=(l1.length:Int)
 ·rw [if_pos c3] at H
  have jX:=lO c3
  have xx:=mR c3
  have Fi:(l0.length==l1.length)=true:=by first|simpa using c3|(simp at c3⊢;omega)
  clear c3
  have H':=ak H
  clear H
  go_enter Tryz.func68,Tryz.ntmps68
  go_wp2
  repeat (go_quiet (fail);try go_wp2)
  go_loopg [13] k (fun kq QB w'=>∃(dL:Int),QB= .int .i64 dL∧Aside0 (bI.l0 kq l0 l1 (l0.length:Int) dL=some r)∧Aside0 (kq≤k)∧cQ w w')
  case atStart=>exact ⟨(0),er,H',⟨Nat.le_refl _⟩,gV⟩
  case round=>
   clear H'
   (try clear c1);(try clear jX);(try clear xx);(try clear Fi)
   obtain ⟨dL,rfl,HA,gf,⟨m1,rfl⟩⟩:=hrel
   cases gk with
   |zero=>exact absurd HA.out (by simp [bI.l0])
   |succ k1=>
    have H:=HA.out;clear HA
    simp only [bI.l0] at H
    by_cases c4:dL<(l0.length:Int)
    ·rw [if_pos c4] at H
     have jn:=decide_eq_true c4
     clear c4;replace H:=dy H;obtain ⟨c5,H⟩:=H;have mh:=decide_eq_true c5;clear c5;replace H:=dy H;obtain ⟨c6,H⟩:=H;have kO:=decide_eq_true c6;clear c6;replace H:=dy H;obtain ⟨c7,H⟩:=H;have tw:=decide_eq_true c7;clear c7;replace H:=bS H;obtain ⟨Vu,A8,H⟩:=H
     by_cases c9:Vu=true
     ·subst c9
      have H1:(bI.l0 k1 l0 l1 (l0.length:Int) (wrap64 (dL+1)))=some r:=by rw [if_pos rfl] at H;exact H
      clear H
      have H:=H1
      clear H1
      have H':=ak H
      clear H
      have Gv:0≤(dL:Int):=da
      have Gf:dL<(l0.length:Int):=da
      obtain ⟨acI,Y8,Yb,XE,RE,uq,uz⟩:=ke fZ.out dL Gv Gf
      cases XE
      have qf:=ak uz;have qh:=ak uq;clear uz uq;replace Gv:=eq_true Gv;replace Gf:=eq_true Gf
      have Gu:0≤(dL:Int):=da
      have Ge:dL<(l1.length:Int):=da
      obtain ⟨acH,Y7,Ya,XD,RD,uo,uy⟩:=ke yc.out dL Gu Ge
      cases XD
      have qd:=ak uy;have qg:=ak uo;clear uy uo;replace Gu:=eq_true Gu;replace Ge:=eq_true Ge
      go_wp2_with (first|(go_at_call 38;(with_reducible refine (cI.calls k1 _ _ (aN l0 dL) _ _ (aN l1 dL) true _ ?side1 ?side2 ?side3 ?side4 A8.out).mono ?_);(case side1=>exact cd qf.out);(case side2=>exact qh.out);(case side3=>exact cd qd.out);(case side4=>exact qg.out);rintro e w' ⟨rfl,⟨nd,rfl⟩⟩;(try first|exact ⟨rfl,_,World.drewN_drewN _ _ _⟩|exact ⟨rfl,_,Eq.trans (World.drewN_drewN _ _ _) (congrArg (World.drewN _) (Nat.add_assoc _ _ _))⟩)))
      repeat (go_quiet (first|(go_at_call 38;(with_reducible refine (cI.calls k1 _ _ (aN l0 dL) _ _ (aN l1 dL) true _ ?side1 ?side2 ?side3 ?side4 A8.out).mono ?_);(case side1=>exact cd qf.out);(case side2=>exact qh.out);(case side3=>exact cd qd.out);(case side4=>exact qg.out);rintro e w' ⟨rfl,⟨nd,rfl⟩⟩;(try first|exact ⟨rfl,_,World.drewN_drewN _ _ _⟩|exact ⟨rfl,_,Eq.trans (World.drewN_drewN _ _ _) (congrArg (World.drewN _) (Nat.add_assoc _ _ _))⟩)));try go_wp2_with (first|(go_at_call 38;(with_reducible refine (cI.calls k1 _ _ (aN l0 dL) _ _ (aN l1 dL) true _ ?side1 ?side2 ?side3 ?side4 A8.out).mono ?_);(case side1=>exact cd qf.out);(case side2=>exact qh.out);(case side3=>exact cd qd.out);(case side4=>exact qg.out);rintro e w' ⟨rfl,⟨nd,rfl⟩⟩;(try first|exact ⟨rfl,_,World.drewN_drewN _ _ _⟩|exact ⟨rfl,_,Eq.trans (World.drewN_drewN _ _ _) (congrArg (World.drewN _) (Nat.add_assoc _ _ _))⟩))))
      go_roundg k1
      case measure=>have:=gf.out;omega
      case rel=>exact ⟨(wrap64 (dL+1)),er,H',⟨by have:=gf.out;omega⟩,gV⟩
     ·replace c9:=Bool.eq_false_iff.mpr c9
      subst c9
      have H1:(some false)=some r:=by rw [if_neg (show¬(false=true) by decide)] at H;exact H
      clear H
      have H:=H1
      clear H1
      obtain rfl:=Option.some.inj H
      have Gv:0≤(dL:Int):=da
      have Gf:dL<(l0.length:Int):=da
      obtain ⟨acI,Y8,Yb,XE,RE,uq,uz⟩:=ke fZ.out dL Gv Gf
      cases XE
      have qf:=ak uz;have qh:=ak uq;clear uz uq;replace Gv:=eq_true Gv;replace Gf:=eq_true Gf
      have Gu:0≤(dL:Int):=da
      have Ge:dL<(l1.length:Int):=da
      obtain ⟨acH,Y7,Ya,XD,RD,uo,uy⟩:=ke yc.out dL Gu Ge
      cases XD
      have qd:=ak uy;have qg:=ak uo;clear uy uo;replace Gu:=eq_true Gu;replace Ge:=eq_true Ge
      go_wp2_with (first|(go_at_call 38;(with_reducible refine (cI.calls k1 _ _ (aN l0 dL) _ _ (aN l1 dL) false _ ?side1 ?side2 ?side3 ?side4 A8.out).mono ?_);(case side1=>exact cd qf.out);(case side2=>exact qh.out);(case side3=>exact cd qd.out);(case side4=>exact qg.out);rintro e w' ⟨rfl,⟨nd,rfl⟩⟩;(try first|exact ⟨rfl,_,World.drewN_drewN _ _ _⟩|exact ⟨rfl,_,Eq.trans (World.drewN_drewN _ _ _) (congrArg (World.drewN _) (Nat.add_assoc _ _ _))⟩)))
      repeat (go_quiet (first|(go_at_call 38;(with_reducible refine (cI.calls k1 _ _ (aN l0 dL) _ _ (aN l1 dL) false _ ?side1 ?side2 ?side3 ?side4 A8.out).mono ?_);(case side1=>exact cd qf.out);(case side2=>exact qh.out);(case side3=>exact cd qd.out);(case side4=>exact qg.out);rintro e w' ⟨rfl,⟨nd,rfl⟩⟩;(try first|exact ⟨rfl,_,World.drewN_drewN _ _ _⟩|exact ⟨rfl,_,Eq.trans (World.drewN_drewN _ _ _) (congrArg (World.drewN _) (Nat.add_assoc _ _ _))⟩)));try go_wp2_with (first|(go_at_call 38;(with_reducible refine (cI.calls k1 _ _ (aN l0 dL) _ _ (aN l1 dL) false _ ?side1 ?side2 ?side3 ?side4 A8.out).mono ?_);(case side1=>exact cd qf.out);(case side2=>exact qh.out);(case side3=>exact cd qd.out);(case side4=>exact qg.out);rintro e w' ⟨rfl,⟨nd,rfl⟩⟩;(try first|exact ⟨rfl,_,World.drewN_drewN _ _ _⟩|exact ⟨rfl,_,Eq.trans (World.drewN_drewN _ _ _) (congrArg (World.drewN _) (Nat.add_assoc _ _ _))⟩))))
      go_ret
      exact ⟨er,gV⟩
    ·rw [if_neg c4] at H
     have jn:=decide_eq_false c4
     clear c4
     obtain rfl:=Option.some.inj H
     go_wp2
     repeat (go_quiet (fail);try go_wp2)
     go_ret
     exact ⟨er,gV⟩
 ·rw [if_neg c3] at H
  have jX:=lq c3
  have xx:=mj c3
  have Fi:(l0.length==l1.length)=false:=by first|simpa using c3|(simp at c3⊢;omega)
  obtain rfl:=Option.some.inj H
  go_enter Tryz.func68,Tryz.ntmps68
  go_wp2
  repeat (go_quiet (fail);try go_wp2)
  go_ret
  exact ⟨er,gV⟩
def iq.f (k:Nat) (bn:List Int) (aU:List (List ByteArray)) (bu:List (List ByteArray)) (aM:List (List ByteArray)) (bR:Int) (qw:List Int) (qv:List (List ByteArray)) (qu:List (List ByteArray)) (qt:List (List ByteArray)) (uO:Int):Option (Bool):=(dJ.f k bn qw).bind fun MI=>(if MI=true then ((bI.f k aU qv).bind fun F5=>(if F5=true then ((bI.f k bu qu).bind fun Cl=>(if Cl=true then ((bI.f k aM qt).bind fun yw=>(if yw=true then (some (bR==uO)) else (some false))) else (some false))) else (some false))) else (some false))
theorem iq.calls (k:Nat) (fV:Option Addr) (fT:Nat) (bn:List Int) (gv:Option Addr) (fS:Nat) (aU:List (List ByteArray)) (fU:Option Addr) (fR:Nat) (bu:List (List ByteArray)) (gB:Option Addr) (fQ:Nat) (aM:List (List ByteArray)) (bR:Int) (Iu:Option Addr) (Ib:Nat) (qw:List Int) (It:Option Addr) (Ia:Nat) (qv:List (List ByteArray)) (Is:Option Addr) (H9:Nat) (qu:List (List ByteArray)) (Ir:Option Addr) (H8:Nat) (qt:List (List ByteArray)) (uO:Int) (r:Bool) (w:World) (jE:Kd.C (Kd.int .i64) w fV bn.length bn) (jI:bn.length≤fT) (jD:Kd.C (Kd.slice 9 Kd.string) w gv aU.length aU) (jH:aU.length≤fS) (jC:Kd.C (Kd.slice 9 Kd.string) w fU bu.length bu) (jG:bu.length≤fR) (jB:Kd.C (Kd.slice 9 Kd.string) w gB aM.length aM) (jF:aM.length≤fQ) (TB:Kd.C (Kd.int .i64) w Iu qw.length qw) (TR:qw.length≤Ib) (TA:Kd.C (Kd.slice 9 Kd.string) w It qv.length qv) (TQ:qv.length≤Ia) (Tz:Kd.C (Kd.slice 9 Kd.string) w Is qu.length qu) (TP:qu.length≤H9) (Ty:Kd.C (Kd.slice 9 Kd.string) w Ir qt.length qt) (TO:qt.length≤H8) (h:iq.f k bn aU bu aM bR qw qv qu qt uO=some r):
  Calls Tryz.prog 33 #[.agg #[.slice fV bn.length fT,.slice gv aU.length fS,.slice fU bu.length fR,.slice gB aM.length fQ,.int .i64 bR],.agg #[.slice Iu qw.length Ib,.slice It qv.length Ia,.slice Is qu.length H9,.slice Ir qt.length H8,.int .i64 uO]] w fun e w'=>e= .returned (.bool r)∧Below w.heap.size w w':=by
 have lg:=Tryz.underlying27
 have gE:=ak jE;have gF:=ak jI;clear jE jI;have iM:=ak jD;have jx:=ak jH;clear jD jH;have iy:=ak jC;have jK:=ak jG;clear jC jG;have iL:=ak jB;have jY:=ak jF;clear jB jF;have FD:=ak TB;have FH:=ak TR;clear TB TR;have JX:=ak TA;have J2:=ak TQ;clear TA TQ;have PU:=ak Tz;have Qc:=ak TP;clear Tz TP;have UO:=ak Ty;have U4:=ak TO;clear Ty TO
 have HB:=ak (Below.refl w.heap.size w)
 have H:((dJ.f k bn qw).bind fun MI=>(if MI=true then ((bI.f k aU qv).bind fun F5=>(if F5=true then ((bI.f k bu qu).bind fun Cl=>(if Cl=true then ((bI.f k aM qt).bind fun yw=>(if yw=true then (some (bR==uO)) else (some false))) else (some false))) else (some false))) else (some false)))=some r:=h
 clear h;replace H:=bS H;obtain ⟨MI,A3,H⟩:=H
 by_cases c4:MI=true
 ·subst c4
  have H1:((bI.f k aU qv).bind fun F5=>(if F5=true then ((bI.f k bu qu).bind fun Cl=>(if Cl=true then ((bI.f k aM qt).bind fun yw=>(if yw=true then (some (bR==uO)) else (some false))) else (some false))) else (some false)))=some r:=by rw [if_pos rfl] at H;exact H
  clear H
  have H:=H1
  clear H1;replace H:=bS H;obtain ⟨F5,A5,H⟩:=H
  by_cases c6:F5=true
  ·subst c6
   have H1:((bI.f k bu qu).bind fun Cl=>(if Cl=true then ((bI.f k aM qt).bind fun yw=>(if yw=true then (some (bR==uO)) else (some false))) else (some false)))=some r:=by rw [if_pos rfl] at H;exact H
   clear H
   have H:=H1
   clear H1;replace H:=bS H;obtain ⟨Cl,A7,H⟩:=H
   by_cases c8:Cl=true
   ·subst c8
    have H1:((bI.f k aM qt).bind fun yw=>(if yw=true then (some (bR==uO)) else (some false)))=some r:=by rw [if_pos rfl] at H;exact H
    clear H
    have H:=H1
    clear H1;replace H:=bS H;obtain ⟨yw,A9,H⟩:=H
    by_cases gW:yw=true
    ·subst gW
     have H1:(some (bR==uO))=some r:=by rw [if_pos rfl] at H;exact H
     clear H
     have H:=H1
     clear H1
     obtain rfl:=Option.some.inj H
     go_enter Tryz.func33,Tryz.ntmps33
     go_wp2_with (first|((with_reducible refine av (N:=2) rfl ?_);refine bN 2 #[.slice fV bn.length fT,.slice gv aU.length fS,.slice fU bu.length fR,.slice gB aM.length fQ,.int .i64 bR] 27 ?_;intro oz hg Vh eI hb;have iY:=ak (eI);have J8:=ak (mX hg (aq HB));have fP:=ak (mX hg (aq HB));replace HB:=ak (aH (aq HB) hb);clear hb eI hg)|((with_reducible refine av (N:=3) rfl ?_);refine bN 3 #[.slice Iu qw.length Ib,.slice It qv.length Ia,.slice Is qu.length H9,.slice Ir qt.length H8,.int .i64 uO] 27 ?_;intro oy hg w12 eI hb;have u5:=ak (eI);have J6:=ak (mX hg (az HB fP));have jy:=ak (mX hg (az HB fP));replace HB:=ak (aH (az HB fP) hb);have kQ:=ak ((by rw [hg];exact Nat.ne_of_lt (iR (dm iY)):oz≠oy));have kP:=ak ((by rw [hg];exact Nat.ne_of_gt (iR (dm iY)):oy≠oz));replace iY:=ak (cW (dm iY) hb);clear hb eI hg;have aik:=kQ.out;have aic:=kP.out;have Vg:=an iY;have aab:=an u5)|(go_at_call 67;(with_reducible refine (dJ.calls k _ _ bn _ _ qw true _ ?side1 ?side2 ?side3 ?side4 A3.out).mono ?_);(case side1=>exact cd (Kd.aD gE.out HB.out));(case side2=>exact gF.out);(case side3=>exact cd (Kd.aD FD.out HB.out));(case side4=>exact FH.out);rintro e w' ⟨rfl,⟨nd,rfl⟩⟩)|(go_at_call 68;(with_reducible refine (bI.calls k _ _ aU _ _ qv true _ ?side1 ?side2 ?side3 ?side4 A5.out).mono ?_);(case side1=>exact cd (Kd.aD iM.out (gq HB fP jy)));(case side2=>exact jx.out);(case side3=>exact cd (Kd.aD JX.out (gq HB fP jy)));(case side4=>exact J2.out);rintro e w' ⟨rfl,⟨nd,rfl⟩⟩)|(go_at_call 68;(with_reducible refine (bI.calls k _ _ bu _ _ qu true _ ?side1 ?side2 ?side3 ?side4 A7.out).mono ?_);(case side1=>exact cd (Kd.aD iy.out (gq HB fP jy)));(case side2=>exact jK.out);(case side3=>exact cd (Kd.aD PU.out (gq HB fP jy)));(case side4=>exact Qc.out);rintro e w' ⟨rfl,⟨nd,rfl⟩⟩)|(go_at_call 68;(with_reducible refine (bI.calls k _ _ aM _ _ qt true _ ?side1 ?side2 ?side3 ?side4 A9.out).mono ?_);(case side1=>exact cd (Kd.aD iL.out (gq HB fP jy)));(case side2=>exact jY.out);(case side3=>exact cd (Kd.aD UO.out (gq HB fP jy)));(case side4=>exact U4.out);rintro e w' ⟨rfl,⟨nd,rfl⟩⟩))
     go_ret
     exact ⟨kK,gq HB fP jy⟩
    ·replace gW:=Bool.eq_false_iff.mpr gW
     subst gW
     have H1:(some false)=some r:=by rw [if_neg (show¬(false=true) by decide)] at H;exact H
     clear H
     have H:=H1
     clear H1
     obtain rfl:=Option.some.inj H
     go_enter Tryz.func33,Tryz.ntmps33
     go_wp2_with (first|((with_reducible refine av (N:=2) rfl ?_);refine bN 2 #[.slice fV bn.length fT,.slice gv aU.length fS,.slice fU bu.length fR,.slice gB aM.length fQ,.int .i64 bR] 27 ?_;intro oz hg Ml eI hb;have iY:=ak (eI);have J8:=ak (mX hg (aq HB));have fP:=ak (mX hg (aq HB));replace HB:=ak (aH (aq HB) hb);clear hb eI hg)|((with_reducible refine av (N:=3) rfl ?_);refine bN 3 #[.slice Iu qw.length Ib,.slice It qv.length Ia,.slice Is qu.length H9,.slice Ir qt.length H8,.int .i64 uO] 27 ?_;intro oy hg L6 eI hb;have u5:=ak (eI);have J6:=ak (mX hg (az HB fP));have jy:=ak (mX hg (az HB fP));replace HB:=ak (aH (az HB fP) hb);have kQ:=ak ((by rw [hg];exact Nat.ne_of_lt (iR (dm iY)):oz≠oy));have kP:=ak ((by rw [hg];exact Nat.ne_of_gt (iR (dm iY)):oy≠oz));replace iY:=ak (cW (dm iY) hb);clear hb eI hg;have aij:=kQ.out;have aib:=kP.out;have ai6:=an iY;have pz:=an u5)|(go_at_call 67;(with_reducible refine (dJ.calls k _ _ bn _ _ qw true _ ?side1 ?side2 ?side3 ?side4 A3.out).mono ?_);(case side1=>exact cd (Kd.aD gE.out HB.out));(case side2=>exact gF.out);(case side3=>exact cd (Kd.aD FD.out HB.out));(case side4=>exact FH.out);rintro e w' ⟨rfl,⟨nd,rfl⟩⟩)|(go_at_call 68;(with_reducible refine (bI.calls k _ _ aU _ _ qv true _ ?side1 ?side2 ?side3 ?side4 A5.out).mono ?_);(case side1=>exact cd (Kd.aD iM.out (gq HB fP jy)));(case side2=>exact jx.out);(case side3=>exact cd (Kd.aD JX.out (gq HB fP jy)));(case side4=>exact J2.out);rintro e w' ⟨rfl,⟨nd,rfl⟩⟩)|(go_at_call 68;(with_reducible refine (bI.calls k _ _ bu _ _ qu true _ ?side1 ?side2 ?side3 ?side4 A7.out).mono ?_);(case side1=>exact cd (Kd.aD iy.out (gq HB fP jy)));(case side2=>exact jK.out);(case side3=>exact cd (Kd.aD PU.out (gq HB fP jy)));(case side4=>exact Qc.out);rintro e w' ⟨rfl,⟨nd,rfl⟩⟩)|(go_at_call 68;(with_reducible refine (bI.calls k _ _ aM _ _ qt false _ ?side1 ?side2 ?side3 ?side4 A9.out).mono ?_);(case side1=>exact cd (Kd.aD iL.out (gq HB fP jy)));(case side2=>exact jY.out);(case side3=>exact cd (Kd.aD UO.out (gq HB fP jy)));(case side4=>exact U4.out);rintro e w' ⟨rfl,⟨nd,rfl⟩⟩))
     go_ret
     exact ⟨kK,gq HB fP jy⟩
   ·replace c8:=Bool.eq_false_iff.mpr c8
    subst c8
    have H1:(some false)=some r:=by rw [if_neg (show¬(false=true) by decide)] at H;exact H
    clear H
    have H:=H1
    clear H1
    obtain rfl:=Option.some.inj H
    go_enter Tryz.func33,Tryz.ntmps33
    go_wp2_with (first|((with_reducible refine av (N:=2) rfl ?_);refine bN 2 #[.slice fV bn.length fT,.slice gv aU.length fS,.slice fU bu.length fR,.slice gB aM.length fQ,.int .i64 bR] 27 ?_;intro oz hg w21 eI hb;have iY:=ak (eI);have J8:=ak (mX hg (aq HB));have fP:=ak (mX hg (aq HB));replace HB:=ak (aH (aq HB) hb);clear hb eI hg)|((with_reducible refine av (N:=3) rfl ?_);refine bN 3 #[.slice Iu qw.length Ib,.slice It qv.length Ia,.slice Is qu.length H9,.slice Ir qt.length H8,.int .i64 uO] 27 ?_;intro oy hg w22 eI hb;have u5:=ak (eI);have J6:=ak (mX hg (az HB fP));have jy:=ak (mX hg (az HB fP));replace HB:=ak (aH (az HB fP) hb);have kQ:=ak ((by rw [hg];exact Nat.ne_of_lt (iR (dm iY)):oz≠oy));have kP:=ak ((by rw [hg];exact Nat.ne_of_gt (iR (dm iY)):oy≠oz));replace iY:=ak (cW (dm iY) hb);clear hb eI hg;have aih:=kQ.out;have ah9:=kP.out;have ai5:=an iY;have ai4:=an u5)|(go_at_call 67;(with_reducible refine (dJ.calls k _ _ bn _ _ qw true _ ?side1 ?side2 ?side3 ?side4 A3.out).mono ?_);(case side1=>exact cd (Kd.aD gE.out HB.out));(case side2=>exact gF.out);(case side3=>exact cd (Kd.aD FD.out HB.out));(case side4=>exact FH.out);rintro e w' ⟨rfl,⟨nd,rfl⟩⟩)|(go_at_call 68;(with_reducible refine (bI.calls k _ _ aU _ _ qv true _ ?side1 ?side2 ?side3 ?side4 A5.out).mono ?_);(case side1=>exact cd (Kd.aD iM.out (gq HB fP jy)));(case side2=>exact jx.out);(case side3=>exact cd (Kd.aD JX.out (gq HB fP jy)));(case side4=>exact J2.out);rintro e w' ⟨rfl,⟨nd,rfl⟩⟩)|(go_at_call 68;(with_reducible refine (bI.calls k _ _ bu _ _ qu false _ ?side1 ?side2 ?side3 ?side4 A7.out).mono ?_);(case side1=>exact cd (Kd.aD iy.out (gq HB fP jy)));(case side2=>exact jK.out);(case side3=>exact cd (Kd.aD PU.out (gq HB fP jy)));(case side4=>exact Qc.out);rintro e w' ⟨rfl,⟨nd,rfl⟩⟩))
    go_ret
    exact ⟨kK,gq HB fP jy⟩
  ·replace c6:=Bool.eq_false_iff.mpr c6
   subst c6
   have H1:(some false)=some r:=by rw [if_neg (show¬(false=true) by decide)] at H;exact H
   clear H
   have H:=H1
   clear H1
   obtain rfl:=Option.some.inj H
   go_enter Tryz.func33,Tryz.ntmps33
   go_wp2_with (first|((with_reducible refine av (N:=2) rfl ?_);refine bN 2 #[.slice fV bn.length fT,.slice gv aU.length fS,.slice fU bu.length fR,.slice gB aM.length fQ,.int .i64 bR] 27 ?_;intro oz hg w26 eI hb;have iY:=ak (eI);have J8:=ak (mX hg (aq HB));have fP:=ak (mX hg (aq HB));replace HB:=ak (aH (aq HB) hb);clear hb eI hg)|((with_reducible refine av (N:=3) rfl ?_);refine bN 3 #[.slice Iu qw.length Ib,.slice It qv.length Ia,.slice Is qu.length H9,.slice Ir qt.length H8,.int .i64 uO] 27 ?_;intro oy hg w27 eI hb;have u5:=ak (eI);have J6:=ak (mX hg (az HB fP));have jy:=ak (mX hg (az HB fP));replace HB:=ak (aH (az HB fP) hb);have kQ:=ak ((by rw [hg];exact Nat.ne_of_lt (iR (dm iY)):oz≠oy));have kP:=ak ((by rw [hg];exact Nat.ne_of_gt (iR (dm iY)):oy≠oz));replace iY:=ak (cW (dm iY) hb);clear hb eI hg;have aa3:=kQ.out;have aa2:=kP.out;have aeJ:=an iY;have ai3:=an u5)|(go_at_call 67;(with_reducible refine (dJ.calls k _ _ bn _ _ qw true _ ?side1 ?side2 ?side3 ?side4 A3.out).mono ?_);(case side1=>exact cd (Kd.aD gE.out HB.out));(case side2=>exact gF.out);(case side3=>exact cd (Kd.aD FD.out HB.out));(case side4=>exact FH.out);rintro e w' ⟨rfl,⟨nd,rfl⟩⟩)|(go_at_call 68;(with_reducible refine (bI.calls k _ _ aU _ _ qv false _ ?side1 ?side2 ?side3 ?side4 A5.out).mono ?_);(case side1=>exact cd (Kd.aD iM.out (gq HB fP jy)));(case side2=>exact jx.out);(case side3=>exact cd (Kd.aD JX.out (gq HB fP jy)));(case side4=>exact J2.out);rintro e w' ⟨rfl,⟨nd,rfl⟩⟩))
   go_ret
   exact ⟨kK,gq HB fP jy⟩
 ·replace c4:=Bool.eq_false_iff.mpr c4
  subst c4
  have H1:(some false)=some r:=by rw [if_neg (show¬(false=true) by decide)] at H;exact H
  clear H
  have H:=H1
  clear H1
  obtain rfl:=Option.some.inj H
  go_enter Tryz.func33,Tryz.ntmps33
  go_wp2_with (first|((with_reducible refine av (N:=2) rfl ?_);refine bN 2 #[.slice fV bn.length fT,.slice gv aU.length fS,.slice fU bu.length fR,.slice gB aM.length fQ,.int .i64 bR] 27 ?_;intro oz hg w31 eI hb;have iY:=ak (eI);have J8:=ak (mX hg (aq HB));have fP:=ak (mX hg (aq HB));replace HB:=ak (aH (aq HB) hb);clear hb eI hg)|((with_reducible refine av (N:=3) rfl ?_);refine bN 3 #[.slice Iu qw.length Ib,.slice It qv.length Ia,.slice Is qu.length H9,.slice Ir qt.length H8,.int .i64 uO] 27 ?_;intro oy hg w32 eI hb;have u5:=ak (eI);have J6:=ak (mX hg (az HB fP));have jy:=ak (mX hg (az HB fP));replace HB:=ak (aH (az HB fP) hb);have kQ:=ak ((by rw [hg];exact Nat.ne_of_lt (iR (dm iY)):oz≠oy));have kP:=ak ((by rw [hg];exact Nat.ne_of_gt (iR (dm iY)):oy≠oz));replace iY:=ak (cW (dm iY) hb);clear hb eI hg;have aif:=kQ.out;have ah8:=kP.out;have ai2:=an iY;have yt:=an u5)|(go_at_call 67;(with_reducible refine (dJ.calls k _ _ bn _ _ qw false _ ?side1 ?side2 ?side3 ?side4 A3.out).mono ?_);(case side1=>exact cd (Kd.aD gE.out HB.out));(case side2=>exact gF.out);(case side3=>exact cd (Kd.aD FD.out HB.out));(case side4=>exact FH.out);rintro e w' ⟨rfl,⟨nd,rfl⟩⟩))
  go_ret
  exact ⟨kK,gq HB fP jy⟩
def dw.l0:Nat→Int→List (List ByteArray)→Int→Int→Option (Int)
  |0,_,_,_,_=>none
  |k+1,x3,x7,x8,x9=>if x9<x8 then (if 0≤x9 then (if x9<(x7.length:Int) then (dw.l0 k (wrap64 (x3+((aN x7 x9).length:Int))) x7 x8 (wrap64 (x9+1))) else (none)) else (none)) else (some x3)
def dw.f (k:Nat) (bn:List Int) (aU:List (List ByteArray)) (bu:List (List ByteArray)) (aM:List (List ByteArray)) (bR:Int):Option (Int):=dw.l0 k 0 aU (aU.length:Int) 0
theorem dw.calls (k:Nat) (fV:Option Addr) (fT:Nat) (bn:List Int) (gv:Option Addr) (fS:Nat) (aU:List (List ByteArray)) (fU:Option Addr) (fR:Nat) (bu:List (List ByteArray)) (gB:Option Addr) (fQ:Nat) (aM:List (List ByteArray)) (bR:Int) (r:Int) (w:World) (jE:Kd.C (Kd.int .i64) w fV bn.length bn) (jI:bn.length≤fT) (jD:Kd.C (Kd.slice 9 Kd.string) w gv aU.length aU) (jH:aU.length≤fS) (jC:Kd.C (Kd.slice 9 Kd.string) w fU bu.length bu) (jG:bu.length≤fR) (jB:Kd.C (Kd.slice 9 Kd.string) w gB aM.length aM) (jF:aM.length≤fQ) (h:dw.f k bn aU bu aM bR=some r):
  Calls Tryz.prog 69 #[.agg #[.slice fV bn.length fT,.slice gv aU.length fS,.slice fU bu.length fR,.slice gB aM.length fQ,.int .i64 bR]] w fun e w'=>e= .returned (.int .i64 r)∧Below w.heap.size w w':=by
 have lg:=Tryz.underlying27
 have gE:=ak jE;have gF:=ak jI;clear jE jI;have iM:=ak jD;have jx:=ak jH;clear jD jH;have iy:=ak jC;have jK:=ak jG;clear jC jG;have iL:=ak jB;have jY:=ak jF;clear jB jF
 have HB:=ak (Below.refl w.heap.size w)
 have H:(dw.l0 k 0 aU (aU.length:Int) 0)=some r:=h
 clear h
 have H':=ak H
 clear H
 go_enter Tryz.func69,Tryz.ntmps69
 go_wp2_with (first|((with_reducible refine av (N:=1) rfl ?_);refine bN 1 #[.slice fV bn.length fT,.slice gv aU.length fS,.slice fU bu.length fR,.slice gB aM.length fQ,.int .i64 bR] 27 ?_;intro abl hg w2 eI hb;have Ka:=ak (eI);have aiX:=ak (mX hg (aq HB));have Qd:=ak (mX hg (aq HB));replace HB:=ak (aH (aq HB) hb);clear hb eI hg;obtain ⟨Xi,Xh,Xg,Xf,Xe,WT,WS,WR,WQ,WO⟩:=an Ka))
 go_loopg [3,9] k (fun kq v3 v9 w'=>∃(ja:Int) (hU:Int),v3= .int .i64 ja∧v9= .int .i64 hU∧Aside0 (dw.l0 kq ja aU (aU.length:Int) hU=some r)∧Aside0 (kq≤k)∧Aside0 (w'.heap[abl]? =some (.cells #[(.slice fV bn.length fT),(.slice gv aU.length fS),(.slice fU bu.length fR),(.slice gB aM.length fQ),.int .i64 bR] 27 (0,0)))∧Aside0 (Below w.heap.size w w'))
 case atStart=>exact ⟨(0),(0),er,er,H',⟨Nat.le_refl _⟩,⟨dm Ka⟩,⟨az HB Qd⟩⟩
 case round=>
  clear H'
  (try clear Xi);(try clear Xh);(try clear Xg);(try clear Xf);(try clear Xe);(try clear WT);(try clear WS);(try clear WR);(try clear WQ);(try clear WO)
  obtain ⟨ja,hU,rfl,rfl,HA,gf,Ka,HB⟩:=hrel
  cases gk with
  |zero=>exact absurd HA.out (by simp [dw.l0])
  |succ k1=>
   have H:=HA.out;clear HA
   simp only [dw.l0] at H
   by_cases c4:hU<(aU.length:Int)
   ·rw [if_pos c4] at H
    have jn:=decide_eq_true c4
    clear c4;replace H:=dy H;obtain ⟨c5,H⟩:=H;have mh:=decide_eq_true c5;clear c5;replace H:=dy H;obtain ⟨c6,H⟩:=H;have kO:=decide_eq_true c6;clear c6
    have H':=ak H
    clear H
    have VV:0≤(hU:Int):=da
    have VH:hU<(aU.length:Int):=da
    obtain ⟨aiJ,ah0,ahA,aha,CT,Jd,Jr⟩:=ke iM.out hU VV VH
    cases aha
    replace CT:=(HB.out.cell (World.block_lt_of_cell? w _ CT)).trans CT
    have aet:=ak Jr;have aew:=ak Jd;clear Jr Jd;replace VV:=eq_true VV;replace VH:=eq_true VH;go_wp2
    go_roundg k1
    case measure=>have:=gf.out;omega
    case rel=>exact ⟨(wrap64 (ja+((aN aU hU).length:Int))),(wrap64 (hU+1)),er,er,H',⟨by have:=gf.out;omega⟩,⟨dm Ka⟩,⟨az HB Qd⟩⟩
   ·rw [if_neg c4] at H
    have jn:=decide_eq_false c4
    clear c4
    obtain rfl:=Option.some.inj H
    go_wp2
    go_ret
    exact ⟨kK,az HB Qd⟩
def gp.f (k:Nat) (bn:List Int) (aU:List (List ByteArray)) (bu:List (List ByteArray)) (aM:List (List ByteArray)) (bR:Int):Option (Int×Bool):=(ax.f k bn aU bu aM bR).bind fun MH=>(if MH=true then ((dw.f k bn aU bu aM bR).bind fun F4=>(some (F4,true))) else (some (0,false)))
theorem gp.calls (k:Nat) (fV:Option Addr) (fT:Nat) (bn:List Int) (gv:Option Addr) (fS:Nat) (aU:List (List ByteArray)) (fU:Option Addr) (fR:Nat) (bu:List (List ByteArray)) (gB:Option Addr) (fQ:Nat) (aM:List (List ByteArray)) (bR:Int) (r1:Int) (r2:Bool) (w:World) (jE:Kd.C (Kd.int .i64) w fV bn.length bn) (jI:bn.length≤fT) (jD:Kd.C (Kd.slice 9 Kd.string) w gv aU.length aU) (jH:aU.length≤fS) (jC:Kd.C (Kd.slice 9 Kd.string) w fU bu.length bu) (jG:bu.length≤fR) (jB:Kd.C (Kd.slice 9 Kd.string) w gB aM.length aM) (jF:aM.length≤fQ) (h:gp.f k bn aU bu aM bR=some (r1,r2)):
  Calls Tryz.prog 34 #[.agg #[.slice fV bn.length fT,.slice gv aU.length fS,.slice fU bu.length fR,.slice gB aM.length fQ,.int .i64 bR]] w fun e w'=>e= .returned (.tuple #[.int .i64 r1,.bool r2])∧Below w.heap.size w w':=by
 have lg:=Tryz.underlying27
 have gE:=ak jE;have gF:=ak jI;clear jE jI;have iM:=ak jD;have jx:=ak jH;clear jD jH;have iy:=ak jC;have jK:=ak jG;clear jC jG;have iL:=ak jB;have jY:=ak jF;clear jB jF
 have HB:=ak (Below.refl w.heap.size w)
 have H:((ax.f k bn aU bu aM bR).bind fun MH=>(if MH=true then ((dw.f k bn aU bu aM bR).bind fun F4=>(some (F4,true))) else (some (0,false))))=some (r1,r2):=h
 clear h;replace H:=bS H;obtain ⟨MH,A2,H⟩:=H
 by_cases c3:MH=true
 ·subst c3
  have H1:((dw.f k bn aU bu aM bR).bind fun F4=>(some (F4,true)))=some (r1,r2):=by rw [if_pos rfl] at H;exact H
  clear H
  have H:=H1
  clear H1;replace H:=bS H;obtain ⟨F4,A4,H⟩:=H
  simp only [Option.some.injEq,Prod.mk.injEq] at H
  obtain ⟨rfl,rfl⟩:=H
  go_enter Tryz.func34,Tryz.ntmps34
  go_wp2_with (first|((with_reducible refine av (N:=1) rfl ?_);refine bN 1 #[.slice fV bn.length fT,.slice gv aU.length fS,.slice fU bu.length fR,.slice gB aM.length fQ,.int .i64 bR] 27 ?_;intro abk hg w5 eI hb;have sS:=ak (eI);have ad7:=ak (mX hg (aq HB));have Ca:=ak (mX hg (aq HB));replace HB:=ak (aH (aq HB) hb);clear hb eI hg;have jZ:=an sS)|(go_at_call 35;(with_reducible refine (ax.calls k _ _ bn _ _ aU _ _ bu _ _ aM bR true _ ?side1 ?side2 ?side3 ?side4 ?side5 ?side6 ?side7 ?side8 A2.out).mono ?_);(case side1=>exact cd (Kd.aD gE.out HB.out));(case side2=>exact gF.out);(case side3=>exact cd (Kd.aD iM.out HB.out));(case side4=>exact jx.out);(case side5=>exact cd (Kd.aD iy.out HB.out));(case side6=>exact jK.out);(case side7=>exact cd (Kd.aD iL.out HB.out));(case side8=>exact jY.out);rintro e w7 ⟨rfl,hb⟩;replace sS:=ak (cW (dm sS) hb);replace HB:=ak (aH (az HB Ca) hb);(try clear hb);have kZ:=an sS)|(go_at_call 69;(with_reducible refine (dw.calls k _ _ bn _ _ aU _ _ bu _ _ aM bR F4 _ ?side1 ?side2 ?side3 ?side4 ?side5 ?side6 ?side7 ?side8 A4.out).mono ?_);(case side1=>exact cd (Kd.aD gE.out HB.out));(case side2=>exact gF.out);(case side3=>exact cd (Kd.aD iM.out HB.out));(case side4=>exact jx.out);(case side5=>exact cd (Kd.aD iy.out HB.out));(case side6=>exact jK.out);(case side7=>exact cd (Kd.aD iL.out HB.out));(case side8=>exact jY.out);rintro e w9 ⟨rfl,hb⟩;replace sS:=ak (cW (dm sS) hb);replace HB:=ak (aH (az HB Ca) hb);(try clear hb)))
  go_ret2
  exact ⟨kK,az HB Ca⟩
 ·replace c3:=Bool.eq_false_iff.mpr c3
  subst c3
  have H1:(some (0,false))=some (r1,r2):=by rw [if_neg (show¬(false=true) by decide)] at H;exact H
  clear H
  have H:=H1
  clear H1
  simp only [Option.some.injEq,Prod.mk.injEq] at H
  obtain ⟨rfl,rfl⟩:=H
  go_enter Tryz.func34,Tryz.ntmps34
  go_wp2_with (first|((with_reducible refine av (N:=1) rfl ?_);refine bN 1 #[.slice fV bn.length fT,.slice gv aU.length fS,.slice fU bu.length fR,.slice gB aM.length fQ,.int .i64 bR] 27 ?_;intro abk hg w10 eI hb;have sS:=ak (eI);have ad7:=ak (mX hg (aq HB));have Ca:=ak (mX hg (aq HB));replace HB:=ak (aH (aq HB) hb);clear hb eI hg;have gR:=an sS)|(go_at_call 35;(with_reducible refine (ax.calls k _ _ bn _ _ aU _ _ bu _ _ aM bR false _ ?side1 ?side2 ?side3 ?side4 ?side5 ?side6 ?side7 ?side8 A2.out).mono ?_);(case side1=>exact cd (Kd.aD gE.out HB.out));(case side2=>exact gF.out);(case side3=>exact cd (Kd.aD iM.out HB.out));(case side4=>exact jx.out);(case side5=>exact cd (Kd.aD iy.out HB.out));(case side6=>exact jK.out);(case side7=>exact cd (Kd.aD iL.out HB.out));(case side8=>exact jY.out);rintro e w12 ⟨rfl,hb⟩;replace sS:=ak (cW (dm sS) hb);replace HB:=ak (aH (az HB Ca) hb);(try clear hb)))
  go_ret2
  exact ⟨kK,az HB Ca⟩
def cC.f (a0:ByteArray) (a1:ByteArray):Option (Int):=if 0<(a0.size:Int) then (if 0<(a1.size:Int) then (some (wrap64 ((wrap64 (bt a0 0))-(wrap64 (bt a1 0))))) else (none)) else (none)
theorem cC.calls (a0:ByteArray) (a1:ByteArray) (r:Int) (w:World) (h:cC.f a0 a1=some r):
  Calls Tryz.prog 107 #[.string a0,.string a1] w fun e w'=>e= .returned (.int .i64 r)∧cQ w w':=by
 have H:(if 0<(a0.size:Int) then (if 0<(a1.size:Int) then (some (wrap64 ((wrap64 (bt a0 0))-(wrap64 (bt a1 0))))) else (none)) else (none))=some r:=h
 clear h;replace H:=dy H;obtain ⟨c3,H⟩:=H;have jX:=decide_eq_true c3
 have xx:decide (0<a0.size)=true:=decide_eq_true (by omega)
 clear c3;replace H:=dy H;obtain ⟨c5,H⟩:=H;have mh:=decide_eq_true c5
 have OS:decide (0<a1.size)=true:=decide_eq_true (by omega)
 clear c5
 obtain rfl:=Option.some.inj H
 have p4:0≤(0:Int):=(by omega)
 have q4:0<a0.size:=(by have:(0:Int)<(a0.size:Int):=da;omega)
 have hx4:∀h:0<a0.size,((a0[0]'h).toNat:Int)=bt a0 0:=jJ a0 0
 clear p4
 have qi4:(0<(a0.size:Int))=True:=eq_true (da)
 replace q4:=eq_true q4
 have p6:0≤(0:Int):=(by omega)
 have q6:0<a1.size:=(by have:(0:Int)<(a1.size:Int):=da;omega)
 have hx6:∀h:0<a1.size,((a1[0]'h).toNat:Int)=bt a1 0:=jJ a1 0
 clear p6
 have qi6:(0<(a1.size:Int))=True:=eq_true (da)
 replace q6:=eq_true q6
 go_enter Tryz.func107,Tryz.ntmps107
 go_wp2
 repeat (go_quiet (fail);try go_wp2)
 go_ret
 exact ⟨er,gV⟩
mutual
def af.l0:Nat→List ByteArray→Int→Int→Int→Option (List ByteArray)
  |0,_,_,_,_=>none
  |k+1,x0,x1,x2,x8=>if x8<x2 then (af.l1 k x0 x1 x2 x8 x8) else (some x0)
def af.l1:Nat→List ByteArray→Int→Int→Int→Int→Option (List ByteArray)
  |0,_,_,_,_,_=>none
  |k+1,x0,x1,x2,x8,x9=>if x9>x1 then (if 0≤x9 then (if x9<(x0.length:Int) then (if 0≤(wrap64 (x9-1)) then (if (wrap64 (x9-1))<(x0.length:Int) then ((cC.f (aQ ByteArray.empty x0 x9) (aQ ByteArray.empty x0 (wrap64 (x9-1)))).bind fun F3=>(if F3<0 then (af.l1 k ((x0.set (x9:Int).toNat (aQ ByteArray.empty x0 (wrap64 (x9-1)))).set ((wrap64 (x9-1)):Int).toNat (aQ ByteArray.empty x0 x9)) x1 x2 x8 (wrap64 (x9-1))) else (af.l0 k x0 x1 x2 (wrap64 (x8+1))))) else (none)) else (none)) else (none)) else (none)) else (af.l0 k x0 x1 x2 (wrap64 (x8+1)))
end
def af.f (k:Nat) (l0:List ByteArray) (a1:Int) (a2:Int):Option (List ByteArray):=af.l0 k l0 a1 a2 (wrap64 (a1+1))
def af.T4:Bool×List (List Nat×List Nat):=(true,[([],[]),([],[]),([0,1],[0,1]),([2],[2]),([3],[3]),([3],[3]),([3],[3]),([5,6,3],[3,5,6]),([7,3],[3,7]),([3],[3]),([3],[3]),([10,3],[3,10]),([9,11,3],[3,9,11]),([12,3],[3,12]),([4,8,13,3,3],[3,4,8,13]),([14,3],[3,14]),([3,15],[3,15])])
def af.B4:List Nat:=[0,0,3,7,15,15,15,111,239,15,15,1039,3599,7695,16383,32767,65535]
theorem af.Ci:gz .any (opsOf Tryz.f135 4)=af.T4:=by kernel_rfl
theorem af.uL:dZ af.T4.2 af.B4=true:=by kernel_rfl
def af.T6:Bool×List (List Nat×List Nat):=(true,[([],[]),([],[]),([],[]),([],[]),([3],[3]),([],[]),([],[]),([6],[6]),([5,7],[5,7]),([8],[8]),([],[]),([],[]),([10,11],[10,11]),([12],[12]),([0,1,0,1,5,6,7,8,9,13],[0,1]),([14,9,0,1,5,6,7,8,9,13],[9,14]),([2,4,0,1,2,3,4,5,6,7,8,9,10,11,12,13,14,15],[2,4]),([16,13,15,0,1,2,3,4,5,6,7,8,9,10,11,12,13,14,15],[13,16])])
def af.B6:List Nat:=[0,0,0,0,8,0,0,64,224,480,0,0,3072,7168,16355,32739,65535,131071]
theorem af.FW:gz .any (opsOf Tryz.f135 6)=af.T6:=by kernel_rfl
theorem af.zI:dZ af.T6.2 af.B6=true:=by kernel_rfl
theorem af.calls (k:Nat) (iZ:Nat→Prop) (eF:Value) (l0:List ByteArray) (a1:Int) (a2:Int) (r:List ByteArray) (w0 w:World) (hB:Below w0.heap.size w0 w) (xh:Kd.R Kd.string 9 w w0.heap.size iZ eF l0) (h:af.f k l0 a1 a2=some r):
  Calls Tryz.prog 135 #[eF,.int .i64 a1,.int .i64 a2,.func (.func 107) #[] #[]] w fun e w'=>e= .returned (.tuple #[])∧Kd.R Kd.string 9 w' w0.heap.size (fun k_=>(iZ k_∨w.heap.size≤k_)) eF r∧Below w0.heap.size w0 w'∧Kept w w' (fun k_=>iZ k_):=by
 have DS:=ak (show Kd.R Kd.string 9 w w0.heap.size (fun k_=>(iZ k_∨w.heap.size≤k_)) eF l0 from Kd.bJ xh (fun k_ hk=>(.inl hk)))
 have HK:=ak (Kept.refl w (fun k_=>iZ k_))
 have JW:=ak hB.size
 have HB:=ak hB;clear hB
 have H:(af.l0 k l0 a1 a2 (wrap64 (a1+1)))=some r:=h
 clear h
 have H':=ak H
 clear H
 go_enter Tryz.func135,Tryz.ntmps135
 go_wp2
 go_loopg [8] k (fun kq v8 w'=>∃(ia:List ByteArray) (cX:Int),v8= .int .i64 cX∧Aside0 (af.l0 kq ia a1 a2 cX=some r)∧Aside0 (kq≤k)∧Aside0 (Kd.R Kd.string 9 w' w0.heap.size (fun k_=>(iZ k_∨w.heap.size≤k_)) eF ia)∧Aside0 (Kept w w' (fun k_=>iZ k_))∧Aside0 (Below w0.heap.size w0 w'))
 case atStart=>exact ⟨(l0),(wrap64 (a1+1)),er,H',⟨Nat.le_refl _⟩,⟨dH DS⟩,⟨lI HK⟩,⟨aq HB⟩⟩
 case round=>
  clear H'
  obtain ⟨ia,cX,rfl,HA,gf,bH,HK,HB⟩:=hrel
  cases gk with
  |zero=>exact absurd HA.out (by simp [af.l0])
  |succ k1=>
   have H:=HA.out;clear HA
   simp only [af.l0] at H
   by_cases c5:cX<a2
   ·rw [if_pos c5] at H
    have mh:=decide_eq_true c5
    clear c5
    have H':=ak H
    clear H;go_wp2
    go_loopg [9] k1 (fun kq v9 w'=>∃(eV:List ByteArray) (gG:Int),v9= .int .i64 gG∧Aside0 (af.l1 kq eV a1 a2 cX gG=some r)∧Aside0 (kq≤k1)∧Aside0 (Kd.R Kd.string 9 w' w0.heap.size (fun k_=>(iZ k_∨w.heap.size≤k_)) eF eV)∧Aside0 (Kept w w' (fun k_=>iZ k_))∧Aside0 (Below w0.heap.size w0 w'))
    case atStart=>exact ⟨(ia),(cX),er,H',⟨Nat.le_refl _⟩,⟨dH bH⟩,⟨lI HK⟩,⟨aq HB⟩⟩
    case round=>
     clear H'
     (try clear mh)
     obtain ⟨eV,gG,rfl,HA,kg,bH,HK,HB⟩:=hrel
     cases gk with
     |zero=>exact absurd HA.out (by simp [af.l1])
     |succ k2=>
      have H:=HA.out;clear HA
      simp only [af.l1] at H
      by_cases c6:gG>a1
      ·rw [if_pos c6] at H
       have kO:=Ma c6
       clear c6;replace H:=dy H;obtain ⟨c7,H⟩:=H;have tw:=decide_eq_true c7;clear c7;replace H:=dy H;obtain ⟨c8,H⟩:=H;have xw:=decide_eq_true c8;clear c8
       obtain ⟨mc,uw⟩:∃j_:Int,(wrap64 (gG-1))=j_:=⟨_,rfl⟩
       replace H:(if 0≤(mc) then (if (mc)<(eV.length:Int) then ((cC.f (aQ ByteArray.empty eV gG) (aQ ByteArray.empty eV (mc))).bind fun F3=>(if F3<0 then (af.l1 k2 ((eV.set (gG:Int).toNat (aQ ByteArray.empty eV (mc))).set ((mc):Int).toNat (aQ ByteArray.empty eV gG)) a1 a2 cX mc) else (af.l0 k2 eV a1 a2 (wrap64 (cX+1))))) else (none)) else (none))=some r:=by first|(rw [uw] at H;exact H)|(simp only [uw] at H⊢;exact H)
       have TG:(IntKind.i64.wrap (gG-1))=mc:=(bW _).trans uw
       replace H:=dy H;obtain ⟨gW,H⟩:=H;have kY:=decide_eq_true gW;clear gW;replace H:=dy H;obtain ⟨mY,H⟩:=H;have nM:=decide_eq_true mY;clear mY;replace H:=bS H;obtain ⟨F3,L5,H⟩:=H
       by_cases oA:F3<0
       ·rw [if_pos oA] at H
        have BL:=decide_eq_true oA
        clear oA
        obtain ⟨ZY,ez⟩:∃y_:List ByteArray,y_=(eV.set (gG:Int).toNat (aQ ByteArray.empty eV (mc))):=⟨_,rfl⟩
        replace H:(af.l1 k2 (ZY.set ((mc):Int).toNat (aQ ByteArray.empty eV gG)) a1 a2 cX mc)=some r:=yH
        have adm:=ak ez;clear ez
        obtain ⟨ZX,ez⟩:∃y_:List ByteArray,y_=(ZY.set ((mc):Int).toNat (aQ ByteArray.empty eV gG)):=⟨_,rfl⟩
        replace H:(af.l1 k2 ZX a1 a2 cX mc)=some r:=yH
        have adl:=ak ez;clear ez
        have H':=ak H
        clear H
        try go_wp2
        replace bH:=ak (Kd.cD bH.out)
        replace HK:=ak (Kept.drew HK.out)
        replace HB:=ak (cO HB.out)
        obtain ⟨akw,ahq,abE⟩:=Kd.de bH.out
        (first|subst abE|(injection abE with sL AK sK;have AJ:=sL.symm;have AH:=sK.symm;clear sL AK sK;subst AJ;subst AH))
        obtain ⟨afO,afy,sQ,XC,pS⟩:=ng (Kd.bq (Kd.aJ bH.out).2.2 gG)
        cases XC
        obtain ⟨afN,afx,Ph,XB,pR⟩:=ng (Kd.bq (Kd.aJ bH.out).2.2 (mc))
        obtain rfl:sQ=Ph:=(by injection XB)
        refine dV (n:=17) (S:=fun w'=>w'.cell? (sQ.add (gG).toNat)=some (.string (aQ ByteArray.empty eV gG))∧w'.cell? (sQ.add ((mc)).toNat)=some (.string (aQ ByteArray.empty eV (mc)))) (ds:=[]) (bl 17 0) (by kernel_rfl) rfl rfl ⟨pS,pR⟩ (fun ah=> ?_);refine bZ af.Ci af.uL (fun aA ef=> ?_)
        generalize wr.drew=Ml at bH HK HB pS pR ah⊢
        refine ag 0 (some 18) 17 1 aA ?_
        refine ag 1 (some 19) 17 3 aA ?_
        refine ag 2 (some 20) 17 7 aA ?_
        refine ag 3 (some 21) 17 15 aA ?_
        refine ag 4 (some 22) 17 31 aA ?_
        refine ag 5 (some 23) 17 63 aA ?_
        refine ag 6 (some 24) 17 127 aA ?_
        refine ag 7 (some 25) 17 255 aA ?_
        refine ag 9 (some 27) 17 767 aA ?_
        refine ag 10 (some 28) 17 1791 aA ?_
        refine ag 11 (some 29) 17 3839 aA ?_
        refine ag 12 (some 30) 17 7935 aA ?_
        refine cg 8 (some 26) 17 8191 aA ef ah ?_ (hy:=by rintro w' ⟨s0,s1⟩;go_simp;with_reducible rfl)
        refine cg 13 (some 31) 17 16383 aA ef ah ?_ (hy:=by rintro w' ⟨s0,s1⟩;go_simp;with_reducible rfl)
        refine fJ 14 (some 32) 17 32767 aA (fun K hK=> ?_)
        refine ox Tryz.func107 (by kernel_rfl) rfl #[.string (aQ ByteArray.empty eV gG),.string (aQ ByteArray.empty eV (mc))] (by rfl) rfl rfl rfl (by (try simp only [List.map_toArray,List.map_cons,List.map_nil]);first|done|(simp only [uw];rfl)|rfl|(simp only [List.length_drop,List.length_take];rfl)) ?_
        with_reducible refine (cC.calls (aQ ByteArray.empty eV gG) (aQ ByteArray.empty eV (mc)) F3 _ L5.out).mono ?_
        rintro e w' ⟨rfl,⟨nd,rfl⟩⟩
        refine ⟨_,rfl,?_⟩
        refine hK.out _ _ ⟨ah.1,ah.2⟩ (fun ah=> ?_)
        clear hK K
        refine cM (a':= ?_) ?_ ?_
        rotate_left
        ·show Act.put _ (some 32) _=_
         simp only [Act.put,List.setIfInBounds_toArray,List.set_cons_zero,List.set_cons_succ,bW,cA]
         rfl
        refine ag 15 (some 33) 17 65535 aA ?_
        refine ag 16 (some 34) 17 131071 aA ?_
        refine eZ (cV aA.out (by kernel_rfl)) ?_
        try go_wp2
        (try (rw [mF Ml];generalize xP:World.drewN Ml _=Ml;have Bo:Aside0 (Kd.R Kd.string 9 Ml w0.heap.size (fun k_=>(iZ k_∨w.heap.size≤k_)) (.slice (some sQ) eV.length ahq) eV):=⟨by rw [←xP];exact (dH bH)⟩;have Bn:Aside0 (Kept w Ml (fun k_=>iZ k_)):=⟨by rw [←xP];exact (lI HK)⟩;have n2_:Aside0 (Below w0.heap.size w0 Ml):=⟨by rw [←xP];exact (aq HB)⟩;clear bH HK HB xP;have bH:=Bo;have HK:=Bn;have HB:=n2_;clear Bo Bn n2_))
        replace bH:=ak (Kd.cD bH.out)
        replace HK:=ak (Kept.drew HK.out)
        replace HB:=ak (cO HB.out)
        obtain ⟨ajR,ajF,acG,ag9,CS⟩:=ng (Kd.bq (Kd.aJ bH.out).2.2 (mc))
        obtain rfl:sQ=acG:=(by injection ag9)
        obtain ⟨ajQ,ajE,acF,ag8,CR⟩:=ng (Kd.bq (Kd.aJ bH.out).2.2 gG)
        obtain rfl:sQ=acF:=(by injection ag8)
        have KS:0≤(gG:Int):=da
        have KQ:(gG:Int)<((eV.length:Int):Int):=da
        obtain ⟨xm,akf,abF,abo,agD,akj,ad4⟩:=Kd.zS bH.out (by omega)
        (first|cases abF|(injection abF with xR Mc Sr;(first|subst xR|(injection xR with xR;subst xR));subst Sr;clear Mc))
        have aea:=Aside0.mk abo;have ahP:=ak ad4;clear abo agD ad4
        have P8:=ak (show (iZ xm∨w.heap.size≤xm) from (bH.out.1 _ rfl))
        (first|simp only [add_plain] at pS|skip)
        (first|simp only [add_plain] at pR|skip)
        (first|simp only [add_plain] at CS|skip)
        (first|simp only [add_plain] at CR|skip)
        obtain ⟨GW,Hj⟩:=Kd.nw (⟨#[]⟩:ByteArray) bH.out (gG:Int) KS KQ
        replace KS:=eq_true KS;replace KQ:=eq_true KQ
        have YJ:=Kd.qb bH.out (gG:Int) (aQ ByteArray.empty eV (mc))
        rw [←adm.out] at YJ
        have YC:=ak YJ;clear YJ
        have p15:0≤((mc):Int):=da
        have q15:((mc):Int)<((eV.length:Int):Int):=da
        obtain ⟨Wn,W0⟩:=Kd.nw (⟨#[]⟩:ByteArray) YC.out ((mc):Int) p15 q15
        replace p15:=eq_true p15;replace q15:=eq_true q15
        have YI:=Kd.qb YC.out ((mc):Int) (aQ ByteArray.empty eV gG)
        rw [←adl.out] at YI
        have adK:=ak YI;clear YI
        refine dV (n:=18) (S:=fun w'=>w'.cell? ⟨xm,((mc)).toNat,none⟩=some (.string (aQ ByteArray.empty eV (mc)))∧w'.cell? ⟨xm,(gG).toNat,none⟩=some (.string (aQ ByteArray.empty eV gG))) (ds:=[15,17]) (bl 18 0) (by kernel_rfl) rfl rfl ⟨CS,CR⟩ (fun ah=> ?_);refine bZ af.FW af.zI (fun aA ef=> ?_)
        generalize Ml.drew=QA at bH HK HB ahP YC adK Hj W0 GW Wn pS pR CS CR ah⊢
        refine ag 0 (some 37) 18 1 aA ?_
        refine ag 1 (some 38) 18 3 aA ?_
        refine ag 2 (some 39) 18 7 aA ?_
        refine ag 3 (some 40) 18 15 aA ?_
        refine ag 4 (some 41) 18 31 aA ?_
        refine ag 5 (some 42) 18 63 aA ?_
        refine ag 6 (some 43) 18 127 aA ?_
        refine ag 7 (some 44) 18 255 aA ?_
        refine ag 8 (some 45) 18 511 aA ?_
        refine ag 10 (some 47) 18 1535 aA ?_
        refine ag 11 (some 48) 18 3583 aA ?_
        refine ag 12 (some 49) 18 7679 aA ?_
        refine cg 9 (some 46) 18 8191 aA ef ah ?_ (hy:=by rintro w' ⟨s0,s1⟩;go_simp;with_reducible rfl)
        refine cg 13 (some 50) 18 16383 aA ef ah ?_ (hy:=by rintro w' ⟨s0,s1⟩;go_simp;with_reducible rfl)
        refine ag 14 (some 51) 18 32767 aA ?_
        refine lH (i:=15) (N:=none) (bl 18 65535) rfl rfl (jd aA.out (by kernel_rfl)) (by decide) (fun K hK=> ?_)
        refine jV (w1:= ?_) (by rfl) rfl ?_ ?_
        rotate_left
        ·go_simp
         rfl
        refine hK.out _ _ ?_
        clear hK K
        refine ag 16 (some 52) 18 131071 aA ?_
        refine lH (i:=17) (N:=none) (bl 18 262143) rfl rfl (jd aA.out (by kernel_rfl)) (by decide) (fun K hK=> ?_)
        refine jV (w1:= ?_) (by rfl) rfl ?_ ?_
        rotate_left
        ·go_simp
         rfl
        refine hK.out _ _ ?_
        clear hK K
        refine eZ (cV aA.out (by kernel_rfl)) ?_
        try go_wp2
        (first|go_roundg k2|((try rw [←add_plain xm (gG:Int).toNat]);(try rw [←add_plain xm ((mc):Int).toNat]);(try rw [←add_plain xm ((mc):Int).toNat]);(try rw [←add_plain xm (gG:Int).toNat]);go_roundg k2))
        case measure=>have:=gf.out;have:=kg.out;omega
        case rel=>exact ⟨(ZX),(mc),(by first|rfl|(simp;done)|(simp only [←uw]<;>(first|rfl|simp))|(simp [*];done)),H',⟨by have:=gf.out;have:=kg.out;omega⟩,⟨dH adK⟩,⟨by repeat (first|(with_reducible first|exact HK.out|apply Kept.alloc|apply Kept.drewN|apply Kept.drew|refine Kept.setCell ?_ P8.out _|refine Kept.setCell ?_ P8.out _)|exact HK.out)⟩,⟨by repeat (first|(with_reducible first|exact HB.out|apply dQ|apply ek|apply cO|refine ew ?_ aea.out|refine ew ?_ aea.out)|exact HB.out)⟩⟩
       ·rw [if_neg oA] at H
        have BL:=decide_eq_false oA
        clear oA
        have H':=ak H
        clear H
        try go_wp2
        replace bH:=ak (Kd.cD bH.out)
        replace HK:=ak (Kept.drew HK.out)
        replace HB:=ak (cO HB.out)
        obtain ⟨akv,ake,abD⟩:=Kd.de bH.out
        (first|subst abD|(injection abD with sL AK sK;have AJ:=sL.symm;have AH:=sK.symm;clear sL AK sK;subst AJ;subst AH))
        obtain ⟨afO,afy,sQ,XC,pS⟩:=ng (Kd.bq (Kd.aJ bH.out).2.2 gG)
        cases XC
        obtain ⟨afN,afx,Ph,XB,pR⟩:=ng (Kd.bq (Kd.aJ bH.out).2.2 (mc))
        obtain rfl:sQ=Ph:=(by injection XB)
        refine dV (n:=17) (S:=fun w'=>w'.cell? (sQ.add (gG).toNat)=some (.string (aQ ByteArray.empty eV gG))∧w'.cell? (sQ.add ((mc)).toNat)=some (.string (aQ ByteArray.empty eV (mc)))) (ds:=[]) (bl 17 0) (by kernel_rfl) rfl rfl ⟨pS,pR⟩ (fun ah=> ?_);refine bZ af.Ci af.uL (fun aA ef=> ?_)
        generalize wr.drew=w21 at bH HK HB pS pR ah⊢
        refine ag 0 (some 18) 17 1 aA ?_
        refine ag 1 (some 19) 17 3 aA ?_
        refine ag 2 (some 20) 17 7 aA ?_
        refine ag 3 (some 21) 17 15 aA ?_
        refine ag 4 (some 22) 17 31 aA ?_
        refine ag 5 (some 23) 17 63 aA ?_
        refine ag 6 (some 24) 17 127 aA ?_
        refine ag 7 (some 25) 17 255 aA ?_
        refine ag 9 (some 27) 17 767 aA ?_
        refine ag 10 (some 28) 17 1791 aA ?_
        refine ag 11 (some 29) 17 3839 aA ?_
        refine ag 12 (some 30) 17 7935 aA ?_
        refine cg 8 (some 26) 17 8191 aA ef ah ?_ (hy:=by rintro w' ⟨s0,s1⟩;go_simp;with_reducible rfl)
        refine cg 13 (some 31) 17 16383 aA ef ah ?_ (hy:=by rintro w' ⟨s0,s1⟩;go_simp;with_reducible rfl)
        refine fJ 14 (some 32) 17 32767 aA (fun K hK=> ?_)
        refine ox Tryz.func107 (by kernel_rfl) rfl #[.string (aQ ByteArray.empty eV gG),.string (aQ ByteArray.empty eV (mc))] (by rfl) rfl rfl rfl (by (try simp only [List.map_toArray,List.map_cons,List.map_nil]);first|done|(simp only [uw];rfl)|rfl|(simp only [List.length_drop,List.length_take];rfl)) ?_
        with_reducible refine (cC.calls (aQ ByteArray.empty eV gG) (aQ ByteArray.empty eV (mc)) F3 _ L5.out).mono ?_
        rintro e w' ⟨rfl,⟨nd,rfl⟩⟩
        refine ⟨_,rfl,?_⟩
        refine hK.out _ _ ⟨ah.1,ah.2⟩ (fun ah=> ?_)
        clear hK K
        refine cM (a':= ?_) ?_ ?_
        rotate_left
        ·show Act.put _ (some 32) _=_
         simp only [Act.put,List.setIfInBounds_toArray,List.set_cons_zero,List.set_cons_succ,bW,cA]
         rfl
        refine ag 15 (some 33) 17 65535 aA ?_
        refine ag 16 (some 34) 17 131071 aA ?_
        refine eZ (cV aA.out (by kernel_rfl)) ?_
        try go_wp2
        (first|go_roundg k2|((try rw [←add_plain xm (gG:Int).toNat]);(try rw [←add_plain xm ((mc):Int).toNat]);(try rw [←add_plain xm ((mc):Int).toNat]);(try rw [←add_plain xm (gG:Int).toNat]);go_roundg k2))
        case measure=>have:=gf.out;have:=kg.out;omega
        case rel=>exact ⟨(eV),(wrap64 (cX+1)),er,H',⟨by have:=gf.out;have:=kg.out;omega⟩,⟨dH bH⟩,⟨lI HK⟩,⟨aq HB⟩⟩
      ·rw [if_neg c6] at H
       have kO:=Mb c6
       clear c6
       have H':=ak H
       clear H
       try go_wp2
       replace bH:=ak (Kd.cD bH.out)
       replace HK:=ak (Kept.drew HK.out)
       replace HB:=ak (cO HB.out)
       refine dV (n:=17) (S:=fun w'=>True) (ds:=[]) (bl 17 0) (by kernel_rfl) rfl rfl trivial (fun ah=> ?_);refine bZ af.Ci af.uL (fun aA ef=> ?_)
       generalize wr.drew=w23 at bH HK HB ah⊢
       refine ag 0 (some 18) 17 1 aA ?_
       refine ag 1 (some 19) 17 3 aA ?_
       refine ag 2 (some 20) 17 7 aA ?_
       refine ag 3 (some 21) 17 15 aA ?_
       refine cL 4 (some 22) 17 31 aA ?_
       refine cL 5 (some 23) 17 63 aA ?_
       refine cL 6 (some 24) 17 127 aA ?_
       refine cL 7 (some 25) 17 255 aA ?_
       refine cL 8 (some 26) 17 511 aA ?_
       refine cL 9 (some 27) 17 1023 aA ?_
       refine cL 10 (some 28) 17 2047 aA ?_
       refine cL 11 (some 29) 17 4095 aA ?_
       refine cL 12 (some 30) 17 8191 aA ?_
       refine cL 13 (some 31) 17 16383 aA ?_
       refine cL 14 (some 32) 17 32767 aA ?_
       refine cL 15 (some 33) 17 65535 aA ?_
       refine ag 16 (some 34) 17 131071 aA ?_
       refine eZ (cV aA.out (by kernel_rfl)) ?_
       try go_wp2
       go_roundg k2
       case measure=>have:=gf.out;have:=kg.out;omega
       case rel=>exact ⟨(eV),(wrap64 (cX+1)),er,H',⟨by have:=gf.out;have:=kg.out;omega⟩,⟨dH bH⟩,⟨lI HK⟩,⟨aq HB⟩⟩
   ·rw [if_neg c5] at H
    have mh:=decide_eq_false c5
    clear c5
    obtain rfl:=Option.some.inj H
    go_wp2
    first|go_end0|((try simp only [Exit.inBlock,Exit.then]);refine bodyPost_ret (results_none rfl _ _ _) rfl ?_)
    exact ⟨kK,by (with_reducible repeat (first|apply Kd.cz|apply Kd.cy|apply Kd.cD));exact bH.out,aq HB,lI HK⟩
end Go.Proofs.YtihekdlcfohkkaaGreatDoor.QFnNets
