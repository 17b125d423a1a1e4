-- printed by this session's own program (wip/tools/pp.py: the kit's print.py with changes); Lean checks it
import Derived.Test.YtihekdlcfohkkaaGreatDoorQFnNetx0
import Derived.Test.YtihekdlcfohkkaaGreatDoorQFnNetx1
import Derived.Test.YtihekdlcfohkkaaGreatDoorQFnNetx2
import Derived.Test.YtihekdlcfohkkaaGreatDoorQFnNetx3
namespace Go.Proofs.YtihekdlcfohkkaaGreatDoor.QFnNet
open Go.RowKit Go.Proofs.YtihekdlcfohkkaaGreatDoorW.PrintWords Go.Proofs.YtihekdlcfohkkaaGreatDoorW.PrintLast Go.Proofs.YtihekdlcfohkkaaGreatDoorW.PrintMore
attribute [local go_sem] max2_int min2_int max_two min_two max_three min_three max_four min_four strLss strGtr strLeq strGeq
set_option linter.unusedVariables false
set_option linter.unusedSimpArgs false
set_option maxHeartbeats 16000000
set_option maxRecDepth 100000
def bits_Mul64.f (a0:Int) (a1:Int):Option (Int×Int):=some (IntKind.u64.wrap ((IntKind.u64.wrap ((IntKind.u64.wrap ((a0/4294967296)*(a1/4294967296)))+((IntKind.u64.wrap ((IntKind.u64.wrap ((a0/4294967296)*(Go.bits .and .u64 a1 4294967295)))+((IntKind.u64.wrap ((Go.bits .and .u64 a0 4294967295)*(Go.bits .and .u64 a1 4294967295)))/4294967296)))/4294967296)))+((IntKind.u64.wrap ((Go.bits .and .u64 (IntKind.u64.wrap ((IntKind.u64.wrap ((a0/4294967296)*(Go.bits .and .u64 a1 4294967295)))+((IntKind.u64.wrap ((Go.bits .and .u64 a0 4294967295)*(Go.bits .and .u64 a1 4294967295)))/4294967296))) 4294967295)+(IntKind.u64.wrap ((Go.bits .and .u64 a0 4294967295)*(a1/4294967296)))))/4294967296)),IntKind.u64.wrap (a0*a1))
theorem bits_Mul64.calls (a0:Int) (a1:Int) (r1:Int) (r2:Int) (w:World) (h:bits_Mul64.f a0 a1=some (r1,r2)):
  Calls Tryz.prog 143 #[.int .u64 a0,.int .u64 a1] w fun e w'=>e= .returned (.tuple #[.int .u64 r1,.int .u64 r2])∧cH w w':=by
 have H:(some (IntKind.u64.wrap ((IntKind.u64.wrap ((IntKind.u64.wrap ((a0/4294967296)*(a1/4294967296)))+((IntKind.u64.wrap ((IntKind.u64.wrap ((a0/4294967296)*(Go.bits .and .u64 a1 4294967295)))+((IntKind.u64.wrap ((Go.bits .and .u64 a0 4294967295)*(Go.bits .and .u64 a1 4294967295)))/4294967296)))/4294967296)))+((IntKind.u64.wrap ((Go.bits .and .u64 (IntKind.u64.wrap ((IntKind.u64.wrap ((a0/4294967296)*(Go.bits .and .u64 a1 4294967295)))+((IntKind.u64.wrap ((Go.bits .and .u64 a0 4294967295)*(Go.bits .and .u64 a1 4294967295)))/4294967296))) 4294967295)+(IntKind.u64.wrap ((Go.bits .and .u64 a0 4294967295)*(a1/4294967296)))))/4294967296)),IntKind.u64.wrap (a0*a1)))=some (r1,r2):=h
 clear h
 simp only [Option.some.injEq,Prod.mk.injEq] at H
 obtain ⟨rfl,rfl⟩:=H
 go_enter Tryz.func143,Tryz.ntmps143
 go_wp2
 go_ret2
 exact ⟨er,gh⟩
def bits_Mul.f (a0:Int) (a1:Int):Option (Int×Int):=(bits_Mul64.f a0 a1).bind fun DS=>(some (DS.1,DS.2))
theorem bits_Mul.calls (a0:Int) (a1:Int) (r1:Int) (r2:Int) (w:World) (h:bits_Mul.f a0 a1=some (r1,r2)):
  Calls Tryz.prog 130 #[.int .u64 a0,.int .u64 a1] w fun e w'=>e= .returned (.tuple #[.int .u64 r1,.int .u64 r2])∧cH w w':=by
 have H:((bits_Mul64.f a0 a1).bind fun DS=>(some (DS.1,DS.2)))=some (r1,r2):=h
 clear h;replace H:=bS H;obtain ⟨⟨acA,acz⟩,A3,H⟩:=H
 dsimp only at H
 simp only [Option.some.injEq,Prod.mk.injEq] at H
 obtain ⟨rfl,rfl⟩:=H
 go_enter Tryz.func130,Tryz.ntmps130
 go_wp2_with (first|(go_at_call 143;(with_reducible refine (bits_Mul64.calls a0 a1 acA acz _ A3.out).mono ?_);rintro e w' ⟨rfl,⟨nd,rfl⟩⟩))
 go_ret2
 exact ⟨er,gh⟩
def ff.f (l0:List Int) (a1:Int):Option (List Int):=if 0≤a1 then (if a1≤1048576 then (if (l0.length:Int)=1 then ((bits_Mul.f 1 a1).bind fun m=>(if m.1=0 then (if m.2=a1 then (some (List.replicate a1.toNat (rd l0 0))) else (none)) else (none))) else (none)) else (none)) else (none)
theorem ff.calls (A0:Option Addr) (c0:Nat) (l0:List Int) (a1:Int) (r:List Int) (w:World) (eT:Kd.C (Kd.int .i64) w A0 l0.length l0) (fE:l0.length≤c0) (h:ff.f l0 a1=some r):
  Calls Tryz.prog 117 #[.slice A0 l0.length c0,.int .i64 a1] w fun e w'=>∃kV:Value,e= .returned (kV)∧Kd.R (Kd.int .i64) 3 w' w.heap.size (fun _=>True) kV r∧Below w.heap.size w w':=by
 unfold ff.f at h
 by_cases h0:0≤a1
 ·rw [if_pos h0] at h
  by_cases h1:a1≤1048576
  ·rw [if_pos h1] at h
   by_cases hl:(l0.length:Int)=1
   ·rw [if_pos hl] at h
    obtain ⟨⟨m1,m2⟩,hm,h⟩:=Option.bind_eq_some_iff.mp h
    by_cases e1:m1=0
    ·by_cases e2:m2=a1
     ·subst e1;subst e2
      simp only [if_true,Option.some.injEq] at h
      subst h
      obtain ⟨x,rfl⟩:∃x,l0=[x]:=List.length_eq_one_iff.1 (by omega)
      obtain ⟨ad,rfl,hx⟩:=Kd.jA eT 0 (by omega) (by simp)
      obtain ⟨N,rfl⟩:=Int.eq_ofNat_of_zero_le h0
      have HM:=ak hm;clear hm eT hl
      have wu:IntKind.u64.wrap (N:Int)=(N:Int):=by simp [IntKind.wrap,IntKind.bits,IntKind.signed];omega
      have wi:IntKind.i64.wrap (N:Int)=(N:Int):=by rw [IntKind.wrap_i64];omega
      have n0:decide ((N:Int)<0)=false:=decide_eq_false (by omega)
      have n1:decide ((9223372036854775807:Int)<(N:Int))=false:=decide_eq_false (by omega)
      go_enter Tryz.func117,Tryz.ntmps117
      go_wp2_with (first|((with_reducible refine eG (f:=130) rfl ?_);refine BU (some 18) rfl rfl Tryz.func130 (by kernel_rfl) rfl #[.int .u64 1,.int .u64 (N:Int)] rfl (by (try simp only [List.map_toArray,List.map_cons,List.map_nil]);first|done|rfl|(simp;done)) ?_;(with_reducible refine (bits_Mul.calls 1 (N:Int) 0 (N:Int) _ HM.out).mono ?_);rintro e w2 ⟨rfl,⟨nd,rfl⟩⟩;refine ⟨_,rfl,?_⟩)|((with_reducible refine ax (N:=30) rfl ?_);refine LG rfl 22 3 _ _ rfl N rfl rfl Tryz.underlying22 (.int .i64 0) 8 xR rfl (by decide) (by omega) ?_;intro w3 hw3;have HG3:=ak (show w3.heap[(w.drewN nd).heap.size]? =some (.cells (List.replicate N (Value.int .i64 0)).toArray 3 (0,0)) by rw [hw3];exact heap_alloc_new _ _);have HB3:=ak (show Below w.heap.size w w3 by rw [hw3];exact dA (dS (Below.refl _ _) nd) _);have GE:=ak (show w.heap.size≤(w.drewN nd).heap.size from Nat.le_refl _);clear hw3;generalize (w.drewN nd).heap.size=g at HG3 GE⊢)|((with_reducible refine cr (b:= .copy) (xs:= #[.tmp 31,.tmp 32]) (ts:= #[22,22]) rfl ?_);go_loud (refine wpList_copy_splice rfl (.tmp 31) (.tmp 32) 22 22 rfl 3 Tryz.underlying22 (by kernel_rfl) (some ⟨g,0,none⟩) (some ad) N N 1 c0 rfl rfl g 0 (List.replicate N (Value.int .i64 0)) 3 HG3.out (List.replicate (min 1 N) (Value.int .i64 x)) List.length_replicate (fun _=>⟨rfl,ad,rfl,OI hx HB3.out⟩) (by simp;omega) (GD _ _) w.heap.size w HB3.out GE.out ?_);intro w4 hg4 hb4))
      rw [Ex] at hg4
      (try simp only [Act.put,List.setIfInBounds_toArray,List.set_cons_zero,List.set_cons_succ])
      go_loopg [8] N (fun kq v8 w'=>∃n:Nat,v8= .int .i64 (n:Int)∧Aside0 (n≤N)∧Aside0 (0<N→0<n)∧Aside0 (N≤n+kq)∧Aside0 (w'.heap[g]? =some (.cells (uQ x N n).toArray 3 (0,0)))∧Aside0 (Below w.heap.size w w'))
      case atStart=>exact ⟨min 1 N,by simp [goInt],⟨by omega⟩,⟨by omega⟩,⟨by omega⟩,⟨hg4.out⟩,⟨hb4⟩⟩
      case round=>
       obtain ⟨n,rfl,Hn,Hp,HK,HG,HB⟩:=hrel
       by_cases hn:n<N
       ·obtain ⟨k1,rfl⟩:∃k1,gk=k1+1:=⟨gk-1,by have:=HK.out;omega⟩
        have c0:decide ((n:Int)<(N:Int))=true:=decide_eq_true (by omega)
        have q0:(0:Int)≤(n:Int):=by omega
        have q1:(n:Int)≤(N:Int):=by omega
        have q2:(n:Int)<(N:Int):=by omega
        go_wp2_with fail
        go_region_law (refine step_copy_splice rfl (.tmp 41) (.tmp 44) 22 22 rfl 3 Tryz.underlying22 (by kernel_rfl) (some ⟨g,n,none⟩) (some ⟨g,0,none⟩) (N-n) (N-n) n N (by simp [Act.eval,Act.put];omega) (by simp [Act.eval,Act.put]) g n (uQ x N n) 3 HG.out (List.replicate (min n (N-n)) (Value.int .i64 x)) List.length_replicate (fun _=>⟨rfl,_,rfl,Lh HG.out _ (Nat.min_le_left _ _)⟩) (by rw [Li _ _ _ Hn.out,List.length_replicate];omega) (GD _ _) w.heap.size w (cJ HB.out) GE.out ?_;intro w5 hg5 hb5)
        rw [CZ x N n _ (by omega)] at hg5
        go_wp2
        go_roundg k1
        case measure=>omega
        case rel=>exact ⟨n+min n (N-n),by (try simp only [goInt,List.length_replicate,IntKind.wrap_i64]);exact congrArg (Value.int .i64) (by first|omega|(unfold wrap64;omega)),⟨by omega⟩,⟨fun _=>by have:=Hp.out (by omega);omega⟩,⟨by have:=HK.out;have:=Hp.out (by omega);omega⟩,⟨hg5.out⟩,⟨hb5⟩⟩
       ·have c0:decide ((n:Int)<(N:Int))=false:=decide_eq_false (by omega)
        go_wp2
        go_ret
        have e:n=N:=by have:=Hn.out;omega
        subst e;have hg:=HG.out
        rw [Jk] at hg
        exact ⟨_,rfl,J8 hg GE.out (by unfold maxLen;omega),HB.out⟩
     ·simp [e2] at h
    ·simp [e1] at h
   ·rw [if_neg hl] at h;exact absurd h (by simp)
  ·rw [if_neg h1] at h;exact absurd h (by simp)
 ·rw [if_neg h0] at h;exact absurd h (by simp)
def kZ.f (k:Nat) (a0:ByteArray):Option (ByteArray):=if a0.size+1≤9223372036854775807 then ((strings_Repeat.f k (⟨#[0]⟩:ByteArray) (15-(a0.size:Int))).bind fun za=>(if (a0++(⟨#[128]⟩:ByteArray)).size+za.size≤9223372036854775807 then (some ((a0++(⟨#[128]⟩:ByteArray))++za)) else (none))) else (none)
theorem kZ.calls (k:Nat) (a0:ByteArray) (r:ByteArray) (w:World) (h:kZ.f k a0=some r):
  Calls Tryz.prog 131 #[.string a0] w fun e w'=>e= .returned (.string r)∧Below w.heap.size w w':=by
 have HB:=ak (Below.refl w.heap.size w)
 have H:(if a0.size+1≤9223372036854775807 then ((strings_Repeat.f k (⟨#[0]⟩:ByteArray) (15-(a0.size:Int))).bind fun za=>(if (a0++(⟨#[128]⟩:ByteArray)).size+za.size≤9223372036854775807 then (some ((a0++(⟨#[128]⟩:ByteArray))++za)) else (none))) else (none))=some r:=h
 clear h;replace H:=cZ H;obtain ⟨c2,H⟩:=H;have oQ:=eq_true c2
 have DI:decide (a0.size+1≤9223372036854775807)=true:=decide_eq_true c2
 try have aeV:(9223372036854775807<a0.size+1)=False:=eq_false (Nat.not_lt.2 c2)
 replace H:=bS H;obtain ⟨za,A3,H⟩:=H
 replace H:=cZ H;obtain ⟨c4,H⟩:=H;have iI:=eq_true c4
 have Zi:decide ((a0++(⟨#[128]⟩:ByteArray)).size+za.size≤9223372036854775807)=true:=decide_eq_true c4
 try have aeS:(9223372036854775807<(a0++(⟨#[128]⟩:ByteArray)).size+za.size)=False:=eq_false (Nat.not_lt.2 c4)
 have Zh:=aeS;simp only [ByteArray.size_append] at Zh;change (9223372036854775807<a0.size+1+za.size)=False at Zh
 obtain rfl:=Option.some.inj H
 go_enter Tryz.func131,Tryz.ntmps131
 go_wp2_with (first|(go_at_call 132;(with_reducible refine (strings_Repeat.calls k (⟨#[0]⟩:ByteArray) (15-(a0.size:Int)) za _ A3.out).mono ?_);rintro e w5 ⟨rfl,hb⟩;replace HB:=ak (aE (ai HB) hb);(try clear hb)))
 go_ret
 exact ⟨jT,ai HB⟩
def dy.l0:Nat→List Int→List Int→ByteArray→Int→Option (ByteArray)
  |0,_,_,_,_=>none
  |k+1,x0,x1,x7,x8=>if x8≥0 then (if 0≤x8 then (if x8<(x1.length:Int) then (if 0≤16 then (if 16≤(x7.size:Int) then ((fh.f k (x7.extract 0 16)).bind fun CO=>((some (([(rd x1 x8)%256,(CO)%256]:List Int):List Int)).bind fun CB=>(if 0≤22 then (if 22≤(x7.size:Int) then (if (strOfNums CB).size+(x7.extract 0 22).size≤9223372036854775807 then (if x8<(x0.length:Int) then ((kL.f k (rd x0 x8) 24).bind fun I8=>((jP.f k ((strOfNums CB)++(x7.extract 0 22)) I8).bind fun I7=>(dy.l0 k x0 x1 I7 (wrap64 (x8-1))))) else (none)) else (none)) else (none)) else (none)))) else (none)) else (none)) else (none)) else (none)) else (some x7)
def dy.f (k:Nat) (l0:List Int) (l1:List Int) (a2:ByteArray):Option (ByteArray):=(kZ.f k a2).bind fun y9=>((strings_Repeat.f k (⟨#[0]⟩:ByteArray) 8).bind fun y8=>(if y9.size+y8.size≤9223372036854775807 then (dy.l0 k l0 l1 (y9++y8) (wrap64 ((l0.length:Int)-1))) else (none)))
def dy.T5:Bool×List (List Nat×List Nat):=(true,[([],[]),([],[]),([0,1],[0,1]),([2],[2]),([3],[3]),([],[]),([5],[5]),([6],[6]),([7],[7]),([4,8],[4,8]),([9],[9]),([],[]),([11],[11]),([10,12],[10,12]),([13,7,0,1,2,3,4,5,6,7,8,9,10,11,12,13],[5,11,13])])
def dy.B5:List Nat:=[0,0,3,7,15,0,32,96,224,511,1023,0,2048,8191,16383]
theorem dy.y4:gq .any (opsOf Tryz.f118 5)=dy.T5:=by kernel_rfl
theorem dy.rX:eF dy.T5.2 dy.B5=true:=by kernel_rfl
theorem dy.calls (k:Nat) (A0:Option Addr) (c0:Nat) (l0:List Int) (A1:Option Addr) (c1:Nat) (l1:List Int) (a2:ByteArray) (r:ByteArray) (w:World) (eT:Kd.C (Kd.int .i64) w A0 l0.length l0) (fE:l0.length≤c0) (nY:Kd.C (Kd.int .i64) w A1 l1.length l1) (mY:l1.length≤c1) (h:dy.f k l0 l1 a2=some r):
  Calls Tryz.prog 118 #[.slice A0 l0.length c0,.slice A1 l1.length c1,.string a2] w fun e w'=>e= .returned (.string r)∧Below w.heap.size w w':=by
 have fB:=ak eT;have jD:=ak fE;clear eT fE;have pX:=ak nY;have Ed:=ak mY;clear nY mY
 have HB:=ak (Below.refl w.heap.size w)
 have H:((kZ.f k a2).bind fun y9=>((strings_Repeat.f k (⟨#[0]⟩:ByteArray) 8).bind fun y8=>(if y9.size+y8.size≤9223372036854775807 then (dy.l0 k l0 l1 (y9++y8) (wrap64 ((l0.length:Int)-1))) else (none))))=some r:=h
 clear h;replace H:=bS H;obtain ⟨y9,A4,H⟩:=H
 replace H:=bS H;obtain ⟨y8,A5,H⟩:=H
 replace H:=cZ H;obtain ⟨c6,H⟩:=H;have jz:=eq_true c6
 have qz:decide (y9.size+y8.size≤9223372036854775807)=true:=decide_eq_true c6
 try have J0:(9223372036854775807<y9.size+y8.size)=False:=eq_false (Nat.not_lt.2 c6)
 have H':=ak H
 clear H
 go_enter Tryz.func118,Tryz.ntmps118
 go_wp2_with (first|(go_at_call 131;(with_reducible refine (kZ.calls k a2 y9 _ A4.out).mono ?_);rintro e w7 ⟨rfl,hb⟩;replace HB:=ak (aE (ai HB) hb);(try clear hb))|(go_at_call 132;(with_reducible refine (strings_Repeat.calls k (⟨#[0]⟩:ByteArray) 8 y8 _ A5.out).mono ?_);rintro e w8 ⟨rfl,hb⟩;replace HB:=ak (aE (ai HB) hb);(try clear hb)))
 go_loopg [7,8] k (fun kq v7 v8 w'=>∃(de:ByteArray) (cO:Int),v7= .string de∧v8= .int .i64 cO∧Aside0 (dy.l0 kq l0 l1 de cO=some r)∧Aside0 (kq≤k)∧Aside0 (Below w.heap.size w w'))
 case atStart=>exact ⟨(y9++y8),(wrap64 ((l0.length:Int)-1)),er,er,H',⟨Nat.le_refl _⟩,⟨ai HB⟩⟩
 case round=>
  clear H'
  (try clear c1);(try clear c6);(try clear jz);(try clear qz);(try clear J0)
  obtain ⟨de,cO,rfl,rfl,HA,fP,HB⟩:=hrel
  cases gk with
  |zero=>exact absurd HA.out (by simp [dy.l0])
  |succ k1=>
   have H:=HA.out;clear HA
   simp only [dy.l0] at H
   by_cases c9:cO≥0
   ·rw [if_pos c9] at H
    have lQ:=geT c9
    clear c9;replace H:=cZ H;obtain ⟨gu,H⟩:=H;have kC:=decide_eq_true gu;clear gu;replace H:=cZ H;obtain ⟨lp,H⟩:=H;have lW:=decide_eq_true lp;clear lp;replace H:=cZ H;obtain ⟨nL,H⟩:=H;have pU:=eq_true nL
    have RB:decide (0≤16)=true:=decide_eq_true nL
    clear nL;replace H:=cZ H;obtain ⟨oa,H⟩:=H;have DM:=eq_true oa
    have afZ:decide (16≤(de.size:Int))=true:=decide_eq_true oa
    clear oa;replace H:=bS H;obtain ⟨CO,vQ,H⟩:=H
    obtain ⟨CB,eZ⟩:∃y_:List Int,y_=(([(rd l1 cO)%256,(CO)%256]:List Int)):=⟨_,rfl⟩
    replace H:(if 0≤22 then (if 22≤(de.size:Int) then (if (strOfNums CB).size+(de.extract 0 22).size≤9223372036854775807 then (if cO<(l0.length:Int) then ((kL.f k1 (rd l0 cO) 24).bind fun I8=>((jP.f k1 ((strOfNums CB)++(de.extract 0 22)) I8).bind fun I7=>(dy.l0 k1 l0 l1 I7 (wrap64 (cO-1))))) else (none)) else (none)) else (none)) else (none))=some r:=yH
    have RQ:=ak eZ;clear eZ;replace H:=cZ H;obtain ⟨rB,H⟩:=H;have ue:=eq_true rB
    have yj:decide (0≤22)=true:=decide_eq_true rB
    clear rB;replace H:=cZ H;obtain ⟨zl,H⟩:=H;have DL:=eq_true zl
    have Ij:decide (22≤(de.size:Int))=true:=decide_eq_true zl
    clear zl;replace H:=cZ H;obtain ⟨CA,H⟩:=H;have Ii:=eq_true CA
    have MV:decide ((strOfNums CB).size+(de.extract 0 22).size≤9223372036854775807)=true:=decide_eq_true CA
    try have ZA:(9223372036854775807<(strOfNums CB).size+(de.extract 0 22).size)=False:=eq_false (Nat.not_lt.2 CA)
    (try have Zz:=Ii;simp only [ByteArray.size_extract,Nat.sub_zero,Nat.min_self] at Zz)
    (try have Zy:=ZA;simp only [ByteArray.size_extract,Nat.sub_zero,Nat.min_self] at Zy)
    replace H:=cZ H;obtain ⟨yP,H⟩:=H;have RA:=decide_eq_true yP;clear yP;replace H:=bS H;obtain ⟨I8,A19,H⟩:=H
    replace H:=bS H;obtain ⟨I7,A20,H⟩:=H
    have H':=ak H
    clear H
    try go_wp2
    replace HB:=ak (cJ HB.out)
    have Tc:0≤(cO:Int):=da
    have SW:cO<(l1.length:Int):=da
    obtain ⟨Z5,aey,tI⟩:=Kd.jA pX.out cO Tc SW
    have nW:=tI
    cases aey
    replace tI:=(HB.out.cell (World.block_lt_of_cell? w _ tI)).trans tI
    replace Tc:=eq_true Tc;replace SW:=eq_true SW
    refine ef (n:=15) (S:=fun w'=>w'.cell? (Z5.add (cO).toNat)=some (.int .i64 (rd l1 cO))) (ds:=[]) (bl 15 0) (by kernel_rfl) rfl rfl (((HB.out.cell (World.block_lt_of_cell? w _ nW)).trans nW)) (fun an=> ?_);refine bW dy.y4 dy.rX (fun aC eE=> ?_)
    generalize wr.drew=w21 at HB tI an⊢
    refine ag 0 (some 20) 15 1 aC ?_
    refine ag 1 (some 21) 15 3 aC ?_
    refine ag 2 (some 22) 15 7 aC ?_
    refine ag 5 (some 25) 15 39 aC ?_
    refine ag 6 (some 26) 15 103 aC ?_
    refine ag 11 (some 31) 15 2151 aC ?_
    refine ag 12 (some 32) 15 6247 aC ?_
    refine cl 3 (some 23) 15 6255 aC eE an ?_ (hy:=by intro w' s0;go_simp;with_reducible rfl)
    refine ag 4 (some 24) 15 6271 aC ?_
    refine gv 7 (some 27) 15 6399 aC (fun K hK=> ?_)
    refine gw Tryz.func126 (by kernel_rfl) rfl #[.string (de.extract 0 16)] (by rfl) rfl rfl (by (try simp only [List.map_toArray,List.map_cons,List.map_nil]);first|done|rfl|(simp only [List.length_drop,List.length_take];rfl)) ?_
    with_reducible refine (fh.calls k1 (de.extract 0 16) CO _ vQ.out).mono ?_
    rintro e w' ⟨rfl,⟨nd,rfl⟩⟩
    refine ⟨_,rfl,?_⟩
    refine hK.out _ _ (((HB.out.cell (World.block_lt_of_cell? w _ nW)).trans nW)) (fun an=> ?_)
    clear hK K
    refine dF (a':= ?_) ?_ ?_
    rotate_left
    ·show Act.put _ (some 27) _=_
     simp only [Act.put,List.setIfInBounds_toArray,List.set_cons_zero,List.set_cons_succ,bX,cL]
     rfl
    refine ag 8 (some 28) 15 6655 aC ?_
    refine gv 9 (some 29) 15 7167 aC (fun K hK=> ?_)
    refine Kd.jW (Kd.int .u8) _ 5 ?hg (N:=29) ?hd (xs:=([(rd l1 cO)%256,(CO)%256]:List Int)) (inner:=[.int .u8 ((rd l1 cO)%256),.int .u8 ((CO)%256)]) (ok:=fun _=>True) (okp:=fun _=>True) ?hr ?hp (fun _ hk=>hk) trivial (Below.refl _ _) (Nat.le_refl _) (by simp) ?_;(case hd=>rfl);(case hg=>rfl);(case hr=>exact qg);(case hp=>exact (bN.one (show Kd.M (Kd.int .u8) _ _ _ ((rd l1 cO)%256) [.int .u8 ((rd l1 cO)%256)] from rfl) (bN.one (show Kd.M (Kd.int .u8) _ _ _ ((CO)%256) [.int .u8 ((CO)%256)] from rfl) (bN.none _ _))))
    intro agJ W4 Mf hb cg dZ
    clear cg dZ
    (first|rw [←RQ.out] at Mf|(simp only [Int.reduceToNat] at Mf;rw [←RQ.out] at Mf))
    have D6:=ak (Kd.dB Mf (bC (ai HB)))
    replace HB:=ak (aE (ai HB) hb)
    clear hb Mf
    refine hK.out _ _ (((HB.out.cell (World.block_lt_of_cell? w _ nW)).trans nW)) (fun an=> ?_)
    clear hK K
    refine dF (a':= ?_) ?_ ?_
    rotate_left
    ·show Act.put _ (some 29) _=_
     simp only [Act.put,List.setIfInBounds_toArray,List.set_cons_zero,List.set_cons_succ,bX,cL]
     rfl
    refine gv 10 (some 30) 15 8191 aC (fun K hK=> ?_)
    have Yg:=iP (P:=Tryz.prog) Tryz.underlying56 Tryz.underlying5 Tryz.underlying9 (Kd.iG D6.out)
    refine uN (w1:= ?_) (v:= ?_) (by rfl) rfl ?_ ?_
    rotate_left 2
    ·go_simp
     constructor
     ·rfl
     ·rfl
    clear Yg
    refine hK.out _ _ (((HB.out.cell (World.block_lt_of_cell? w _ nW)).trans nW)) (fun an=> ?_)
    clear hK K
    refine dF (a':= ?_) ?_ ?_
    rotate_left
    ·show Act.put _ (some 30) _=_
     simp only [Act.put,List.setIfInBounds_toArray,List.set_cons_zero,List.set_cons_succ,bX,cL]
     rfl
    refine ag 13 (some 33) 15 16383 aC ?_
    refine ag 14 (some 7) 15 32767 aC ?_
    refine fm (cW aC.out (by kernel_rfl)) ?_
    have Tb:0≤(cO:Int):=da
    have SV:cO<(l0.length:Int):=da
    obtain ⟨af2,aex,Bg⟩:=Kd.jA fB.out cO Tb SV
    cases aex
    replace Bg:=(HB.out.cell (World.block_lt_of_cell? w _ Bg)).trans Bg
    replace Tb:=eq_true Tb;replace SV:=eq_true SV
    try go_wp2_with (first|(go_at_call 124;(with_reducible refine (kL.calls k1 (rd l0 cO) 24 I8 _ A19.out).mono ?_);rintro e w25 ⟨rfl,hb⟩;replace D6:=ak (Kd.ey (fy D6) hb);replace HB:=ak (aE (ai HB) hb);(try clear hb))|(go_at_call 123;(with_reducible refine (jP.calls k1 ((strOfNums CB)++(de.extract 0 22)) I8 I7 _ A20.out).mono ?_);rintro e w26 ⟨rfl,hb⟩;replace D6:=ak (Kd.ey (fy D6) hb);replace HB:=ak (aE (ai HB) hb);(try clear hb)))
    go_roundg k1
    case measure=>have:=fP.out;omega
    case rel=>exact ⟨(I7),(wrap64 (cO-1)),er,er,H',⟨by have:=fP.out;omega⟩,⟨ai HB⟩⟩
   ·rw [if_neg c9] at H
    have lQ:=geF c9
    clear c9
    obtain rfl:=Option.some.inj H
    go_wp2
    go_ret
    exact ⟨jT,ai HB⟩
def dG.T6:Bool×List (List Nat×List Nat):=(true,[([],[]),([],[]),([1],[1]),([2],[2]),([3],[3]),([],[]),([],[]),([6],[6]),([7],[7]),([8],[8]),([9],[9]),([10],[10]),([11],[11]),([],[]),([12,13],[12,13]),([4,5,14],[4,5,14]),([0,15,15],[0,15])])
def dG.B6:List Nat:=[0,0,2,6,14,0,0,64,192,448,960,1984,4032,0,16320,32766,65535]
theorem dG.Sx:gq .any (opsOf Tryz.f97 6)=dG.T6:=by kernel_rfl
theorem dG.M5:eF dG.T6.2 dG.B6=true:=by kernel_rfl
def dG.g (k:Nat) (n:Nt) (u:Int) (t:ByteArray) (H:List Int):Option (Nt×Bool):=(if 0≤wrap64 ((H.length:Int)-1)∧wrap64 ((H.length:Int)-1)<(H.length:Int) then (dy.f k n.ks (H.set (wrap64 ((H.length:Int)-1)).toNat (wrap64 (u+2))) (strOfNums [wrap64 (n.sd+1)%256]++t)).bind fun s=>(bV.f k ⟨n.ks,n.ps,n.ss,n.ib,wrap64 (n.sd+1)⟩ 0 s).bind fun m=>some (m,true) else none)
def dG.f (k:Nat) (n:Nt) (u:Int) (t:ByteArray):Option (Nt×Bool):=(aM.f u 0 3).bind fun c=>if c=false then some (n,false) else if 14<(t.size:Int) then some (n,false) else if n.sd=60 then some (n,false) else (ff.f [1] (n.ks.length:Int)).bind fun H=>dG.g k n u t H
theorem dG.calls {k:Nat} {v0 v1 v2 v3:Value} {n m:Nt} {u:Int} {t:ByteArray} {r:Bool} {L:List SA} {w0 w:World} {b0:Nat} (hs:Sep w0 w (bA b0 #[v0,v1,v2,v3,.int .i64 n.sd] 27::fH v0 v1 v2 v3 n++L)) (h:dG.f k n u t=some (m,r)):
    Calls Tryz.prog 97 #[.pointer (some ⟨b0,0,none⟩),.int .i64 u,.string t] w fun e w'=>e= .returned (.bool r)∧Sep w0 w' (bA b0 #[v0,v1,v2,v3,.int .i64 m.sd] 27::fH v0 v1 v2 v3 m++L):=by
 have mX:=Tryz.underlying27
 obtain ⟨ks,ps,ss,ib,sd⟩:=n
 have HS:Sep w0 w (bA b0 #[v0,v1,v2,v3,.int .i64 sd] 27::rA KI 3 v0 ks::sA KT 62 v1 ps::sA KT 62 v2 ss::sA KT 62 v3 ib::L):=hs
 clear hs
 unfold dG.f at h
 dsimp only at h⊢
 obtain ⟨A0,c0,rfl⟩:=HS.lJ 1
 obtain ⟨A1,c1,rfl⟩:=HS.jZ 2
 obtain ⟨A2,c2,rfl⟩:=HS.jZ 3
 obtain ⟨A3,c3,rfl⟩:=HS.jZ 4
 replace h:=bS h;obtain ⟨c,T1,h⟩:=h
 cases c with
 |false=>
  rw [if_pos rfl] at h
  skip
  obtain ⟨rfl,rfl⟩:=(Prod.mk.injEq _ _ _ _).mp (Option.some.inj h)
  clear h
  go_enter Tryz.func97,Tryz.ntmps97
  have cK:=aD (HS.bf 0)
  go_wp2_with (first|(go_at_call 70;refine (aM.calls _ _ _ _ _ T1.out).mono ?_;rintro e W_ ⟨rfl,gX,rfl⟩;replace HS:=HS.drewN gX;generalize World.drewN _ gX=W_ at HS⊢;clear cK;have cK:=aD (HS.bf 0)))
  go_ret
  exact ⟨er,HS⟩
 |true=>
  rw [if_neg (by decide)] at h
  by_cases rG:14<(t.size:Int)
  ·rw [if_pos rG] at h
   have U8:decide (14<(t.size:Int))=true:=decide_eq_true rG
   clear rG
   obtain ⟨rfl,rfl⟩:=(Prod.mk.injEq _ _ _ _).mp (Option.some.inj h)
   clear h
   go_enter Tryz.func97,Tryz.ntmps97
   have cK:=aD (HS.bf 0)
   go_wp2_with (first|(go_at_call 70;refine (aM.calls _ _ _ _ _ T1.out).mono ?_;rintro e W_ ⟨rfl,gX,rfl⟩;replace HS:=HS.drewN gX;generalize World.drewN _ gX=W_ at HS⊢;clear cK;have cK:=aD (HS.bf 0)))
   go_ret
   exact ⟨er,HS⟩
  ·rw [if_neg rG] at h
   have U8:decide (14<(t.size:Int))=false:=decide_eq_false rG
   have hts:t.size≤14:=by omega
   clear rG
   by_cases J4:sd=60
   ·rw [if_pos J4] at h
    have cb2:(sd==60)=true:=beq_iff_eq.2 J4
    clear J4
    obtain ⟨rfl,rfl⟩:=(Prod.mk.injEq _ _ _ _).mp (Option.some.inj h)
    clear h
    go_enter Tryz.func97,Tryz.ntmps97
    have cK:=aD (HS.bf 0)
    go_wp2_with (first|(go_at_call 70;refine (aM.calls _ _ _ _ _ T1.out).mono ?_;rintro e W_ ⟨rfl,gX,rfl⟩;replace HS:=HS.drewN gX;generalize World.drewN _ gX=W_ at HS⊢;clear cK;have cK:=aD (HS.bf 0)))
    go_ret
    exact ⟨er,HS⟩
   ·rw [if_neg J4] at h
    have cb2:(sd==60)=false:=beq_eq_false_iff_ne.2 J4
    clear J4
    replace h:=bS h;obtain ⟨H,TH,h⟩:=h
    have H':=ak h;clear h
    go_enter Tryz.func97,Tryz.ntmps97
    have cK:=aD (HS.bf 0)
    go_upto_region 4 with (first|(go_at_call 70;refine (aM.calls _ _ _ _ _ T1.out).mono ?_;rintro e W_ ⟨rfl,gX,rfl⟩;replace HS:=HS.drewN gX;generalize World.drewN _ gX=W_ at HS⊢;clear cK;have cK:=aD (HS.bf 0)))
    clear cK
    obtain ⟨uI,iW,iZ⟩:=(HS.dg 0 4 (.int .i64 (wrap64 (sd+1))) #[.slice A0 ks.length c0,.slice A1 ps.length c1,.slice A2 ss.length c2,.slice A3 ib.length c3,.int .i64 (wrap64 (sd+1))]).gen
    rw [iW]
    clear HS iW
    have HS:=iZ
    clear iZ
    have cK:=aD (HS.bf 0)
    go_upto_region 5 with (first|((with_reducible refine ax (N:=30) rfl ?_);refine Kd.gy KI _ 3 ?hg (N:=30) ?hd (xs:=([1]:List Int)) (inner:=[.int .i64 1]) (ok:=fun _=>True) (okp:=fun _=>True) ?hr ?hp (fun _ hk=>hk) trivial (Below.refl _ _) (Nat.le_refl _) (by simp) ?_;(case hd=>rfl);(case hg=>rfl);(case hr=>first|(go_simp;done)|(go_simp;rfl));(case hp=>exact (bN.one (show Kd.M KI _ _ _ 1 [.int .i64 1] from rfl) (bN.none _ _)));intro xp W_ bQ bn _ _;replace HS:=HS.new (A:=rA KI 3 xp ([1])) bn bQ;clear bQ bn;obtain ⟨A9,c9,rfl⟩:=HS.lJ 0;clear cK;have cK:=aD (HS.bf 1))|(go_at_call 117;have dj:=ff.calls A9 c9 [1] (ks.length:Int) H _ (HS.jb 0).2.2 (HS.jb 0).2.1 TH.out;refine dj.mono ?_;clear dj;rintro e W_ ⟨vH,rfl,bQ,bn⟩;replace HS:=HS.new (A:=rA KI 3 vH H) bn bQ;clear bQ bn;clear cK;have cK:=aD (HS.bf 2)))
    have h:=H'.out;clear H'
    unfold dG.g at h
    dsimp only at h
    replace h:=cZ h;obtain ⟨⟨we,Bo⟩,h⟩:=h
    obtain ⟨gH,qH,rfl⟩:=HS.vN 0 (hx:=by omega)
    obtain ⟨Yo,Yn⟩:=HS.QL 0 (wrap64 ((H.length:Int)-1)) we Bo
    generalize PF:wrap64 ((H.length:Int)-1)=i at h we Bo Yo Yn
    have pi0:(0≤i)=True:=eq_true we
    have pi1:(i<(H.length:Int))=True:=eq_true Bo
    clear cK
    have cK:=aD (HS.bf 2)
    go_upto_region 6 with fail
    clear cK
    clear Yo Yn pi0 pi1
    replace HS:=HS.XG i (wrap64 (u+2))
    obtain ⟨uI,iW,iZ⟩:=HS.gen
    rw [iW]
    clear HS iW
    have HS:=iZ
    clear iZ
    generalize hG:H.set i.toNat (wrap64 (u+2))=G at HS h
    have Uw:G.length=H.length:=by rw [←hG,List.length_set]
    rw [←Uw] at HS
    simp only [←Uw]
    clear PF we Bo hG Uw
    obtain ⟨B,hB⟩:∃B,strOfNums [wrap64 (sd+1)%256]=B:=⟨_,rfl⟩
    rw [hB] at h
    have hBs:B.size=1:=by rw [←hB];rfl
    have TD:decide (B.size+t.size≤9223372036854775807)=true:=decide_eq_true (by omega)
    have Dj:(9223372036854775807<B.size+t.size)=False:=eq_false (by omega)
    clear hBs
    replace h:=bS h;obtain ⟨s,T2,h⟩:=h
    replace h:=bS h;obtain ⟨⟨N0,Kr,Kp,N1,Kq⟩,T3,h⟩:=h
    obtain ⟨e1,e2,e3⟩:=bV.keeps T3.out
    dsimp only at e1 e2 e3
    replace e1:=e1.symm;replace e2:=e2.symm;replace e3:=e3.symm
    subst e1 e2 e3
    obtain ⟨rfl,rfl⟩:=(Prod.mk.injEq _ _ _ _).mp (Option.some.inj h)
    clear h
    go_upto_region 6 with fail
    have cK:=aD (HS.bf 2)
    refine ef (n:=17) (S:=fun w'=>w'.cell? ⟨b0,0,none⟩=some (.slice A0 ks.length c0)∧w'.cell? ⟨b0,1,none⟩=some (.slice A1 ps.length c1)∧w'.cell? ⟨b0,2,none⟩=some (.slice A2 ss.length c2)∧w'.cell? ⟨b0,3,none⟩=some (.slice A3 ib.length c3)∧w'.cell? ⟨b0,4,none⟩=some (.int .i64 (wrap64 (sd+1)))) (ds:=[]) (bl 17 0) (by kernel_rfl) rfl rfl ⟨cK.1,cK.2.1,cK.2.2.1,cK.2.2.2.1,cK.2.2.2.2.1⟩ (fun an=> ?_);refine bW dG.Sx dG.M5 (fun aC eE=> ?_)
    clear cK
    replace HS:=HS.drew
    generalize World.drew _=vO at HS an⊢
    refine ag 0 (some 44) 17 1 aC ?_
    refine ag 1 (some 45) 17 3 aC ?_
    refine ag 2 (some 46) 17 7 aC ?_
    refine ag 3 (some 47) 17 15 aC ?_
    refine cl 4 (some 48) 17 31 aC eE an ?_ (hy:=by rintro w' ⟨s0,s1,s2,s3,s4⟩;go_simp;with_reducible rfl)
    refine ag 5 (some 49) 17 63 aC ?_
    refine ag 6 (some 50) 17 127 aC ?_
    refine ag 7 (some 51) 17 255 aC ?_
    refine ag 8 (some 52) 17 511 aC ?_
    refine cl 9 (some 53) 17 1023 aC eE an ?_ (hy:=by rintro w' ⟨s0,s1,s2,s3,s4⟩;go_simp;with_reducible rfl)
    refine ag 10 (some 54) 17 2047 aC ?_
    refine ag 13 (some 57) 17 10239 aC ?_
    refine gv 11 (some 55) 17 12287 aC (fun K hK=> ?_)
    clear an
    refine Kd.jW (Kd.int .u8) _ 5 ?hg (N:=55) ?hd (xs:=([wrap64 (sd+1)%256]:List Int)) (inner:=[.int .u8 (wrap64 (sd+1)%256)]) (ok:=fun _=>True) (okp:=fun _=>True) ?hr ?hp (fun _ hk=>hk) trivial (Below.refl _ _) (Nat.le_refl _) (by simp) ?_
    (case hd=>rfl)
    (case hg=>rfl)
    (case hr=>first|(go_simp;done)|(go_simp;rfl))
    (case hp=>exact (bN.one (show Kd.M (Kd.int .u8) _ _ _ (wrap64 (sd+1)%256) [.int .u8 (wrap64 (sd+1)%256)] from rfl) (bN.none _ _)))
    intro vby W_ bQ bn _ _
    replace HS:=HS.new (A:=rA (Kd.int .u8) 5 vby ([wrap64 (sd+1)%256])) bn bQ
    clear bQ bn
    have cK:=aD (HS.bf 3)
    refine hK.out _ _ ⟨cK.1,cK.2.1,cK.2.2.1,cK.2.2.2.1,cK.2.2.2.2.1⟩ (fun an=> ?_)
    clear hK K cK
    refine dF (a':= ?_) ?_ ?_
    rotate_left
    ·show Act.put _ (some 55) _=_
     simp only [Act.put,List.setIfInBounds_toArray,List.set_cons_zero,List.set_cons_succ,bX,cL]
     rfl
    refine gv 12 (some 56) 17 16383 aC (fun K hK=> ?_)
    clear an
    have Yj:=HS.text 0 (P:=Tryz.prog) Tryz.underlying56 Tryz.underlying5 Tryz.underlying9
    rw [hB] at Yj
    refine uN (w1:= ?_) (v:= ?_) (by rfl) rfl ?_ ?_
    rotate_left 2
    ·go_simp
     constructor
     ·rfl
     ·rfl
    clear Yj
    have cK:=aD (HS.bf 3)
    refine hK.out _ _ ⟨cK.1,cK.2.1,cK.2.2.1,cK.2.2.2.1,cK.2.2.2.2.1⟩ (fun an=> ?_)
    clear hK K cK
    refine dF (a':= ?_) ?_ ?_
    rotate_left
    ·show Act.put _ (some 56) _=_
     simp only [Act.put,List.setIfInBounds_toArray,List.set_cons_zero,List.set_cons_succ,bX,cL]
     rfl
    refine ag 14 (some 58) 17 32767 aC ?_
    refine gv 15 (some 59) 17 65535 aC (fun K hK=> ?_)
    refine gw Tryz.func118 (by kernel_rfl) rfl #[.slice A0 ks.length c0,.slice (some ⟨gH,0,none⟩) G.length qH,.string (B++t)] (by rfl) rfl rfl (by (try simp only [List.map_toArray,List.map_cons,List.map_nil]);first|done|rfl) ?_
    have dj:=dy.calls k _ _ ks _ _ G (B++t) s _ (HS.jb 4).2.2 (HS.jb 4).2.1 (HS.jb 1).2.2 (HS.jb 1).2.1 T2.out
    refine dj.mono ?_
    clear dj an
    rintro e W_ ⟨rfl,bn⟩
    refine ⟨_,rfl,?_⟩
    replace HS:=HS.below bn
    clear bn
    have cK:=aD (HS.bf 3)
    refine hK.out _ _ ⟨cK.1,cK.2.1,cK.2.2.1,cK.2.2.2.1,cK.2.2.2.2.1⟩ (fun an=> ?_)
    clear hK K cK
    refine dF (a':= ?_) ?_ ?_
    rotate_left
    ·show Act.put _ (some 59) _=_
     simp only [Act.put,List.setIfInBounds_toArray,List.set_cons_zero,List.set_cons_succ,bX,cL]
     rfl
    refine gv 16 (some 60) 17 131071 aC (fun K hK=> ?_)
    refine gw Tryz.func98 (by kernel_rfl) rfl #[.pointer (some ⟨b0,0,none⟩),.int .i64 0,.string s] (by rfl) rfl rfl (by (try simp only [List.map_toArray,List.map_cons,List.map_nil]);first|done|rfl) ?_
    have dj:=bV.calls (n:=⟨ks,ps,ss,ib,wrap64 (sd+1)⟩) (HS.zU.zU.zU.zU.zU) T3.out
    refine dj.mono ?_
    clear dj an
    rintro e W_ ⟨rfl,ij⟩
    refine ⟨_,rfl,?_⟩
    clear HS
    have HS:=ij
    clear ij
    dsimp only [fH,List.cons_append,List.nil_append] at HS
    have cK:=aD (HS.bf 0)
    refine hK.out _ _ ⟨cK.1,cK.2.1,cK.2.2.1,cK.2.2.2.1,cK.2.2.2.2.1⟩ (fun an=> ?_)
    clear hK K cK
    refine dF (a':= ?_) ?_ ?_
    rotate_left
    ·show Act.put _ (some 60) _=_
     simp only [Act.put,List.setIfInBounds_toArray,List.set_cons_zero,List.set_cons_succ,bX,cL]
     rfl
    refine fm (cW aC.out (by kernel_rfl)) ?_
    clear aC eE an
    go_wp2
    go_ret
    replace HS:=HS.jI.tail
    replace HS:=HS.jI.tail
    replace HS:=HS.jI.tail
    exact ⟨er,HS⟩
end Go.Proofs.YtihekdlcfohkkaaGreatDoor.QFnNet
