-- printed by this session's own program (wip/tools/pp.py: the kit's print.py with changes); Lean checks it
import Derived.Test.YtihekdlcfohkkaaGreatDoorQFnNetx0
namespace Go.Proofs.YtihekdlcfohkkaaGreatDoor.QFnNet
open Go.RowKit Go.Proofs.YtihekdlcfohkkaaGreatDoorW.PrintWords Go.Proofs.YtihekdlcfohkkaaGreatDoorW.PrintLast Go.Proofs.YtihekdlcfohkkaaGreatDoorW.PrintMore
attribute [local go_sem] max2_int min2_int max_two min_two max_three min_three max_four min_four strLss strGtr strLeq strGeq
set_option linter.unusedVariables false
set_option linter.unusedSimpArgs false
set_option maxHeartbeats 16000000
set_option maxRecDepth 100000
def bZ.f (a0:ByteArray) (a1:ByteArray):Option (Int):=if 0<(a0.size:Int) then (if 0<(a1.size:Int) then (some (wrap64 ((wrap64 (bt a0 0))-(wrap64 (bt a1 0))))) else (none)) else (none)
theorem bZ.calls (a0:ByteArray) (a1:ByteArray) (r:Int) (w:World) (h:bZ.f a0 a1=some r):
  Calls Tryz.prog 107 #[.string a0,.string a1] w fun e w'=>e= .returned (.int .i64 r)∧cH w w':=by
 have H:(if 0<(a0.size:Int) then (if 0<(a1.size:Int) then (some (wrap64 ((wrap64 (bt a0 0))-(wrap64 (bt a1 0))))) else (none)) else (none))=some r:=h
 clear h;replace H:=cZ H;obtain ⟨c3,H⟩:=H;have jh:=decide_eq_true c3
 have sN:decide (0<a0.size)=true:=decide_eq_true (by omega)
 clear c3;replace H:=cZ H;obtain ⟨c5,H⟩:=H;have jg:=decide_eq_true c5
 have BZ:decide (0<a1.size)=true:=decide_eq_true (by omega)
 clear c5
 obtain rfl:=Option.some.inj H
 have p4:0≤(0:Int):=(by omega)
 have q4:0<a0.size:=(by have:(0:Int)<(a0.size:Int):=da;omega)
 have hx4:∀h:0<a0.size,((a0[0]'h).toNat:Int)=bt a0 0:=kD a0 0
 clear p4
 have qi4:(0<(a0.size:Int))=True:=eq_true (da)
 replace q4:=eq_true q4
 have p6:0≤(0:Int):=(by omega)
 have q6:0<a1.size:=(by have:(0:Int)<(a1.size:Int):=da;omega)
 have hx6:∀h:0<a1.size,((a1[0]'h).toNat:Int)=bt a1 0:=kD a1 0
 clear p6
 have qi6:(0<(a1.size:Int))=True:=eq_true (da)
 replace q6:=eq_true q6
 go_enter Tryz.func107,Tryz.ntmps107
 go_wp2
 repeat (go_quiet (fail);try go_wp2)
 go_ret
 exact ⟨er,gh⟩
mutual
def af.l0:Nat→List ByteArray→Int→Int→Int→Option (List ByteArray)
  |0,_,_,_,_=>none
  |k+1,x0,x1,x2,x8=>if x8<x2 then (af.l1 k x0 x1 x2 x8 x8) else (some x0)
def af.l1:Nat→List ByteArray→Int→Int→Int→Int→Option (List ByteArray)
  |0,_,_,_,_,_=>none
  |k+1,x0,x1,x2,x8,x9=>if x9>x1 then (if 0≤x9 then (if x9<(x0.length:Int) then (if 0≤(wrap64 (x9-1)) then (if (wrap64 (x9-1))<(x0.length:Int) then ((bZ.f (aV ByteArray.empty x0 x9) (aV ByteArray.empty x0 (wrap64 (x9-1)))).bind fun En=>(if En<0 then (af.l1 k ((x0.set (x9:Int).toNat (aV ByteArray.empty x0 (wrap64 (x9-1)))).set ((wrap64 (x9-1)):Int).toNat (aV ByteArray.empty x0 x9)) x1 x2 x8 (wrap64 (x9-1))) else (af.l0 k x0 x1 x2 (wrap64 (x8+1))))) else (none)) else (none)) else (none)) else (none)) else (af.l0 k x0 x1 x2 (wrap64 (x8+1)))
end
def af.f (k:Nat) (l0:List ByteArray) (a1:Int) (a2:Int):Option (List ByteArray):=af.l0 k l0 a1 a2 (wrap64 (a1+1))
def af.T4:Bool×List (List Nat×List Nat):=(true,[([],[]),([],[]),([0,1],[0,1]),([2],[2]),([3],[3]),([3],[3]),([3],[3]),([5,6,3],[3,5,6]),([7,3],[3,7]),([3],[3]),([3],[3]),([10,3],[3,10]),([9,11,3],[3,9,11]),([12,3],[3,12]),([4,8,13,3,3],[3,4,8,13]),([14,3],[3,14]),([3,15],[3,15])])
def af.B4:List Nat:=[0,0,3,7,15,15,15,111,239,15,15,1039,3599,7695,16383,32767,65535]
theorem af.Ao:gq .any (opsOf Tryz.f135 4)=af.T4:=by kernel_rfl
theorem af.uh:eF af.T4.2 af.B4=true:=by kernel_rfl
def af.T6:Bool×List (List Nat×List Nat):=(true,[([],[]),([],[]),([],[]),([],[]),([3],[3]),([],[]),([],[]),([6],[6]),([5,7],[5,7]),([8],[8]),([],[]),([],[]),([10,11],[10,11]),([12],[12]),([0,1,0,1,5,6,7,8,9,13],[0,1]),([14,9,0,1,5,6,7,8,9,13],[9,14]),([2,4,0,1,2,3,4,5,6,7,8,9,10,11,12,13,14,15],[2,4]),([16,13,15,0,1,2,3,4,5,6,7,8,9,10,11,12,13,14,15],[13,16])])
def af.B6:List Nat:=[0,0,0,0,8,0,0,64,224,480,0,0,3072,7168,16355,32739,65535,131071]
theorem af.Sx:gq .any (opsOf Tryz.f135 6)=af.T6:=by kernel_rfl
theorem af.M5:eF af.T6.2 af.B6=true:=by kernel_rfl
theorem af.calls (k:Nat) (iM:Nat→Prop) (ej:Value) (l0:List ByteArray) (a1:Int) (a2:Int) (r:List ByteArray) (w0 w:World) (hB:Below w0.heap.size w0 w) (uE:Kd.R Kd.string 9 w w0.heap.size iM ej l0) (h:af.f k l0 a1 a2=some r):
  Calls Tryz.prog 135 #[ej,.int .i64 a1,.int .i64 a2,.func (.func 107) #[] #[]] w fun e w'=>e= .returned (.tuple #[])∧Kd.R Kd.string 9 w' w0.heap.size (fun k_=>(iM k_∨w.heap.size≤k_)) ej r∧Below w0.heap.size w0 w'∧Kept w w' (fun k_=>iM k_):=by
 have Cm:=ak (show Kd.R Kd.string 9 w w0.heap.size (fun k_=>(iM k_∨w.heap.size≤k_)) ej l0 from Kd.bF uE (fun k_ hk=>(.inl hk)))
 have HK:=ak (Kept.refl w (fun k_=>iM k_))
 have Iw:=ak hB.size
 have HB:=ak hB;clear hB
 have H:(af.l0 k l0 a1 a2 (wrap64 (a1+1)))=some r:=h
 clear h
 have H':=ak H
 clear H
 go_enter Tryz.func135,Tryz.ntmps135
 go_wp2
 go_loopg [8] k (fun kq v8 w'=>∃(gD:List ByteArray) (cO:Int),v8= .int .i64 cO∧Aside0 (af.l0 kq gD a1 a2 cO=some r)∧Aside0 (kq≤k)∧Aside0 (Kd.R Kd.string 9 w' w0.heap.size (fun k_=>(iM k_∨w.heap.size≤k_)) ej gD)∧Aside0 (Kept w w' (fun k_=>iM k_))∧Aside0 (Below w0.heap.size w0 w'))
 case atStart=>exact ⟨(l0),(wrap64 (a1+1)),er,H',⟨Nat.le_refl _⟩,⟨fy Cm⟩,⟨kY HK⟩,⟨ai HB⟩⟩
 case round=>
  clear H'
  obtain ⟨gD,cO,rfl,HA,fP,bz,HK,HB⟩:=hrel
  cases gk with
  |zero=>exact absurd HA.out (by simp [af.l0])
  |succ k1=>
   have H:=HA.out;clear HA
   simp only [af.l0] at H
   by_cases c5:cO<a2
   ·rw [if_pos c5] at H
    have jg:=decide_eq_true c5
    clear c5
    have H':=ak H
    clear H;go_wp2
    go_loopg [9] k1 (fun kq v9 w'=>∃(eN:List ByteArray) (ga:Int),v9= .int .i64 ga∧Aside0 (af.l1 kq eN a1 a2 cO ga=some r)∧Aside0 (kq≤k1)∧Aside0 (Kd.R Kd.string 9 w' w0.heap.size (fun k_=>(iM k_∨w.heap.size≤k_)) ej eN)∧Aside0 (Kept w w' (fun k_=>iM k_))∧Aside0 (Below w0.heap.size w0 w'))
    case atStart=>exact ⟨(gD),(cO),er,H',⟨Nat.le_refl _⟩,⟨fy bz⟩,⟨kY HK⟩,⟨ai HB⟩⟩
    case round=>
     clear H'
     (try clear jg)
     obtain ⟨eN,ga,rfl,HA,jj,bz,HK,HB⟩:=hrel
     cases gk with
     |zero=>exact absurd HA.out (by simp [af.l1])
     |succ k2=>
      have H:=HA.out;clear HA
      simp only [af.l1] at H
      by_cases c6:ga>a1
      ·rw [if_pos c6] at H
       have jz:=H6 c6
       clear c6;replace H:=cZ H;obtain ⟨c7,H⟩:=H;have rF:=decide_eq_true c7;clear c7;replace H:=cZ H;obtain ⟨c8,H⟩:=H;have wm:=decide_eq_true c8;clear c8
       obtain ⟨lU,tQ⟩:∃j_:Int,(wrap64 (ga-1))=j_:=⟨_,rfl⟩
       replace H:(if 0≤(lU) then (if (lU)<(eN.length:Int) then ((bZ.f (aV ByteArray.empty eN ga) (aV ByteArray.empty eN (lU))).bind fun En=>(if En<0 then (af.l1 k2 ((eN.set (ga:Int).toNat (aV ByteArray.empty eN (lU))).set ((lU):Int).toNat (aV ByteArray.empty eN ga)) a1 a2 cO lU) else (af.l0 k2 eN a1 a2 (wrap64 (cO+1))))) else (none)) else (none))=some r:=by first|(rw [tQ] at H;exact H)|(simp only [tQ] at H⊢;exact H)
       have Q7:(IntKind.i64.wrap (ga-1))=lU:=(bX _).trans tQ
       replace H:=cZ H;obtain ⟨gu,H⟩:=H;have kC:=decide_eq_true gu;clear gu;replace H:=cZ H;obtain ⟨lp,H⟩:=H;have lW:=decide_eq_true lp;clear lp;replace H:=bS H;obtain ⟨En,Kl,H⟩:=H
       by_cases oa:En<0
       ·rw [if_pos oa] at H
        have DM:=decide_eq_true oa
        clear oa
        obtain ⟨Wx,eZ⟩:∃y_:List ByteArray,y_=(eN.set (ga:Int).toNat (aV ByteArray.empty eN (lU))):=⟨_,rfl⟩
        replace H:(af.l1 k2 (Wx.set ((lU):Int).toNat (aV ByteArray.empty eN ga)) a1 a2 cO lU)=some r:=yH
        have aaA:=ak eZ;clear eZ
        obtain ⟨Ww,eZ⟩:∃y_:List ByteArray,y_=(Wx.set ((lU):Int).toNat (aV ByteArray.empty eN ga)):=⟨_,rfl⟩
        replace H:(af.l1 k2 Ww a1 a2 cO lU)=some r:=yH
        have aaz:=ak eZ;clear eZ
        have H':=ak H
        clear H
        try go_wp2
        replace bz:=ak (Kd.cy bz.out)
        replace HK:=ak (Kept.drew HK.out)
        replace HB:=ak (cJ HB.out)
        obtain ⟨ahU,aeL,YS⟩:=Kd.dc bz.out
        (first|subst YS|(injection YS with rU zj rT;have zi:=rU.symm;have zh:=rT.symm;clear rU zj rT;subst zi;subst zh))
        obtain ⟨ac6,acQ,rZ,UF,pE⟩:=m5 (Kd.bh (Kd.bL bz.out).2.2 ga)
        cases UF
        obtain ⟨ac5,acP,Ng,UE,pz⟩:=m5 (Kd.bh (Kd.bL bz.out).2.2 (lU))
        obtain rfl:rZ=Ng:=(by injection UE)
        refine ef (n:=17) (S:=fun w'=>w'.cell? (rZ.add (ga).toNat)=some (.string (aV ByteArray.empty eN ga))∧w'.cell? (rZ.add ((lU)).toNat)=some (.string (aV ByteArray.empty eN (lU)))) (ds:=[]) (bl 17 0) (by kernel_rfl) rfl rfl ⟨pE,pz⟩ (fun an=> ?_);refine bW af.Ao af.uh (fun aC eE=> ?_)
        generalize wr.drew=KE at bz HK HB pE pz an⊢
        refine ag 0 (some 18) 17 1 aC ?_
        refine ag 1 (some 19) 17 3 aC ?_
        refine ag 2 (some 20) 17 7 aC ?_
        refine ag 3 (some 21) 17 15 aC ?_
        refine ag 4 (some 22) 17 31 aC ?_
        refine ag 5 (some 23) 17 63 aC ?_
        refine ag 6 (some 24) 17 127 aC ?_
        refine ag 7 (some 25) 17 255 aC ?_
        refine ag 9 (some 27) 17 767 aC ?_
        refine ag 10 (some 28) 17 1791 aC ?_
        refine ag 11 (some 29) 17 3839 aC ?_
        refine ag 12 (some 30) 17 7935 aC ?_
        refine cl 8 (some 26) 17 8191 aC eE an ?_ (hy:=by rintro w' ⟨s0,s1⟩;go_simp;with_reducible rfl)
        refine cl 13 (some 31) 17 16383 aC eE an ?_ (hy:=by rintro w' ⟨s0,s1⟩;go_simp;with_reducible rfl)
        refine gv 14 (some 32) 17 32767 aC (fun K hK=> ?_)
        refine n7 Tryz.func107 (by kernel_rfl) rfl #[.string (aV ByteArray.empty eN ga),.string (aV ByteArray.empty eN (lU))] (by rfl) rfl rfl rfl (by (try simp only [List.map_toArray,List.map_cons,List.map_nil]);first|done|(simp only [tQ];rfl)|rfl|(simp only [List.length_drop,List.length_take];rfl)) ?_
        with_reducible refine (bZ.calls (aV ByteArray.empty eN ga) (aV ByteArray.empty eN (lU)) En _ Kl.out).mono ?_
        rintro e w' ⟨rfl,⟨nd,rfl⟩⟩
        refine ⟨_,rfl,?_⟩
        refine hK.out _ _ ⟨an.1,an.2⟩ (fun an=> ?_)
        clear hK K
        refine dF (a':= ?_) ?_ ?_
        rotate_left
        ·show Act.put _ (some 32) _=_
         simp only [Act.put,List.setIfInBounds_toArray,List.set_cons_zero,List.set_cons_succ,bX,cL]
         rfl
        refine ag 15 (some 33) 17 65535 aC ?_
        refine ag 16 (some 34) 17 131071 aC ?_
        refine fm (cW aC.out (by kernel_rfl)) ?_
        try go_wp2
        (try (rw [l9 KE];generalize wJ:World.drewN KE _=KE;have zH:Aside0 (Kd.R Kd.string 9 KE w0.heap.size (fun k_=>(iM k_∨w.heap.size≤k_)) (.slice (some rZ) eN.length aeL) eN):=⟨by rw [←wJ];exact (fy bz)⟩;have zG:Aside0 (Kept w KE (fun k_=>iM k_)):=⟨by rw [←wJ];exact (kY HK)⟩;have n2_:Aside0 (Below w0.heap.size w0 KE):=⟨by rw [←wJ];exact (ai HB)⟩;clear bz HK HB wJ;have bz:=zH;have HK:=zG;have HB:=n2_;clear zH zG n2_))
        replace bz:=ak (Kd.cy bz.out)
        replace HK:=ak (Kept.drew HK.out)
        replace HB:=ak (cJ HB.out)
        obtain ⟨ahd,ag2,ZT,aet,Be⟩:=m5 (Kd.bh (Kd.bL bz.out).2.2 (lU))
        obtain rfl:rZ=ZT:=(by injection aet)
        obtain ⟨ahc,ag1,ZS,aes,Bd⟩:=m5 (Kd.bh (Kd.bL bz.out).2.2 ga)
        obtain rfl:rZ=ZS:=(by injection aes)
        have Jm:0≤(ga:Int):=da
        have Jl:(ga:Int)<((eN.length:Int):Int):=da
        obtain ⟨wh,ahC,YT,YE,ad5,ahG,abm⟩:=Kd.yK bz.out (by omega)
        (first|cases YT|(injection YT with wL PX PY;(first|subst wL|(injection wL with wL;subst wL));subst PY;clear PX))
        have abr:=Aside0.mk YE;have ae9:=ak abm;clear YE ad5 abm
        have NL:=ak (show (iM wh∨w.heap.size≤wh) from (bz.out.1 _ rfl))
        (first|simp only [add_plain] at pE|skip)
        (first|simp only [add_plain] at pz|skip)
        (first|simp only [add_plain] at Be|skip)
        (first|simp only [add_plain] at Bd|skip)
        obtain ⟨Fj,FB⟩:=Kd.m6 (⟨#[]⟩:ByteArray) bz.out (ga:Int) Jm Jl
        replace Jm:=eq_true Jm;replace Jl:=eq_true Jl
        have VK:=Kd.pN bz.out (ga:Int) (aV ByteArray.empty eN (lU))
        rw [←aaA.out] at VK
        have VD:=ak VK;clear VK
        have p15:0≤((lU):Int):=da
        have q15:((lU):Int)<((eN.length:Int):Int):=da
        obtain ⟨TA,Ui⟩:=Kd.m6 (⟨#[]⟩:ByteArray) VD.out ((lU):Int) p15 q15
        replace p15:=eq_true p15;replace q15:=eq_true q15
        have VJ:=Kd.pN VD.out ((lU):Int) (aV ByteArray.empty eN ga)
        rw [←aaz.out] at VJ
        have aa0:=ak VJ;clear VJ
        refine ef (n:=18) (S:=fun w'=>w'.cell? ⟨wh,((lU)).toNat,none⟩=some (.string (aV ByteArray.empty eN (lU)))∧w'.cell? ⟨wh,(ga).toNat,none⟩=some (.string (aV ByteArray.empty eN ga))) (ds:=[15,17]) (bl 18 0) (by kernel_rfl) rfl rfl ⟨Be,Bd⟩ (fun an=> ?_);refine bW af.Sx af.M5 (fun aC eE=> ?_)
        generalize KE.drew=NZ at bz HK HB ae9 VD aa0 FB Ui Fj TA pE pz Be Bd an⊢
        refine ag 0 (some 37) 18 1 aC ?_
        refine ag 1 (some 38) 18 3 aC ?_
        refine ag 2 (some 39) 18 7 aC ?_
        refine ag 3 (some 40) 18 15 aC ?_
        refine ag 4 (some 41) 18 31 aC ?_
        refine ag 5 (some 42) 18 63 aC ?_
        refine ag 6 (some 43) 18 127 aC ?_
        refine ag 7 (some 44) 18 255 aC ?_
        refine ag 8 (some 45) 18 511 aC ?_
        refine ag 10 (some 47) 18 1535 aC ?_
        refine ag 11 (some 48) 18 3583 aC ?_
        refine ag 12 (some 49) 18 7679 aC ?_
        refine cl 9 (some 46) 18 8191 aC eE an ?_ (hy:=by rintro w' ⟨s0,s1⟩;go_simp;with_reducible rfl)
        refine cl 13 (some 50) 18 16383 aC eE an ?_ (hy:=by rintro w' ⟨s0,s1⟩;go_simp;with_reducible rfl)
        refine ag 14 (some 51) 18 32767 aC ?_
        refine mm (i:=15) (N:=none) (bl 18 65535) rfl rfl (jH aC.out (by kernel_rfl)) (by decide) (fun K hK=> ?_)
        refine kW (w1:= ?_) (by rfl) rfl ?_ ?_
        rotate_left
        ·go_simp
         rfl
        refine hK.out _ _ ?_
        clear hK K
        refine ag 16 (some 52) 18 131071 aC ?_
        refine mm (i:=17) (N:=none) (bl 18 262143) rfl rfl (jH aC.out (by kernel_rfl)) (by decide) (fun K hK=> ?_)
        refine kW (w1:= ?_) (by rfl) rfl ?_ ?_
        rotate_left
        ·go_simp
         rfl
        refine hK.out _ _ ?_
        clear hK K
        refine fm (cW aC.out (by kernel_rfl)) ?_
        try go_wp2
        (first|go_roundg k2|((try rw [←add_plain wh (ga:Int).toNat]);(try rw [←add_plain wh ((lU):Int).toNat]);(try rw [←add_plain wh ((lU):Int).toNat]);(try rw [←add_plain wh (ga:Int).toNat]);go_roundg k2))
        case measure=>have:=fP.out;have:=jj.out;omega
        case rel=>exact ⟨(Ww),(lU),(by first|rfl|(simp;done)|(simp only [←tQ]<;>(first|rfl|simp))|(simp [*];done)),H',⟨by have:=fP.out;have:=jj.out;omega⟩,⟨fy aa0⟩,⟨by repeat (first|(with_reducible first|exact HK.out|apply Kept.alloc|apply Kept.drewN|apply Kept.drew|refine Kept.setCell ?_ NL.out _|refine Kept.setCell ?_ NL.out _)|exact HK.out)⟩,⟨by repeat (first|(with_reducible first|exact HB.out|apply dA|apply dS|apply cJ|refine dX ?_ abr.out|refine dX ?_ abr.out)|exact HB.out)⟩⟩
       ·rw [if_neg oa] at H
        have DM:=decide_eq_false oa
        clear oa
        have H':=ak H
        clear H
        try go_wp2
        replace bz:=ak (Kd.cy bz.out)
        replace HK:=ak (Kept.drew HK.out)
        replace HB:=ak (cJ HB.out)
        obtain ⟨ahT,ahB,YR⟩:=Kd.dc bz.out
        (first|subst YR|(injection YR with rU zj rT;have zi:=rU.symm;have zh:=rT.symm;clear rU zj rT;subst zi;subst zh))
        obtain ⟨ac6,acQ,rZ,UF,pE⟩:=m5 (Kd.bh (Kd.bL bz.out).2.2 ga)
        cases UF
        obtain ⟨ac5,acP,Ng,UE,pz⟩:=m5 (Kd.bh (Kd.bL bz.out).2.2 (lU))
        obtain rfl:rZ=Ng:=(by injection UE)
        refine ef (n:=17) (S:=fun w'=>w'.cell? (rZ.add (ga).toNat)=some (.string (aV ByteArray.empty eN ga))∧w'.cell? (rZ.add ((lU)).toNat)=some (.string (aV ByteArray.empty eN (lU)))) (ds:=[]) (bl 17 0) (by kernel_rfl) rfl rfl ⟨pE,pz⟩ (fun an=> ?_);refine bW af.Ao af.uh (fun aC eE=> ?_)
        generalize wr.drew=w21 at bz HK HB pE pz an⊢
        refine ag 0 (some 18) 17 1 aC ?_
        refine ag 1 (some 19) 17 3 aC ?_
        refine ag 2 (some 20) 17 7 aC ?_
        refine ag 3 (some 21) 17 15 aC ?_
        refine ag 4 (some 22) 17 31 aC ?_
        refine ag 5 (some 23) 17 63 aC ?_
        refine ag 6 (some 24) 17 127 aC ?_
        refine ag 7 (some 25) 17 255 aC ?_
        refine ag 9 (some 27) 17 767 aC ?_
        refine ag 10 (some 28) 17 1791 aC ?_
        refine ag 11 (some 29) 17 3839 aC ?_
        refine ag 12 (some 30) 17 7935 aC ?_
        refine cl 8 (some 26) 17 8191 aC eE an ?_ (hy:=by rintro w' ⟨s0,s1⟩;go_simp;with_reducible rfl)
        refine cl 13 (some 31) 17 16383 aC eE an ?_ (hy:=by rintro w' ⟨s0,s1⟩;go_simp;with_reducible rfl)
        refine gv 14 (some 32) 17 32767 aC (fun K hK=> ?_)
        refine n7 Tryz.func107 (by kernel_rfl) rfl #[.string (aV ByteArray.empty eN ga),.string (aV ByteArray.empty eN (lU))] (by rfl) rfl rfl rfl (by (try simp only [List.map_toArray,List.map_cons,List.map_nil]);first|done|(simp only [tQ];rfl)|rfl|(simp only [List.length_drop,List.length_take];rfl)) ?_
        with_reducible refine (bZ.calls (aV ByteArray.empty eN ga) (aV ByteArray.empty eN (lU)) En _ Kl.out).mono ?_
        rintro e w' ⟨rfl,⟨nd,rfl⟩⟩
        refine ⟨_,rfl,?_⟩
        refine hK.out _ _ ⟨an.1,an.2⟩ (fun an=> ?_)
        clear hK K
        refine dF (a':= ?_) ?_ ?_
        rotate_left
        ·show Act.put _ (some 32) _=_
         simp only [Act.put,List.setIfInBounds_toArray,List.set_cons_zero,List.set_cons_succ,bX,cL]
         rfl
        refine ag 15 (some 33) 17 65535 aC ?_
        refine ag 16 (some 34) 17 131071 aC ?_
        refine fm (cW aC.out (by kernel_rfl)) ?_
        try go_wp2
        (first|go_roundg k2|((try rw [←add_plain wh (ga:Int).toNat]);(try rw [←add_plain wh ((lU):Int).toNat]);(try rw [←add_plain wh ((lU):Int).toNat]);(try rw [←add_plain wh (ga:Int).toNat]);go_roundg k2))
        case measure=>have:=fP.out;have:=jj.out;omega
        case rel=>exact ⟨(eN),(wrap64 (cO+1)),er,H',⟨by have:=fP.out;have:=jj.out;omega⟩,⟨fy bz⟩,⟨kY HK⟩,⟨ai HB⟩⟩
      ·rw [if_neg c6] at H
       have jz:=H7 c6
       clear c6
       have H':=ak H
       clear H
       try go_wp2
       replace bz:=ak (Kd.cy bz.out)
       replace HK:=ak (Kept.drew HK.out)
       replace HB:=ak (cJ HB.out)
       refine ef (n:=17) (S:=fun w'=>True) (ds:=[]) (bl 17 0) (by kernel_rfl) rfl rfl trivial (fun an=> ?_);refine bW af.Ao af.uh (fun aC eE=> ?_)
       generalize wr.drew=w23 at bz HK HB an⊢
       refine ag 0 (some 18) 17 1 aC ?_
       refine ag 1 (some 19) 17 3 aC ?_
       refine ag 2 (some 20) 17 7 aC ?_
       refine ag 3 (some 21) 17 15 aC ?_
       refine cG 4 (some 22) 17 31 aC ?_
       refine cG 5 (some 23) 17 63 aC ?_
       refine cG 6 (some 24) 17 127 aC ?_
       refine cG 7 (some 25) 17 255 aC ?_
       refine cG 8 (some 26) 17 511 aC ?_
       refine cG 9 (some 27) 17 1023 aC ?_
       refine cG 10 (some 28) 17 2047 aC ?_
       refine cG 11 (some 29) 17 4095 aC ?_
       refine cG 12 (some 30) 17 8191 aC ?_
       refine cG 13 (some 31) 17 16383 aC ?_
       refine cG 14 (some 32) 17 32767 aC ?_
       refine cG 15 (some 33) 17 65535 aC ?_
       refine ag 16 (some 34) 17 131071 aC ?_
       refine fm (cW aC.out (by kernel_rfl)) ?_
       try go_wp2
       go_roundg k2
       case measure=>have:=fP.out;have:=jj.out;omega
       case rel=>exact ⟨(eN),(wrap64 (cO+1)),er,H',⟨by have:=fP.out;have:=jj.out;omega⟩,⟨fy bz⟩,⟨kY HK⟩,⟨ai HB⟩⟩
   ·rw [if_neg c5] at H
    have jg:=decide_eq_false c5
    clear c5
    obtain rfl:=Option.some.inj H
    go_wp2
    first|go_end0|((try simp only [Exit.inBlock,Exit.then]);refine bodyPost_ret (results_none rfl _ _ _) rfl ?_)
    exact ⟨jT,by (with_reducible repeat (first|apply Kd.cu|apply Kd.ct|apply Kd.cy));exact bz.out,ai HB,kY HK⟩
def aj.l0:Nat→List ByteArray→Int→Int→Int→Int→Option (List ByteArray)
  |0,_,_,_,_,_=>none
  |k+1,x0,x1,x2,x3,iz=>if iz<x3 then (if 0≤(wrap64 (x2+iz)) then (if (wrap64 (x2+iz))<(x0.length:Int) then (if 0≤(wrap64 (x1+iz)) then (if (wrap64 (x1+iz))<(x0.length:Int) then (aj.l0 k ((x0.set ((wrap64 (x1+iz)):Int).toNat (aV ByteArray.empty x0 (wrap64 (x2+iz)))).set ((wrap64 (x2+iz)):Int).toNat (aV ByteArray.empty x0 (wrap64 (x1+iz)))) x1 x2 x3 (wrap64 (iz+1))) else (none)) else (none)) else (none)) else (none)) else (some x0)
def aj.f (k:Nat) (l0:List ByteArray) (a1:Int) (a2:Int) (a3:Int):Option (List ByteArray):=aj.l0 k l0 a1 a2 a3 0
def aj.T3:Bool×List (List Nat×List Nat):=(true,[([],[]),([],[]),([],[]),([1,2],[1,2]),([],[]),([],[]),([],[]),([5,6],[5,6]),([],[]),([],[]),([],[]),([9,10],[9,10]),([8,11],[8,11]),([12],[12]),([],[]),([],[]),([],[]),([15,16],[15,16]),([14,17],[14,17]),([18],[18]),([0,3,0,1,2,3,8,9,10,11,12,13,19],[0,3]),([20,13,0,1,2,3,8,9,10,11,12,13,19],[13,20]),([4,7,0,1,2,3,4,5,6,7,8,9,10,11,12,13,14,15,16,17,18,19,20,21],[4,7]),([22,19,21,0,1,2,3,4,5,6,7,8,9,10,11,12,13,14,15,16,17,18,19,20,21],[19,22])])
def aj.B3:List Nat:=[0,0,0,6,0,0,0,96,0,0,0,1536,3840,7936,0,0,0,98304,245760,507904,1048335,2096911,4194303,8388607]
theorem aj.KK:gq .any (opsOf Tryz.f167 3)=aj.T3:=by kernel_rfl
theorem aj.DV:eF aj.T3.2 aj.B3=true:=by kernel_rfl
theorem aj.calls (k:Nat) (iM:Nat→Prop) (ej:Value) (l0:List ByteArray) (a1:Int) (a2:Int) (a3:Int) (r:List ByteArray) (w0 w:World) (hB:Below w0.heap.size w0 w) (uE:Kd.R Kd.string 9 w w0.heap.size iM ej l0) (h:aj.f k l0 a1 a2 a3=some r):
  Calls Tryz.prog 167 #[ej,.int .i64 a1,.int .i64 a2,.int .i64 a3,.func (.func 107) #[] #[]] w fun e w'=>e= .returned (.tuple #[])∧Kd.R Kd.string 9 w' w0.heap.size (fun k_=>(iM k_∨w.heap.size≤k_)) ej r∧Below w0.heap.size w0 w'∧Kept w w' (fun k_=>iM k_):=by
 have Cm:=ak (show Kd.R Kd.string 9 w w0.heap.size (fun k_=>(iM k_∨w.heap.size≤k_)) ej l0 from Kd.bF uE (fun k_ hk=>(.inl hk)))
 have HK:=ak (Kept.refl w (fun k_=>iM k_))
 have Iw:=ak hB.size
 have HB:=ak hB;clear hB
 have H:(aj.l0 k l0 a1 a2 a3 0)=some r:=h
 clear h
 have H':=ak H
 clear H
 go_enter Tryz.func167,Tryz.ntmps167
 go_wp2
 go_loopg [10] k (fun kq v10 w'=>∃(gD:List ByteArray) (fu:Int),v10= .int .i64 fu∧Aside0 (aj.l0 kq gD a1 a2 a3 fu=some r)∧Aside0 (kq≤k)∧Aside0 (Kd.R Kd.string 9 w' w0.heap.size (fun k_=>(iM k_∨w.heap.size≤k_)) ej gD)∧Aside0 (Kept w w' (fun k_=>iM k_))∧Aside0 (Below w0.heap.size w0 w'))
 case atStart=>exact ⟨(l0),(0),er,H',⟨Nat.le_refl _⟩,⟨fy Cm⟩,⟨kY HK⟩,⟨ai HB⟩⟩
 case round=>
  clear H'
  obtain ⟨gD,fu,rfl,HA,fP,bz,HK,HB⟩:=hrel
  cases gk with
  |zero=>exact absurd HA.out (by simp [aj.l0])
  |succ k1=>
   have H:=HA.out;clear HA
   simp only [aj.l0] at H
   by_cases c6:fu<a3
   ·rw [if_pos c6] at H
    have jz:=decide_eq_true c6
    clear c6
    obtain ⟨nq,uZ⟩:∃j_:Int,(wrap64 (a2+fu))=j_:=⟨_,rfl⟩
    replace H:(if 0≤(nq) then (if (nq)<(gD.length:Int) then (if 0≤(wrap64 (a1+fu)) then (if (wrap64 (a1+fu))<(gD.length:Int) then (aj.l0 k1 ((gD.set ((wrap64 (a1+fu)):Int).toNat (aV ByteArray.empty gD (nq))).set ((nq):Int).toNat (aV ByteArray.empty gD (wrap64 (a1+fu)))) a1 a2 a3 (wrap64 (fu+1))) else (none)) else (none)) else (none)) else (none))=some r:=by first|(rw [uZ] at H;exact H)|(simp only [uZ] at H⊢;exact H)
    have Q8:(IntKind.i64.wrap (a2+fu))=nq:=(bX _).trans uZ
    replace H:=cZ H;obtain ⟨c8,H⟩:=H;have wm:=decide_eq_true c8;clear c8;replace H:=cZ H;obtain ⟨c9,H⟩:=H;have lQ:=decide_eq_true c9;clear c9
    obtain ⟨qu,Ml⟩:∃j_:Int,(wrap64 (a1+fu))=j_:=⟨_,rfl⟩
    replace H:(if 0≤(qu) then (if (qu)<(gD.length:Int) then (aj.l0 k1 ((gD.set ((qu):Int).toNat (aV ByteArray.empty gD (nq))).set ((nq):Int).toNat (aV ByteArray.empty gD (qu))) a1 a2 a3 (wrap64 (fu+1))) else (none)) else (none))=some r:=by first|(rw [Ml] at H;exact H)|(simp only [Ml] at H⊢;exact H)
    have ady:(IntKind.i64.wrap (a1+fu))=qu:=(bX _).trans Ml
    replace H:=cZ H;obtain ⟨lp,H⟩:=H;have lW:=decide_eq_true lp;clear lp;replace H:=cZ H;obtain ⟨nL,H⟩:=H;have pU:=decide_eq_true nL;clear nL
    obtain ⟨Wv,eZ⟩:∃y_:List ByteArray,y_=(gD.set ((qu):Int).toNat (aV ByteArray.empty gD (nq))):=⟨_,rfl⟩
    replace H:(aj.l0 k1 (Wv.set ((nq):Int).toNat (aV ByteArray.empty gD (qu))) a1 a2 a3 (wrap64 (fu+1)))=some r:=yH
    have aay:=ak eZ;clear eZ
    obtain ⟨Wu,eZ⟩:∃y_:List ByteArray,y_=(Wv.set ((nq):Int).toNat (aV ByteArray.empty gD (qu))):=⟨_,rfl⟩
    replace H:(aj.l0 k1 Wu a1 a2 a3 (wrap64 (fu+1)))=some r:=yH
    have aax:=ak eZ;clear eZ
    have H':=ak H
    clear H
    try go_wp2
    replace bz:=ak (Kd.cy bz.out)
    replace HK:=ak (Kept.drew HK.out)
    replace HB:=ak (cJ HB.out)
    obtain ⟨Qy,ML,wj⟩:=Kd.dc bz.out
    (first|subst wj|(injection wj with rU zj rT;have zi:=rU.symm;have zh:=rT.symm;clear rU zj rT;subst zi;subst zh))
    obtain ⟨ahb,ag0,ZR,aer,Bc⟩:=m5 (Kd.bh (Kd.bL bz.out).2.2 (nq))
    cases aer
    obtain ⟨aha,agZ,ZQ,aeq,Bb⟩:=m5 (Kd.bh (Kd.bL bz.out).2.2 (qu))
    obtain rfl:ZR=ZQ:=(by injection aeq)
    have p13:0≤((qu):Int):=da
    have q13:((qu):Int)<((gD.length:Int):Int):=da
    obtain ⟨JP,aeM,PW,YF,ad6,ahH,abn⟩:=Kd.yK bz.out (by omega)
    (first|cases PW|(injection PW with wL PX PY;(first|subst wL|(injection wL with wL;subst wL));subst PY;clear PX))
    have abt:=Aside0.mk YF;have afa:=ak abn;clear YF ad6 abn
    have NM:=ak (show (iM JP∨w.heap.size≤JP) from (bz.out.1 _ rfl))
    (first|simp only [add_plain] at Bc|skip)
    (first|simp only [add_plain] at Bb|skip)
    obtain ⟨TB,Uj⟩:=Kd.m6 (⟨#[]⟩:ByteArray) bz.out ((qu):Int) p13 q13
    replace p13:=eq_true p13;replace q13:=eq_true q13
    have Gd:=Kd.pN bz.out ((qu):Int) (aV ByteArray.empty gD (nq))
    rw [←aay.out] at Gd
    have VE:=ak Gd;clear Gd
    have Jm:0≤((nq):Int):=da
    have Jl:((nq):Int)<((gD.length:Int):Int):=da
    obtain ⟨Fj,FB⟩:=Kd.m6 (⟨#[]⟩:ByteArray) VE.out ((nq):Int) Jm Jl
    replace Jm:=eq_true Jm;replace Jl:=eq_true Jl
    have VL:=Kd.pN VE.out ((nq):Int) (aV ByteArray.empty gD (qu))
    rw [←aax.out] at VL
    have aa1:=ak VL;clear VL
    refine ef (n:=24) (S:=fun w'=>w'.cell? ⟨JP,((nq)).toNat,none⟩=some (.string (aV ByteArray.empty gD (nq)))∧w'.cell? ⟨JP,((qu)).toNat,none⟩=some (.string (aV ByteArray.empty gD (qu)))) (ds:=[21,23]) (bl 24 0) (by kernel_rfl) rfl rfl ⟨Bc,Bb⟩ (fun an=> ?_);refine bW aj.KK aj.DV (fun aC eE=> ?_)
    generalize wr.drew=QF at bz HK HB afa VE aa1 Uj FB TB Fj Bc Bb an⊢
    refine ag 0 (some 16) 24 1 aC ?_
    refine ag 1 (some 17) 24 3 aC ?_
    refine ag 2 (some 18) 24 7 aC ?_
    refine ag 3 (some 19) 24 15 aC ?_
    refine ag 4 (some 20) 24 31 aC ?_
    refine ag 5 (some 21) 24 63 aC ?_
    refine ag 6 (some 22) 24 127 aC ?_
    refine ag 7 (some 23) 24 255 aC ?_
    refine ag 8 (some 24) 24 511 aC ?_
    refine ag 9 (some 25) 24 1023 aC ?_
    refine ag 10 (some 26) 24 2047 aC ?_
    refine ag 11 (some 27) 24 4095 aC ?_
    refine ag 12 (some 28) 24 8191 aC ?_
    refine ag 14 (some 30) 24 24575 aC ?_
    refine ag 15 (some 31) 24 57343 aC ?_
    refine ag 16 (some 32) 24 122879 aC ?_
    refine ag 17 (some 33) 24 253951 aC ?_
    refine ag 18 (some 34) 24 516095 aC ?_
    refine cl 13 (some 29) 24 524287 aC eE an ?_ (hy:=by rintro w' ⟨s0,s1⟩;go_simp;with_reducible rfl)
    refine cl 19 (some 35) 24 1048575 aC eE an ?_ (hy:=by rintro w' ⟨s0,s1⟩;go_simp;with_reducible rfl)
    refine ag 20 (some 36) 24 2097151 aC ?_
    refine mm (i:=21) (N:=none) (bl 24 4194303) rfl rfl (jH aC.out (by kernel_rfl)) (by decide) (fun K hK=> ?_)
    refine kW (w1:= ?_) (by rfl) rfl ?_ ?_
    rotate_left
    ·go_simp
     rfl
    refine hK.out _ _ ?_
    clear hK K
    refine ag 22 (some 37) 24 8388607 aC ?_
    refine mm (i:=23) (N:=none) (bl 24 16777215) rfl rfl (jH aC.out (by kernel_rfl)) (by decide) (fun K hK=> ?_)
    refine kW (w1:= ?_) (by rfl) rfl ?_ ?_
    rotate_left
    ·go_simp
     rfl
    refine hK.out _ _ ?_
    clear hK K
    refine fm (cW aC.out (by kernel_rfl)) ?_
    try go_wp2
    (first|go_roundg k1|((try rw [←add_plain JP ((nq):Int).toNat]);(try rw [←add_plain JP ((qu):Int).toNat]);go_roundg k1))
    case measure=>have:=fP.out;omega
    case rel=>exact ⟨(Wu),(wrap64 (fu+1)),er,H',⟨by have:=fP.out;omega⟩,⟨fy aa1⟩,⟨by repeat (first|(with_reducible first|exact HK.out|apply Kept.alloc|apply Kept.drewN|apply Kept.drew|refine Kept.setCell ?_ NM.out _|refine Kept.setCell ?_ NM.out _)|exact HK.out)⟩,⟨by repeat (first|(with_reducible first|exact HB.out|apply dA|apply dS|apply cJ|refine dX ?_ abt.out|refine dX ?_ abt.out)|exact HB.out)⟩⟩
   ·rw [if_neg c6] at H
    have jz:=decide_eq_false c6
    clear c6
    obtain rfl:=Option.some.inj H
    go_wp2
    first|go_end0|((try simp only [Exit.inBlock,Exit.then]);refine bodyPost_ret (results_none rfl _ _ _) rfl ?_)
    exact ⟨jT,by (with_reducible repeat (first|apply Kd.cu|apply Kd.ct|apply Kd.cy));exact bz.out,ai HB,kY HK⟩
def aY.l0:Nat→List ByteArray→Int→Int→Int→Option (List ByteArray)
  |0,_,_,_,_=>none
  |k+1,x0,x2,iz,uM=>if iz=uM then ((aj.f k x0 (wrap64 (x2-iz)) x2 iz).bind fun Sy=>(some Sy)) else (if iz>uM then ((aj.f k x0 (wrap64 (x2-iz)) x2 uM).bind fun Ol=>(aY.l0 k Ol x2 (wrap64 (iz-uM)) uM)) else ((aj.f k x0 (wrap64 (x2-iz)) (wrap64 ((wrap64 (x2+uM))-iz)) iz).bind fun Ok=>(aY.l0 k Ok x2 iz (wrap64 (uM-iz)))))
def aY.f (k:Nat) (l0:List ByteArray) (a1:Int) (a2:Int) (a3:Int):Option (List ByteArray):=aY.l0 k l0 a2 (wrap64 (a2-a1)) (wrap64 (a3-a2))
theorem aY.calls (k:Nat) (iM:Nat→Prop) (ej:Value) (l0:List ByteArray) (a1:Int) (a2:Int) (a3:Int) (r:List ByteArray) (w0 w:World) (hB:Below w0.heap.size w0 w) (uE:Kd.R Kd.string 9 w w0.heap.size iM ej l0) (h:aY.f k l0 a1 a2 a3=some r):
  Calls Tryz.prog 153 #[ej,.int .i64 a1,.int .i64 a2,.int .i64 a3,.func (.func 107) #[] #[]] w fun e w'=>e= .returned (.tuple #[])∧Kd.R Kd.string 9 w' w0.heap.size (fun k_=>(iM k_∨w.heap.size≤k_)) ej r∧Below w0.heap.size w0 w'∧Kept w w' (fun k_=>iM k_):=by
 have Cm:=ak (show Kd.R Kd.string 9 w w0.heap.size (fun k_=>(iM k_∨w.heap.size≤k_)) ej l0 from Kd.bF uE (fun k_ hk=>(.inl hk)))
 have HK:=ak (Kept.refl w (fun k_=>iM k_))
 have Iw:=ak hB.size
 have HB:=ak hB;clear hB
 have H:(aY.l0 k l0 a2 (wrap64 (a2-a1)) (wrap64 (a3-a2)))=some r:=h
 clear h
 have H':=ak H
 clear H
 go_enter Tryz.func153,Tryz.ntmps153
 go_wp2
 go_loopg [10,11] k (fun kq v10 v11 w'=>∃(gD:List ByteArray) (fu:Int) (fL:Int),v10= .int .i64 fu∧v11= .int .i64 fL∧Aside0 (aY.l0 kq gD a2 fu fL=some r)∧Aside0 (kq≤k)∧Aside0 (Kd.R Kd.string 9 w' w0.heap.size (fun k_=>(iM k_∨w.heap.size≤k_)) ej gD)∧Aside0 (Kept w w' (fun k_=>iM k_))∧Aside0 (Below w0.heap.size w0 w'))
 case atStart=>exact ⟨(l0),(wrap64 (a2-a1)),(wrap64 (a3-a2)),er,er,H',⟨Nat.le_refl _⟩,⟨fy Cm⟩,⟨kY HK⟩,⟨ai HB⟩⟩
 case round=>
  clear H'
  obtain ⟨gD,fu,fL,rfl,rfl,HA,fP,bz,HK,HB⟩:=hrel
  cases gk with
  |zero=>exact absurd HA.out (by simp [aY.l0])
  |succ k1=>
   have H:=HA.out;clear HA
   simp only [aY.l0] at H
   by_cases c6:fu=fL
   ·rw [if_pos c6] at H
    have jz:=kI c6
    have qz:=kH c6
    clear c6;replace H:=bS H;obtain ⟨Sy,A7,H⟩:=H
    obtain rfl:=Option.some.inj H
    obtain ⟨Ao8,co8,eo8⟩:=Kd.dc bz.out
    subst eo8
    go_wp2_with (first|(go_at_call 167;(with_reducible refine (aj.calls k1 (fun k_=>some k_=(.slice Ao8 gD.length co8:Value).ownBlock) (.slice Ao8 gD.length co8) gD (wrap64 (a2-fu)) a2 fu Sy w0 _ ?side1 ?side2 A7.out).mono ?_);(case side1=>exact ai HB);(case side2=>exact Kd.iu rfl bz.out);rintro e w9 ⟨rfl,nK,hb,n5⟩;replace HK:=ak (Kept.mj (S:=(fun k_=>iM k_)) (kY HK) n5 (fun k_ rE=>(fun e_=>(bz.out.1 k_ e_.symm)) rE));replace bz:=ak (Kd.kT rfl nK (fun k_ e_=>bz.out.1 k_ e_));replace HB:=ak (hb);(try clear hb);(try clear n5);(try clear nK)))
    first|go_end0|((try simp only [Exit.inBlock,Exit.then]);refine bodyPost_ret (results_none rfl _ _ _) rfl ?_)
    exact ⟨jT,by (with_reducible repeat (first|apply Kd.cu|apply Kd.ct|apply Kd.cy));exact bz.out,ai HB,kY HK⟩
   ·rw [if_neg c6] at H
    have jz:=jV c6
    have qz:=jU c6
    by_cases gu:fu>fL
    ·rw [if_pos gu] at H
     have kC:=H6 gu
     clear gu;replace H:=bS H;obtain ⟨Ol,NX,H⟩:=H
     have H':=ak H
     clear H
     obtain ⟨abC,Y9,aei⟩:=Kd.dc bz.out
     subst aei
     go_wp2_with (first|(go_at_call 167;(with_reducible refine (aj.calls k1 (fun k_=>some k_=(.slice abC gD.length Y9:Value).ownBlock) (.slice abC gD.length Y9) gD (wrap64 (a2-fu)) a2 fL Ol w0 _ ?side1 ?side2 NX.out).mono ?_);(case side1=>exact ai HB);(case side2=>exact Kd.iu rfl bz.out);rintro e w13 ⟨rfl,nK,hb,n5⟩;replace HK:=ak (Kept.mj (S:=(fun k_=>iM k_)) (kY HK) n5 (fun k_ rE=>(fun e_=>(bz.out.1 k_ e_.symm)) rE));replace bz:=ak (Kd.kT rfl nK (fun k_ e_=>bz.out.1 k_ e_));replace HB:=ak (hb);(try clear hb);(try clear n5);(try clear nK)))
     go_roundg k1
     case measure=>have:=fP.out;omega
     case rel=>exact ⟨(Ol),(wrap64 (fu-fL)),(fL),er,er,H',⟨by have:=fP.out;omega⟩,⟨fy bz⟩,⟨kY HK⟩,⟨ai HB⟩⟩
    ·rw [if_neg gu] at H
     have kC:=H7 gu
     clear gu;replace H:=bS H;obtain ⟨Ok,vQ,H⟩:=H
     have H':=ak H
     clear H
     obtain ⟨abB,Y8,aeh⟩:=Kd.dc bz.out
     subst aeh
     go_wp2_with (first|(go_at_call 167;(with_reducible refine (aj.calls k1 (fun k_=>some k_=(.slice abB gD.length Y8:Value).ownBlock) (.slice abB gD.length Y8) gD (wrap64 (a2-fu)) (wrap64 ((wrap64 (a2+fL))-fu)) fu Ok w0 _ ?side1 ?side2 vQ.out).mono ?_);(case side1=>exact ai HB);(case side2=>exact Kd.iu rfl bz.out);rintro e KE ⟨rfl,nK,hb,n5⟩;replace HK:=ak (Kept.mj (S:=(fun k_=>iM k_)) (kY HK) n5 (fun k_ rE=>(fun e_=>(bz.out.1 k_ e_.symm)) rE));replace bz:=ak (Kd.kT rfl nK (fun k_ e_=>bz.out.1 k_ e_));replace HB:=ak (hb);(try clear hb);(try clear n5);(try clear nK)))
     go_roundg k1
     case measure=>have:=fP.out;omega
     case rel=>exact ⟨(Ok),(fu),(wrap64 (fL-fu)),er,er,H',⟨by have:=fP.out;omega⟩,⟨fy bz⟩,⟨kY HK⟩,⟨ai HB⟩⟩
end Go.Proofs.YtihekdlcfohkkaaGreatDoor.QFnNet
