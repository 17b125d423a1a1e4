import Derived.Test.YtihekdlcfohkkaaGreatDoorProg
import Derived.Test.YtihekdlcfohkkaaGreatDoorSq
import Derived.Shelf.Spec.SlicesInsertGrow
namespace Go.Proofs.YtihekdlcfohkkaaGreatDoorW.PrintMore
open Go.RowKit Go.Shelf Go.Lib Go.Proofs.YtihekdlcfohkkaaGreatDoorW.PrintWords Go.Proofs.YtihekdlcfohkkaaGreatDoorW.PrintLast
set_option linter.unusedVariables false
set_option linter.unusedSimpArgs false
theorem Bb {w:World} {g n:Nat} {e:TypeId} {cur:Array Value} {cs:List Value} (hh:w.heap[g]? =some (.cells cur e (0,0))) (ht:cur.toList.take n=cs):∀j q,cs[j]? =some q→w.cell? ⟨g,0+j,none⟩=some q:=by
  intro j q hj
  rw [Nat.zero_add,iH hh,←Array.getElem?_toList]
  rw [←ht,List.getElem?_take] at hj
  split at hj
  · exact hj
  · cases hj
theorem Er {w:World} {g:Nat} {e:TypeId} {cur:Array Value} (hh:w.heap[g]? =some (.cells cur e (0,0))) (j:Nat) (hj:j<cur.size):(w.cell? ⟨g,j,none⟩).isSome=true:=by
  rw [iH hh,Array.getElem?_eq_getElem hj]
  rfl
theorem Ba {w:World} {g:Nat} {e:TypeId} {cur:Array Value} (hh:w.heap[g]? =some (.cells cur e (0,0))):w.shape? g=some (e,cur.size):=by simp [World.shape?,hh]
theorem Bh {w:World} {base n cap:Nat} {e:TypeId} (hb:base≤w.heap.size) {A:Array Value} {cs:List Value} (hl:cs.length=n) (hs:A.size=cap) (h1:n≤cap) (h2:cap≤maxLen) (ht:A.toList.take n=cs):
    (w.drew.alloc (.cells A e (0,0))).ownsRow base e 1 (.slice (some ⟨w.heap.size,0,none⟩) n cap) n cs:=
  ⟨by rw [Nat.mul_one];exact hl,Or.inr ⟨w.heap.size,cap,A,rfl,hb,heap_alloc_new w.drew _,h1,h2,by rw [Nat.mul_one];exact hs,by rw [Nat.mul_one];exact ht⟩⟩
theorem below_setCells {w0:World} {g:Nat} :∀(vs:List Value) (o:Nat) {w:World},Below w0.heap.size w0 w→w0.heap.size≤g→Below w0.heap.size w0 (w.setCells g o vs)
  |[],_,_,h,_=>h
  | v :: r, o, w, h, hg => by
    rw [World.setCells]
    exact below_setCells r (o+1) (ew h hg) hg
theorem NG (L cs:List Value) (q:Value) (i n:Nat) (hl:cs.length=n) (ht:L.take n=cs) (hi:i<n) (hL:n+1≤L.length):
    ((((L.take (i+1)++cs.drop i++L.drop (i+1+(cs.drop i).length)).take i++[q]++(L.take (i+1)++cs.drop i++L.drop (i+1+(cs.drop i).length)).drop (i+[q].length))).take (n+1))=cs.take i++[q]++cs.drop i:=by
  have h1:(L.take (i+1)).length=i+1:=by rw [List.length_take];omega
  have h2:(L.take (i+1)++cs.drop i++L.drop (i+1+(cs.drop i).length)).take i=cs.take i:=by
    rw [List.append_assoc,List.take_append_of_le_length (by omega),List.take_take,←ht,List.take_take]
    congr 1
    omega
  have h3:(L.take (i+1)++cs.drop i++L.drop (i+1+(cs.drop i).length)).drop (i+[q].length)=cs.drop i++L.drop (i+1+(cs.drop i).length):=by
    rw [List.append_assoc,List.drop_left' (by simp [h1])]
  rw [h2,h3,←List.append_assoc]
  rw [List.take_left' (by simp [hl];omega)]
theorem K8 (L cs:List Value) (q:Value) (i n:Nat) (hl:cs.length=n) (ht:L.take i=cs.take i) (hi:i<n):
    (((L.take i++[q]++L.drop (i+[q].length)).take (i+1)++cs.drop i++(L.take i++[q]++L.drop (i+[q].length)).drop (i+1+(cs.drop i).length)).take (n+1))=cs.take i++[q]++cs.drop i:=by
  have h0:(cs.take i).length=i:=by rw [List.length_take];omega
  rw [ht]
  have h2:(cs.take i++[q]++L.drop (i+[q].length)).take (i+1)=cs.take i++[q]:=List.take_left' (by simp [hl];omega)
  rw [h2]
  exact List.take_left' (by simp [hl];omega)
def oT:Go.Shelf.Ren:=⟨fun|17=>174|22=>134|29=>151|30=>152|36=>166|n=>n,fun|0=>0|3=>3|4=>4|9=>9|24=>62|n=>n,fun n=>n⟩
theorem GU:Go.Proofs.Lays2.n22 Tryz.prog oT:= { mixed:=by kernel_rfl,f17:=Tryz.func174.trans (congrArg some (by kernel_rfl)),f22:=Tryz.func134.trans (congrArg some (by kernel_rfl)),f29:=Tryz.func151.trans (congrArg some (by kernel_rfl)),f30:=Tryz.func152.trans (congrArg some (by kernel_rfl)),f36:=Tryz.func166.trans (congrArg some (by kernel_rfl)),t0:=Tryz.underlying0,a0:=Tryz.isAgg0,z0:=Tryz.sizeOf0,v0:=Tryz.zeroValue0,t3:=Tryz.underlying3,a3:=Tryz.isAgg3,z3:=Tryz.sizeOf3,v3:=Tryz.zeroValue3,t4:=Tryz.underlying4,a4:=Tryz.isAgg4,z4:=Tryz.sizeOf4,v4:=Tryz.zeroValue4,t9:=Tryz.underlying9,a9:=Tryz.isAgg9,z9:=Tryz.sizeOf9,v9:=Tryz.zeroValue9,t24:=Tryz.underlying62,a24:=Tryz.isAgg62,z24:=Tryz.sizeOf62,v24:=Tryz.zeroValue62,i9:=by kernel_rfl}
section
variable {w0 w:World} {u:Value} {i:Nat}
theorem GU.calls {v:Value} {xs:List ByteArray} {x:ByteArray} (hB:Below w0.heap.size w0 w) (hv:Kd.R (Kd.string) 9 w w0.heap.size (fun _=>True) v xs) (hu:Kd.R (Kd.string) 9 w w0.heap.size (fun k=>some k≠v.ownBlock) u [x]) (hi:i≤xs.length) (hn:xs.length≤4194304):
    Calls Tryz.prog 134 #[v,.int .i64 (i:Int),u] w fun e w'=>∃v',e= .returned v'∧Kd.R (Kd.string) 9 w' w0.heap.size (fun _=>True) v' (xs.take i++x::xs.drop i)∧Below w0.heap.size w0 w':=by
  have hov:=Kd.iV hv
  obtain ⟨_,hou⟩:=Kd.iV hu
  rcases hou with ⟨_,h0⟩|⟨g2,OQ,aho,rfl,L9,hh2,hc2,hm2,D4,ht2⟩
  · simp at h0
  simp only [List.length_cons,List.length_nil,Nat.zero_add,Nat.one_mul,Nat.mul_one] at ht2 D4 hc2
  have hvl:([Value.string x]:List Value).length=1:=rfl
  have hvs:∀j (q:Value),([Value.string x]:List Value)[j]? =some q→w.cell? ⟨g2,0+j,none⟩=some q:=Bb hh2 ht2
  have h1v:∀q∈([Value.string x]:List Value),q.oneCell'=true:=fun q hq=>by rw [List.mem_singleton.1 hq];rfl
  have iP:∀k,v.ownBlock=some k→g2≠k:=fun k hk e=>hu.1 g2 rfl (by rw [hk,e])
  have ET:jg Value.string (xs.take i++x::xs.drop i)=(jg Value.string xs).take i++[Value.string x]++(jg Value.string xs).drop i:=by simp [jg]
  have hlen:(xs.take i++x::xs.drop i).length=xs.length+1:=by simp;omega
  have vk:(jg Value.string xs).length=xs.length:=qZ xs
  have h1c:∀q∈jg Value.string xs,q.oneCell'=true:=fun q hq=>by obtain ⟨y,_,rfl⟩:=List.mem_map.1 hq;rfl
  obtain ⟨_,hov⟩:=hov
  rcases hov with ⟨rfl,h0⟩|⟨g,cap,cur,rfl,hb,hh,hc,hm,hs,ht⟩
  · have e0:xs=[]:=List.eq_nil_of_length_eq_zero h0
    subst e0
    have ei:i=0:=by simpa using hi
    subst ei
    refine (Any2.slices_Insert_string_end_grow GU none 0 0 g2 0 1 OQ [] [Value.string x] w (by omega) (Nat.le_refl _) (by omega) (by omega) rfl rfl (fun _=>rfl) (fun a ha=>by cases ha) hvs h1v).mono ?_
    rintro e w' ⟨rfl,rfl⟩
    have er:oT.t 9=9:=rfl
    simp only [er]
    refine ⟨_,rfl,Kd.o8 (enc:=Value.string) ?_ (fun _ _=>trivial),dQ (iI hB) _⟩
    rw [ET,hlen]
    exact Bh hB.size (by simp [jg]) (by simp [Builtin.zeroCells,Value.cells];have:=grownCap_ge w 1 0 9;omega) (grownCap_ge w 1 0 9) (grownCap_le_maxLen w 1 0 9 (by unfold maxLen;omega)) (by simp [jg])
  simp only [Nat.mul_one] at hs ht
  have tF:∀j (q:Value),(jg Value.string xs)[j]? =some q→w.cell? ⟨g,0+j,none⟩=some q:=Bb hh ht
  have hgs:g2≠g:=iP g rfl
  by_cases hr:xs.length+1≤cap
  · by_cases ei:i=xs.length
    · subst ei
      refine (Any2.slices_Insert_string_end_room GU g 0 xs.length cap g2 0 1 OQ [Value.string x] w (by omega) hr (by unfold maxLen at hm;omega) rfl (fun j hj=>by rw [Nat.zero_add];exact Er hh _ (by omega)) (fun j _=>eN hh _) hvs h1v).mono ?_
      rintro e w' ⟨rfl,rfl⟩
      have er:oT.t 9=9:=rfl
      (try simp only [er])
      obtain ⟨vQ,a1,a2,a3⟩:=jO [Value.string x] (0+xs.length) w cur hh (by simp;omega)
      refine ⟨_,rfl,Kd.o8 (enc:=Value.string) ⟨by rw [ET,hlen];simp [vk],Or.inr ⟨g,cap,vQ,by rw [hlen],hb,a1,by rw [hlen];exact hr,hm,by rw [a2,hs,Nat.mul_one],?_⟩⟩ (fun _ _=>trivial),below_setCells _ _ hB hb⟩
      have q1:(jg Value.string xs).take xs.length=jg Value.string xs:=List.take_of_length_le (by rw [vk];omega)
      have q2:(jg Value.string xs).drop xs.length=[]:=List.drop_of_length_le (by rw [vk];omega)
      rw [a3,ET,hlen,Nat.mul_one,Nat.zero_add,q1,q2,List.append_nil,ht]
      exact List.take_left' (by simp [vk])
    · refine (Any2.slices_Insert_string_shift GU g 0 xs.length cap i g2 0 1 OQ (jg Value.string xs) [Value.string x] w (by omega) (by omega) hr (by unfold maxLen at hm;omega) hgs vk rfl tF (fun j hj=>by rw [Nat.zero_add];exact Er hh _ (by omega)) (fun j _=>eN hh _) hvs h1c h1v 9 9 aho.size cur.size (Ba hh2) (Ba hh) (by omega) (eN hh2 _) (eN hh2 _)).mono ?_
      rintro e w' ⟨rfl,rfl⟩
      have er:oT.t 9=9:=rfl
      (try simp only [er])
      have Zq:((jg Value.string xs).drop i).length=xs.length-i:=by rw [List.length_drop,vk]
      obtain ⟨X5,a1,a2,a3⟩:=jO ((jg Value.string xs).drop i) (0+(i+1)) w.drew cur hh (by rw [Zq];omega)
      obtain ⟨vQ,b1,b2,b3⟩:=jO [Value.string x] (0+i) _ X5 a1 (by simp;omega)
      refine ⟨_,rfl,Kd.o8 (enc:=Value.string) ⟨by rw [ET,hlen];simp [vk];omega,Or.inr ⟨g,cap,vQ,by rw [hlen],hb,b1,by rw [hlen];exact hr,hm,by rw [b2,a2,hs,Nat.mul_one],?_⟩⟩ (fun _ _=>trivial),below_setCells _ _ (below_setCells _ _ (iI hB) hb) hb⟩
      rw [b3,a3,ET,hlen,Nat.mul_one,Nat.zero_add,Nat.zero_add]
      exact NG cur.toList (jg Value.string xs) (Value.string x) i xs.length vk ht (by omega) (by have:= @Array.length_toList _ cur;omega)
  · by_cases ei:i=xs.length
    · subst ei
      refine (Any2.slices_Insert_string_end_grow GU (some ⟨g,0,none⟩) xs.length cap g2 0 1 OQ (jg Value.string xs) [Value.string x] w (by omega) hc (by omega) (by omega) vk rfl (fun h=>by cases h) (fun a ha j q hq=>by cases ha;rw [Addr.add_lit];exact tF j q hq) hvs h1v).mono ?_
      rintro e w' ⟨rfl,rfl⟩
      have er:oT.t 9=9:=rfl
      (try simp only [er])
      refine ⟨_,rfl,Kd.o8 (enc:=Value.string) ?_ (fun _ _=>trivial),dQ (iI hB) _⟩
      rw [ET,hlen,List.take_of_length_le (by rw [vk];omega),List.drop_of_length_le (l:=jg Value.string xs) (by rw [vk];omega),List.append_nil]
      exact Bh hB.size (by simp [vk]) (by simp [Builtin.zeroCells,Value.cells,vk];have:=grownCap_ge w (xs.length+1) cap 9;omega) (grownCap_ge w (xs.length+1) cap 9) (grownCap_le_maxLen w (xs.length+1) cap 9 (by unfold maxLen;omega)) (by rw [Array.toList_append];exact List.take_left' (by simp [vk]))
    · refine (Any2.slices_Insert_string_grow GU g 0 xs.length cap i g2 0 1 OQ (jg Value.string xs) [Value.string x] w (by omega) (by omega) hc (by omega) (by omega) vk rfl tF hvs h1c h1v).mono ?_
      rintro e w' ⟨rfl,rfl⟩
      have er:oT.t 9=9:=rfl
      (try simp only [er])
      have Zq:((jg Value.string xs).drop i).length=xs.length-i:=by rw [List.length_drop,vk]
      have hG:=grownCap_ge w (xs.length+1) cap 9
      have hGm:=grownCap_le_maxLen w (xs.length+1) cap 9 (by unfold maxLen;omega)
      obtain ⟨ZF,Xl⟩:∃ZF:Array Value,ZF=((((jg Value.string xs).take i).toArray++Builtin.zeroCells (Value.string ⟨#[]⟩).cells (xs.length+1-i))++Builtin.zeroCells (Value.string ⟨#[]⟩).cells (grownCap w (xs.length+1) cap 9-(xs.length+1))):=⟨_,rfl⟩
      have hA:ZF.size=grownCap w (xs.length+1) cap 9:=by
        rw [Xl]
        simp [Builtin.zeroCells,Value.cells,vk]
        omega
      rw [←Xl]
      obtain ⟨X5,a1,a2,a3⟩:=jO [Value.string x] i ((w.alloc (.cells ZF 9 (0,0))).drew) ZF (heap_alloc_new w _) (by rw [hA];simp;omega)
      obtain ⟨vQ,b1,b2,b3⟩:=jO ((jg Value.string xs).drop i) (i+1) (((w.alloc (.cells ZF 9 (0,0))).drew.setCells w.heap.size i [Value.string x]).drew) X5 a1 (by rw [Zq,a2,hA];omega)
      refine ⟨_,rfl,Kd.o8 (enc:=Value.string) ⟨by rw [ET,hlen];simp [vk];omega,Or.inr ⟨w.heap.size,_,vQ,by rw [hlen],hB.size,b1,by rw [hlen];exact hG,hGm,by rw [b2,a2,hA,Nat.mul_one],?_⟩⟩ (fun _ _=>trivial),below_setCells _ _ (iI (below_setCells _ _ (iI (dQ hB _)) hB.size)) hB.size⟩
      rw [b3,a3,ET,hlen,Nat.mul_one]
      exact K8 _ (jg Value.string xs) (Value.string x) i xs.length vk (by rw [Xl,Array.toList_append,Array.toList_append,List.append_assoc];exact List.take_left' (by simp [vk];omega)) (by omega)
end
end Go.Proofs.YtihekdlcfohkkaaGreatDoorW.PrintMore
