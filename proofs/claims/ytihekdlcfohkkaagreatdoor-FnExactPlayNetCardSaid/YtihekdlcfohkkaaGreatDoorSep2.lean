import Derived.Test.YtihekdlcfohkkaaGreatDoorSep
/-! more words on what lies apart -/
namespace Go.Proofs.YtihekdlcfohkkaaGreatDoorW.PrintMore
open Go.RowKit Go.Proofs.YtihekdlcfohkkaaGreatDoorW.PrintWords Go.Proofs.YtihekdlcfohkkaaGreatDoorW.PrintLast
set_option linter.unusedVariables false
section
variable {P : Program} {ops : Array Oper} {rest : List Oper} {o : Oper} {a : Act} {Q : Exit → Act → World → Prop} {α : Type}
/-- append(v, ys...), v the first one, where the order is known. -/
theorem Sep.appendW (d : Kd α) {Rr : α → List Value → Prop} {w0 W : World} {L : List SA} (hgd : o.guard = none) (s x : Operand) (t e : TypeId) (z : Value) (bytes : Nat)
    (ho : o.op = .call { callee := .builtin .append, args := #[s, x], argTypes := #[t, t] })
    (ht : P.underlying t = some (.slice e)) (hinfo : (P.info? e).map (fun i => (i.zero, i.size, i.bytes)) = some (some z, d.sz, bytes)) (hz : z.cells.size = d.sz) (hs0 : 0 < d.sz) (hb0 : 0 < bytes)
    (v : Value) (xs ys : List α) (A : Option Addr) (m c : Nat) (hs : a.eval s = v) (hx : a.eval x = .slice A m c)
    (HS : Sep w0 W (rA d e v xs :: L)) (HR : ReadsRow Rr d.sz W A m ys) (hKM : ∀ b okp x cs, Rr x cs → d.M W b okp x cs) (hl : (xs.length + m) * bytes ≤ 140737488355328)
    (h : ∀ v1 w1, Sep w0 w1 (rA d e v1 (xs ++ ys) :: L) → wpList P ops Q rest (a.put o.dst v1) w1) : wpList P ops Q (o :: rest) a W := by
  obtain ⟨hB, c', h0, hL⟩ := HS
  exact Kd.R_append_rows d (w0 := w0) w0.heap.size hgd s x t e z bytes ho ht hinfo hz hs0 hb0 v xs ys A m c (fun k => c' k = 0 ∨ W.heap.size ≤ k) (fun _ => False) hs hx (Kd.R_mono h0 (fun _ hk => .inl hk)) HR (fun x cs hx => hKM _ _ x cs hx) (fun _ h => h.elim) (fun _ hk => .inr hk) hB hB.size hl (fun v1 w1 ho hb hg _ => h v1 w1 (Sep.grown hL (fun k e => h0.1 k e) hg hb ho))
end
/-- A store into a row of numbers that is the first one. -/
theorem Sep.rput {w0 W : World} {L : List SA} {k : IntKind} {e g n cap : Nat} {xs : List Int} (h : Sep w0 W (rA (Kd.int k) e (.slice (some ⟨g, 0, none⟩) n cap) xs :: L)) (i x : Int) : Sep w0 (W.setCell ⟨g, i.toNat, none⟩ (.int k x)) (rA (Kd.int k) e (.slice (some ⟨g, 0, none⟩) n cap) (xs.set i.toNat x) :: L) := by
  obtain ⟨hb, c, hR, hL⟩ := h
  have hg0 : c g = 0 := hR.1 g (by simp [Value.ownBlock])
  have hgb : w0.heap.size ≤ g := Kd.R_base hR g (by simp [Value.ownBlock])
  exact ⟨below_set hb hgb, c, Kd.R_putn hR i x, SepAt.to (i := 1) 0 hL (fun k j hj hkj hlt _ => ⟨hkj, Below.heap_setCell W _ _ k (fun he => by
    have h1 : k = g := he
    subst h1
    omega)⟩)⟩
/-- A cell of a row of numbers may be written. -/
theorem Sep.rfree {w0 W : World} {L : List SA} (h : Sep w0 W L) (j : Nat) {k : IntKind} {e g n cap : Nat} {xs : List Int} (i : Int) (h0 : 0 ≤ i) (h1 : i < n) (e1 : L.getD j nA = rA (Kd.int k) e (.slice (some ⟨g, 0, none⟩) n cap) xs := by rfl) (hi : j < L.length := by first | exact of_decide_eq_true rfl | (simp only [List.length_cons, List.length_append]; omega)) : W.cell? ⟨g, i.toNat, none⟩ = some (.int k (rd xs i)) ∧ W.frozen? ⟨g, i.toNat, none⟩ = false := by
  refine ⟨h.cellI j i h0 h1 e1 hi, ?_⟩
  obtain ⟨ok, h⟩ := h.at j e1 hi
  obtain ⟨_, _, _, _, hfr⟩ := Kd.R_elem h (0 : Int) i h0 h1
  have hf1 := hfr 0
  rw [show (Kd.int k).sz = 1 from rfl, Nat.mul_one, Nat.add_zero] at hf1
  exact hf1
/-- A row of bytes is a text. -/
theorem Sep.text {P : Program} {w0 W : World} {L : List SA} {src dst e' e : TypeId} {v : Value} {xs : List Int} (h : Sep w0 W L) (j : Nat) (hs : P.underlying src = some (.slice e)) (he : P.underlying e = some (.int .u8)) (hd : P.underlying dst = some .string) (e1 : L.getD j nA = rA (Kd.int .u8) e' v xs := by rfl) (hi : j < L.length := by first | exact of_decide_eq_true rfl | (simp only [List.length_cons, List.length_append]; omega)) : Sem.run P (convert src dst v) W = .ok (.string (strOfNums xs)) W := by
  obtain ⟨ok, h⟩ := h.at j e1 hi
  exact own_string hs he hd (Kd.own_of_R h)
theorem nw_hops {j n : Nat} {H : List Int} (hH : H = List.replicate j 1) (h : j ≤ n) (hn : n ≤ 1048576) : (H.length + 1) * 8 ≤ 140737488355328 := by
  subst hH
  rw [List.length_replicate]
  omega
/-- A row of rows of nothing. -/
theorem Sep.nilS {w0 W : World} {L : List SA} (h : Sep w0 W L) {α : Type} (d : Kd α) (e : Nat) : Sep w0 W (sA d e (.slice none 0 0) [] :: L) :=
  h.new (A := sA d e (.slice none 0 0) []) (ok := fun _ => True) (Below.refl _ _) (Kd.S_nil _ _ _ _ _)
theorem Sep.fr15 {w0 W : World} {A0 A1 A2 A3 A4 A5 A6 A7 A8 A9 A10 A11 A12 A13 A14 A15 : SA} {L : List SA} (h : Sep w0 W (A0 :: A1 :: A2 :: A3 :: A4 :: A5 :: A6 :: A7 :: A8 :: A9 :: A10 :: A11 :: A12 :: A13 :: A14 :: A15 :: L)) : Sep w0 W (A15 :: A0 :: A1 :: A2 :: A3 :: A4 :: A5 :: A6 :: A7 :: A8 :: A9 :: A10 :: A11 :: A12 :: A13 :: A14 :: L) := h.front 15
theorem Sep.fr16 {w0 W : World} {A0 A1 A2 A3 A4 A5 A6 A7 A8 A9 A10 A11 A12 A13 A14 A15 A16 : SA} {L : List SA} (h : Sep w0 W (A0 :: A1 :: A2 :: A3 :: A4 :: A5 :: A6 :: A7 :: A8 :: A9 :: A10 :: A11 :: A12 :: A13 :: A14 :: A15 :: A16 :: L)) : Sep w0 W (A16 :: A0 :: A1 :: A2 :: A3 :: A4 :: A5 :: A6 :: A7 :: A8 :: A9 :: A10 :: A11 :: A12 :: A13 :: A14 :: A15 :: L) := h.front 16
theorem Sep.fr17 {w0 W : World} {A0 A1 A2 A3 A4 A5 A6 A7 A8 A9 A10 A11 A12 A13 A14 A15 A16 A17 : SA} {L : List SA} (h : Sep w0 W (A0 :: A1 :: A2 :: A3 :: A4 :: A5 :: A6 :: A7 :: A8 :: A9 :: A10 :: A11 :: A12 :: A13 :: A14 :: A15 :: A16 :: A17 :: L)) : Sep w0 W (A17 :: A0 :: A1 :: A2 :: A3 :: A4 :: A5 :: A6 :: A7 :: A8 :: A9 :: A10 :: A11 :: A12 :: A13 :: A14 :: A15 :: A16 :: L) := h.front 17
theorem Sep.fr18 {w0 W : World} {A0 A1 A2 A3 A4 A5 A6 A7 A8 A9 A10 A11 A12 A13 A14 A15 A16 A17 A18 : SA} {L : List SA} (h : Sep w0 W (A0 :: A1 :: A2 :: A3 :: A4 :: A5 :: A6 :: A7 :: A8 :: A9 :: A10 :: A11 :: A12 :: A13 :: A14 :: A15 :: A16 :: A17 :: A18 :: L)) : Sep w0 W (A18 :: A0 :: A1 :: A2 :: A3 :: A4 :: A5 :: A6 :: A7 :: A8 :: A9 :: A10 :: A11 :: A12 :: A13 :: A14 :: A15 :: A16 :: A17 :: L) := h.front 18
theorem Sep.fr19 {w0 W : World} {A0 A1 A2 A3 A4 A5 A6 A7 A8 A9 A10 A11 A12 A13 A14 A15 A16 A17 A18 A19 : SA} {L : List SA} (h : Sep w0 W (A0 :: A1 :: A2 :: A3 :: A4 :: A5 :: A6 :: A7 :: A8 :: A9 :: A10 :: A11 :: A12 :: A13 :: A14 :: A15 :: A16 :: A17 :: A18 :: A19 :: L)) : Sep w0 W (A19 :: A0 :: A1 :: A2 :: A3 :: A4 :: A5 :: A6 :: A7 :: A8 :: A9 :: A10 :: A11 :: A12 :: A13 :: A14 :: A15 :: A16 :: A17 :: A18 :: L) := h.front 19
theorem Sep.fr20 {w0 W : World} {A0 A1 A2 A3 A4 A5 A6 A7 A8 A9 A10 A11 A12 A13 A14 A15 A16 A17 A18 A19 A20 : SA} {L : List SA} (h : Sep w0 W (A0 :: A1 :: A2 :: A3 :: A4 :: A5 :: A6 :: A7 :: A8 :: A9 :: A10 :: A11 :: A12 :: A13 :: A14 :: A15 :: A16 :: A17 :: A18 :: A19 :: A20 :: L)) : Sep w0 W (A20 :: A0 :: A1 :: A2 :: A3 :: A4 :: A5 :: A6 :: A7 :: A8 :: A9 :: A10 :: A11 :: A12 :: A13 :: A14 :: A15 :: A16 :: A17 :: A18 :: A19 :: L) := h.front 20
theorem Sep.fr21 {w0 W : World} {A0 A1 A2 A3 A4 A5 A6 A7 A8 A9 A10 A11 A12 A13 A14 A15 A16 A17 A18 A19 A20 A21 : SA} {L : List SA} (h : Sep w0 W (A0 :: A1 :: A2 :: A3 :: A4 :: A5 :: A6 :: A7 :: A8 :: A9 :: A10 :: A11 :: A12 :: A13 :: A14 :: A15 :: A16 :: A17 :: A18 :: A19 :: A20 :: A21 :: L)) : Sep w0 W (A21 :: A0 :: A1 :: A2 :: A3 :: A4 :: A5 :: A6 :: A7 :: A8 :: A9 :: A10 :: A11 :: A12 :: A13 :: A14 :: A15 :: A16 :: A17 :: A18 :: A19 :: A20 :: L) := h.front 21
theorem Sep.fr22 {w0 W : World} {A0 A1 A2 A3 A4 A5 A6 A7 A8 A9 A10 A11 A12 A13 A14 A15 A16 A17 A18 A19 A20 A21 A22 : SA} {L : List SA} (h : Sep w0 W (A0 :: A1 :: A2 :: A3 :: A4 :: A5 :: A6 :: A7 :: A8 :: A9 :: A10 :: A11 :: A12 :: A13 :: A14 :: A15 :: A16 :: A17 :: A18 :: A19 :: A20 :: A21 :: A22 :: L)) : Sep w0 W (A22 :: A0 :: A1 :: A2 :: A3 :: A4 :: A5 :: A6 :: A7 :: A8 :: A9 :: A10 :: A11 :: A12 :: A13 :: A14 :: A15 :: A16 :: A17 :: A18 :: A19 :: A20 :: A21 :: L) := h.front 22
theorem Sep.fr23 {w0 W : World} {A0 A1 A2 A3 A4 A5 A6 A7 A8 A9 A10 A11 A12 A13 A14 A15 A16 A17 A18 A19 A20 A21 A22 A23 : SA} {L : List SA} (h : Sep w0 W (A0 :: A1 :: A2 :: A3 :: A4 :: A5 :: A6 :: A7 :: A8 :: A9 :: A10 :: A11 :: A12 :: A13 :: A14 :: A15 :: A16 :: A17 :: A18 :: A19 :: A20 :: A21 :: A22 :: A23 :: L)) : Sep w0 W (A23 :: A0 :: A1 :: A2 :: A3 :: A4 :: A5 :: A6 :: A7 :: A8 :: A9 :: A10 :: A11 :: A12 :: A13 :: A14 :: A15 :: A16 :: A17 :: A18 :: A19 :: A20 :: A21 :: A22 :: L) := h.front 23
theorem Sep.fr24 {w0 W : World} {A0 A1 A2 A3 A4 A5 A6 A7 A8 A9 A10 A11 A12 A13 A14 A15 A16 A17 A18 A19 A20 A21 A22 A23 A24 : SA} {L : List SA} (h : Sep w0 W (A0 :: A1 :: A2 :: A3 :: A4 :: A5 :: A6 :: A7 :: A8 :: A9 :: A10 :: A11 :: A12 :: A13 :: A14 :: A15 :: A16 :: A17 :: A18 :: A19 :: A20 :: A21 :: A22 :: A23 :: A24 :: L)) : Sep w0 W (A24 :: A0 :: A1 :: A2 :: A3 :: A4 :: A5 :: A6 :: A7 :: A8 :: A9 :: A10 :: A11 :: A12 :: A13 :: A14 :: A15 :: A16 :: A17 :: A18 :: A19 :: A20 :: A21 :: A22 :: A23 :: L) := h.front 24
theorem Sep.fr25 {w0 W : World} {A0 A1 A2 A3 A4 A5 A6 A7 A8 A9 A10 A11 A12 A13 A14 A15 A16 A17 A18 A19 A20 A21 A22 A23 A24 A25 : SA} {L : List SA} (h : Sep w0 W (A0 :: A1 :: A2 :: A3 :: A4 :: A5 :: A6 :: A7 :: A8 :: A9 :: A10 :: A11 :: A12 :: A13 :: A14 :: A15 :: A16 :: A17 :: A18 :: A19 :: A20 :: A21 :: A22 :: A23 :: A24 :: A25 :: L)) : Sep w0 W (A25 :: A0 :: A1 :: A2 :: A3 :: A4 :: A5 :: A6 :: A7 :: A8 :: A9 :: A10 :: A11 :: A12 :: A13 :: A14 :: A15 :: A16 :: A17 :: A18 :: A19 :: A20 :: A21 :: A22 :: A23 :: A24 :: L) := h.front 25
theorem Sep.fr26 {w0 W : World} {A0 A1 A2 A3 A4 A5 A6 A7 A8 A9 A10 A11 A12 A13 A14 A15 A16 A17 A18 A19 A20 A21 A22 A23 A24 A25 A26 : SA} {L : List SA} (h : Sep w0 W (A0 :: A1 :: A2 :: A3 :: A4 :: A5 :: A6 :: A7 :: A8 :: A9 :: A10 :: A11 :: A12 :: A13 :: A14 :: A15 :: A16 :: A17 :: A18 :: A19 :: A20 :: A21 :: A22 :: A23 :: A24 :: A25 :: A26 :: L)) : Sep w0 W (A26 :: A0 :: A1 :: A2 :: A3 :: A4 :: A5 :: A6 :: A7 :: A8 :: A9 :: A10 :: A11 :: A12 :: A13 :: A14 :: A15 :: A16 :: A17 :: A18 :: A19 :: A20 :: A21 :: A22 :: A23 :: A24 :: A25 :: L) := h.front 26
theorem Sep.fr27 {w0 W : World} {A0 A1 A2 A3 A4 A5 A6 A7 A8 A9 A10 A11 A12 A13 A14 A15 A16 A17 A18 A19 A20 A21 A22 A23 A24 A25 A26 A27 : SA} {L : List SA} (h : Sep w0 W (A0 :: A1 :: A2 :: A3 :: A4 :: A5 :: A6 :: A7 :: A8 :: A9 :: A10 :: A11 :: A12 :: A13 :: A14 :: A15 :: A16 :: A17 :: A18 :: A19 :: A20 :: A21 :: A22 :: A23 :: A24 :: A25 :: A26 :: A27 :: L)) : Sep w0 W (A27 :: A0 :: A1 :: A2 :: A3 :: A4 :: A5 :: A6 :: A7 :: A8 :: A9 :: A10 :: A11 :: A12 :: A13 :: A14 :: A15 :: A16 :: A17 :: A18 :: A19 :: A20 :: A21 :: A22 :: A23 :: A24 :: A25 :: A26 :: L) := h.front 27
theorem Sep.fr28 {w0 W : World} {A0 A1 A2 A3 A4 A5 A6 A7 A8 A9 A10 A11 A12 A13 A14 A15 A16 A17 A18 A19 A20 A21 A22 A23 A24 A25 A26 A27 A28 : SA} {L : List SA} (h : Sep w0 W (A0 :: A1 :: A2 :: A3 :: A4 :: A5 :: A6 :: A7 :: A8 :: A9 :: A10 :: A11 :: A12 :: A13 :: A14 :: A15 :: A16 :: A17 :: A18 :: A19 :: A20 :: A21 :: A22 :: A23 :: A24 :: A25 :: A26 :: A27 :: A28 :: L)) : Sep w0 W (A28 :: A0 :: A1 :: A2 :: A3 :: A4 :: A5 :: A6 :: A7 :: A8 :: A9 :: A10 :: A11 :: A12 :: A13 :: A14 :: A15 :: A16 :: A17 :: A18 :: A19 :: A20 :: A21 :: A22 :: A23 :: A24 :: A25 :: A26 :: A27 :: L) := h.front 28
theorem Sep.fr29 {w0 W : World} {A0 A1 A2 A3 A4 A5 A6 A7 A8 A9 A10 A11 A12 A13 A14 A15 A16 A17 A18 A19 A20 A21 A22 A23 A24 A25 A26 A27 A28 A29 : SA} {L : List SA} (h : Sep w0 W (A0 :: A1 :: A2 :: A3 :: A4 :: A5 :: A6 :: A7 :: A8 :: A9 :: A10 :: A11 :: A12 :: A13 :: A14 :: A15 :: A16 :: A17 :: A18 :: A19 :: A20 :: A21 :: A22 :: A23 :: A24 :: A25 :: A26 :: A27 :: A28 :: A29 :: L)) : Sep w0 W (A29 :: A0 :: A1 :: A2 :: A3 :: A4 :: A5 :: A6 :: A7 :: A8 :: A9 :: A10 :: A11 :: A12 :: A13 :: A14 :: A15 :: A16 :: A17 :: A18 :: A19 :: A20 :: A21 :: A22 :: A23 :: A24 :: A25 :: A26 :: A27 :: A28 :: L) := h.front 29
theorem Sep.fr30 {w0 W : World} {A0 A1 A2 A3 A4 A5 A6 A7 A8 A9 A10 A11 A12 A13 A14 A15 A16 A17 A18 A19 A20 A21 A22 A23 A24 A25 A26 A27 A28 A29 A30 : SA} {L : List SA} (h : Sep w0 W (A0 :: A1 :: A2 :: A3 :: A4 :: A5 :: A6 :: A7 :: A8 :: A9 :: A10 :: A11 :: A12 :: A13 :: A14 :: A15 :: A16 :: A17 :: A18 :: A19 :: A20 :: A21 :: A22 :: A23 :: A24 :: A25 :: A26 :: A27 :: A28 :: A29 :: A30 :: L)) : Sep w0 W (A30 :: A0 :: A1 :: A2 :: A3 :: A4 :: A5 :: A6 :: A7 :: A8 :: A9 :: A10 :: A11 :: A12 :: A13 :: A14 :: A15 :: A16 :: A17 :: A18 :: A19 :: A20 :: A21 :: A22 :: A23 :: A24 :: A25 :: A26 :: A27 :: A28 :: A29 :: L) := h.front 30
end Go.Proofs.YtihekdlcfohkkaaGreatDoorW.PrintMore
