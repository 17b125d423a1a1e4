import Derived.Test.YtihekdlcfohkkaaGreatDoorWMore
import Derived.Laws.BitsLemmas
/-! Plain lemmas for the plain statements: rounds, numbers, bits, lists. No program in sight. -/
namespace Go.Proofs.YtihekdlcfohkkaaGreatDoor.Pk
open Go.RowKit Go.Proofs.YtihekdlcfohkkaaGreatDoorW.PrintWords Go.Proofs.YtihekdlcfohkkaaGreatDoorW.PrintMore

theorem w64 {x : Int} (h0 : -9223372036854775808 ≤ x) (h1 : x ≤ 9223372036854775807) : wrap64 x = x := by unfold wrap64; omega

/-! rounds -/
theorem epos {α : Type} {c : Prop} [Decidable c] {g f : Nat → Option α} {r : α} (h : c) (e : Ev g r) : Ev (fun k => if c then g k else f k) r := by
  obtain ⟨K, e⟩ := e
  exact ⟨K, fun k hk => by simp only [if_pos h]; exact e k hk⟩
theorem eneg {α : Type} {c : Prop} [Decidable c] {g f : Nat → Option α} {r : α} (h : ¬ c) (e : Ev f r) : Ev (fun k => if c then g k else f k) r := by
  obtain ⟨K, e⟩ := e
  exact ⟨K, fun k hk => by simp only [if_neg h]; exact e k hk⟩
theorem enb {α β : Type} {x : Option α} {a : α} {f : Nat → α → Option β} {r : β} (h : x = some a) (e : Ev (fun k => f k a) r) : Ev (fun k => x.bind (f k)) r := by
  subst h
  exact e
theorem ebind {α β : Type} {g : Nat → Option α} {f : Nat → α → Option β} {a : α} {r : β} (h : Ev g a) (k : Ev (fun n => f n a) r) : Ev (fun n => (g n).bind (f n)) r := Ev.bind h k
theorem enow {α : Type} {r r' : α} (h : r = r') : Ev (fun _ => some r) r' := h ▸ Ev.now r
theorem econst {α : Type} {x : Option α} {r : α} (h : x = some r) : Ev (fun _ => x) r := ⟨0, fun _ _ => h⟩
theorem eround {α : Type} {g f : Nat → Option α} {r : α} (h : ∀ k, g (k + 1) = f k) (k : Ev f r) : Ev g r := Ev.step h k

/-! numbers and bits -/
theorem i64_wrap (n : Int) : IntKind.i64.wrap n = wrap64 n := by rw [IntKind.wrap_i64]; unfold wrap64; rfl
theorem wraps_i64 (n : Int) (h0 : 0 ≤ n) (h1 : n < 2 ^ 62) : IntKind.i64.wrap n = n := by
  rw [IntKind.wrap_i64]
  have : (2 : Int) ^ 62 = 4611686018427387904 := by decide
  omega
theorem band (a b : Nat) (ha : a < 2 ^ 62) (hb : b < 2 ^ 62) : Go.bits .and .i64 (a : Int) (b : Int) = ((a &&& b : Nat) : Int) := (bits_nat .i64 62 (by decide) wraps_i64 a b ha hb).1
theorem bor (a b : Nat) (ha : a < 2 ^ 62) (hb : b < 2 ^ 62) : Go.bits .or .i64 (a : Int) (b : Int) = ((a ||| b : Nat) : Int) := (bits_nat .i64 62 (by decide) wraps_i64 a b ha hb).2
theorem bxor (a b : Nat) (ha : a < 2 ^ 62) (hb : b < 2 ^ 62) : Go.bits .xor .i64 (a : Int) (b : Int) = ((a ^^^ b : Nat) : Int) := by
  have hp : (2 : Nat) ^ 62 ≤ 2 ^ IntKind.i64.bits := Nat.pow_le_pow_right (by decide) (by decide)
  have ha' : a % 2 ^ IntKind.i64.bits = a := Nat.mod_eq_of_lt (Nat.lt_of_lt_of_le ha hp)
  have hb' : b % 2 ^ IntKind.i64.bits = b := Nat.mod_eq_of_lt (Nat.lt_of_lt_of_le hb hp)
  simp only [Go.bits, BitVec.ofInt_natCast, BitVec.toNat_xor, BitVec.toNat_ofNat, ha', hb']
  exact wraps_i64 _ (Int.natCast_nonneg _) (by exact_mod_cast Nat.xor_lt_two_pow ha hb)
theorem and_one (x : Int) (h0 : 0 ≤ x) (h1 : x < 4611686018427387904) : Go.bits .and .i64 x 1 = x % 2 := by
  obtain ⟨a, rfl⟩ := Int.eq_ofNat_of_zero_le h0
  have ha : a < 2 ^ 62 := by have : (2 : Nat) ^ 62 = 4611686018427387904 := by decide
                             omega
  have := band a 1 ha (by decide)
  rw [Nat.and_one_is_mod] at this
  exact_mod_cast this
theorem shr_nat (a i : Nat) (hi : i ≤ 64) : shr .i64 (a : Int) (i : Int) = ((a >>> i : Nat) : Int) := by
  unfold shr
  have : min ((i : Int)).toNat IntKind.i64.bits = i := by simp [IntKind.bits]; omega
  rw [this, Nat.shiftRight_eq_div_pow]
  simp
/-- bit i of a -/
theorem bit_at (a i : Nat) (ha : a < 2 ^ 62) (hi : i ≤ 64) : Go.bits .and .i64 (shr .i64 (a : Int) (i : Int)) 1 = if a.testBit i then 1 else 0 := by
  rw [shr_nat a i hi]
  have h1 : a >>> i < 2 ^ 62 := Nat.lt_of_le_of_lt (Nat.shiftRight_le a i) ha
  have := band (a >>> i) 1 h1 (by decide)
  rw [show ((1 : Nat) : Int) = 1 from rfl] at this
  rw [this, Nat.testBit, Nat.and_comm]
  rw [Nat.one_and_eq_mod_two]
  have : a >>> i % 2 = 0 ∨ a >>> i % 2 = 1 := by omega
  rcases this with h | h <;> simp [h]
theorem u64_wrap_small (n : Int) (h0 : 0 ≤ n) (h1 : n < 9223372036854775808) : IntKind.u64.wrap n = n := by
  simp [IntKind.wrap, IntKind.bits, IntKind.signed]
  omega

/-! lists -/
theorem rd_get (xs : List Int) (i : Nat) (h : i < xs.length) : rd xs (i : Int) = xs[i] := by
  simp [rd, List.getD_eq_getElem?_getD, List.getElem?_eq_getElem h]

theorem getD_get {α : Type} (xs : List α) (i : Nat) (z : α) (h : i < xs.length) : xs.getD ((i : Int)).toNat z = xs[i] := by
  simp [List.getD_eq_getElem?_getD, List.getElem?_eq_getElem h]
theorem set_get {α : Type} (xs : List α) (i : Nat) (z v : α) (h : i < xs.length) : (xs.set ((i : Int)).toNat v).getD ((i : Int)).toNat z = v := by
  simp [List.getD_eq_getElem?_getD, h]
theorem set_set_ {α : Type} (xs : List α) (i : Int) (u v : α) : (xs.set i.toNat u).set i.toNat v = xs.set i.toNat v := List.set_set ..
theorem take_set_succ {α : Type} {xs acc : List α} {i : Nat} (v x : α) (hv : v = x) (hlt : i < xs.length) (hl : acc.length = xs.length) (ht : acc.take i = xs.take i) (hx : xs[i] = x) : (acc.set (i : Int).toNat v).take (i + 1) = xs.take (i + 1) := by
  subst hv
  have e : ((i : Int)).toNat = i := by simp
  rw [e, List.take_succ_eq_append_getElem (by simp; omega), List.take_succ_eq_append_getElem hlt]
  rw [List.getElem_set_self, List.take_set_of_le (Nat.le_refl i), ht, hx]

/-! a value that rounds come to, as a function -/
open Classical in
noncomputable def theEv {α : Type} (d : α) (g : Nat → Option α) : α := if h : ∃ r, Ev g r then Classical.choose h else d
theorem theEv_of {α : Type} {d : α} {g : Nat → Option α} {r : α} (h : Ev g r) : Ev g (theEv d g) := by
  unfold theEv
  rw [dif_pos ⟨r, h⟩]
  exact Classical.choose_spec (⟨r, h⟩ : ∃ r, Ev g r)
theorem Ev_unique {α : Type} {g : Nat → Option α} {r r' : α} (h : Ev g r) (h' : Ev g r') : r = r' := by
  obtain ⟨K, h⟩ := h
  obtain ⟨K', h'⟩ := h'
  have a := h (max K K') (by omega)
  have b := h' (max K K') (by omega)
  rw [a] at b
  exact Option.some.inj b

end Go.Proofs.YtihekdlcfohkkaaGreatDoor.Pk
