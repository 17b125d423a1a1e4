-- printed by this session's own program (wip/tools/pp.py: the kit's print.py with changes); Lean checks it
import Derived.Test.YtkgogglnipdcfaaQFnExactPutMixx0
import Derived.Test.YtkgogglnipdcfaaQFnExactPutMixx1
namespace Go.Proofs.Ytkgogglnipdcfaa.QFnExactPutMix
open Go.RowKit Go.Proofs.YtkgogglnipdcfaaW.PrintWords Go.Proofs.YtkgogglnipdcfaaW.PrintLast Go.Proofs.YtkgogglnipdcfaaW.PrintMore
attribute [local go_sem] max2_int min2_int max_two min_two max_three min_three max_four min_four strLss strGtr strLeq strGeq   -- for this text's walks alone
set_option linter.unusedVariables false
set_option linter.unusedSimpArgs false

/-! ### spec_l8Place: function 175 -/
def spec_l8Place.l0 : Nat → List ByteArray → ByteArray → Int → Option (List ByteArray)
  | 0, _, _, _ => none
  | k + 1, x0, x1, x5 => if x5 < (x0.length : Int) then (if 0 ≤ x5 then (if ((Op.bytesLess x1.toList ((rdOf ByteArray.empty x0 x5).toList)) = true) then ((some (([] : List ByteArray) : List ByteArray)).bind fun y132 => (if x5 ≤ (x0.length : Int) then (if y132.length + (x0.take (x5 : Int).toNat).length < 8796093022208 then ((some (y132 ++ (x0.take (x5 : Int).toNat) : List ByteArray)).bind fun y136 => (if y136.length < 8796093022208 then ((some (y136 ++ [x1] : List ByteArray)).bind fun y139 => (if y139.length + (x0.drop (x5 : Int).toNat).length < 8796093022208 then (some (y139 ++ (x0.drop (x5 : Int).toNat))) else (none))) else (none))) else (none)) else (none))) else (spec_l8Place.l0 k x0 x1 (wrap64 (x5 + 1)))) else (none)) else ((some (([] : List ByteArray) : List ByteArray)).bind fun y146 => (if 0 ≤ x5 then (if x5 ≤ (x0.length : Int) then (if y146.length + (x0.take (x5 : Int).toNat).length < 8796093022208 then ((some (y146 ++ (x0.take (x5 : Int).toNat) : List ByteArray)).bind fun y150 => (if y150.length < 8796093022208 then ((some (y150 ++ [x1] : List ByteArray)).bind fun y153 => (if y153.length + (x0.drop (x5 : Int).toNat).length < 8796093022208 then (some (y153 ++ (x0.drop (x5 : Int).toNat))) else (none))) else (none))) else (none)) else (none)) else (none)))
def spec_l8Place.f (k : Nat) (l0 : List ByteArray) (a1 : ByteArray) : Option (List ByteArray) := spec_l8Place.l0 k l0 a1 0
theorem spec_l8Place.mono_l : ∀ k, (∀ y0 y1 y2, LeO (spec_l8Place.l0 k y0 y1 y2) (spec_l8Place.l0 (k + 1) y0 y1 y2))
 | 0 => fun _ _ _ r h => by simp [spec_l8Place.l0] at h
 | k + 1 => by
  have ih0 := spec_l8Place.mono_l k
  ·intro y0 y1 y2
   unfold spec_l8Place.l0
   repeat' (first | (with_reducible first | exact ih0 _ _ _ | exact LeO.refl _ | exact LeO.none _ | refine LeO.ite ?_ ?_ | refine LeO.bind ?_ (fun _ => ?_)) | exact ih0 _ _ _ | exact LeO.none _ | refine LeO.ite ?_ ?_ | refine LeO.bind ?_ (fun _ => ?_))
theorem spec_l8Place.mono : ∀ a0 a1 k, LeO (spec_l8Place.f k a0 a1) (spec_l8Place.f (k + 1) a0 a1) := by
 intro a0 a1 k
 have ih0 := spec_l8Place.mono_l k
 unfold spec_l8Place.f
 repeat' (first | (with_reducible first | exact ih0 _ _ _ | exact LeO.refl _ | exact LeO.none _ | refine LeO.ite ?_ ?_ | refine LeO.bind ?_ (fun _ => ?_)) | exact ih0 _ _ _ | exact LeO.none _ | refine LeO.ite ?_ ?_ | refine LeO.bind ?_ (fun _ => ?_))
set_option maxHeartbeats 8000000 in
set_option maxRecDepth 100000 in
theorem spec_l8Place.calls (k : Nat) (A0 : Option Addr) (c0 : Nat) (l0 : List ByteArray) (a1 : ByteArray) (r : List ByteArray) (w : World) (hr0 : Kd.C Kd.string w A0 l0.length l0) (hc0 : l0.length ≤ c0) (h : spec_l8Place.f k l0 a1 = some r) :
  Calls Try.prog 175 #[.slice A0 l0.length c0, .string a1] w fun e w' => ∃ v0_ : Value, e = .returned (v0_) ∧ Kd.R Kd.string 9 w' w.heap.size (fun _ => True) v0_ r ∧ Below w.heap.size w w' := by
 have HR0 := Aside0.mk hr0; have HC0 := Aside0.mk hc0; clear hr0 hc0
 have HB := Aside0.mk (Below.refl w.heap.size w)
 have H : (spec_l8Place.l0 k l0 a1 0) = some r := h
 clear h
 have H' := Aside0.mk H
 clear H
 go_enter Try.func175, Try.ntmps175
 go_wp2
 go_loopg [5] k (fun kq v5 w' => ∃ (x5_1 : Int), v5 = .int .i64 x5_1 ∧ Aside0 (spec_l8Place.l0 kq l0 a1 x5_1 = some r) ∧ Aside0 (kq ≤ k) ∧ Aside0 (Below w.heap.size w w'))
 case atStart => exact ⟨(0), er, H', ⟨Nat.le_refl _⟩, ⟨belowd HB⟩⟩
 case round =>
  clear H'
  obtain ⟨x5_1, rfl, HA, HK1, HB⟩ := hrel
  cases gk with
  | zero => exact absurd HA.out (by simp [spec_l8Place.l0])
  | succ k1 =>
   have H := HA.out; clear HA
   simp only [spec_l8Place.l0] at H
   by_cases c3 : x5_1 < (l0.length : Int)
   ·rw [if_pos c3] at H
    have c3b0 : decide (x5_1 < (l0.length : Int)) = true := decide_eq_true c3
    clear c3; replace H := ifS H; obtain ⟨c4, H⟩ := H; have c4b0 := decide_eq_true c4; clear c4
    by_cases c5 : ((Op.bytesLess a1.toList ((rdOf ByteArray.empty l0 x5_1).toList)) = true)
    ·rw [if_pos c5] at H
     have c5b0 : (Op.bytesLess a1.toList ((rdOf ByteArray.empty l0 x5_1).toList)) = true := c5
     clear c5
     obtain ⟨y132, hy_⟩ : ∃ y_ : List ByteArray, y_ = (([] : List ByteArray)) := ⟨_, rfl⟩
     replace H : (if x5_1 ≤ (l0.length : Int) then (if y132.length + (l0.take (x5_1 : Int).toNat).length < 8796093022208 then ((some (y132 ++ (l0.take (x5_1 : Int).toNat) : List ByteArray)).bind fun y136 => (if y136.length < 8796093022208 then ((some (y136 ++ [a1] : List ByteArray)).bind fun y139 => (if y139.length + (l0.drop (x5_1 : Int).toNat).length < 8796093022208 then (some (y139 ++ (l0.drop (x5_1 : Int).toNat))) else (none))) else (none))) else (none)) else (none)) = some r := yH
     have Ny132 := ak hy_; clear hy_
     have c6b0 := eq_true (da : 0 ≤ x5_1)
     replace H := ifS H; obtain ⟨c7, H⟩ := H; have c7b0 := eq_true c7
     have c7b1 : decide (x5_1 ≤ (l0.length : Int)) = true := decide_eq_true c7
     clear c7; replace H := ifS H; obtain ⟨c8, H⟩ := H; have LMc8 := Aside0.mk c8; clear c8
     obtain ⟨y136, hy_⟩ : ∃ y_ : List ByteArray, y_ = (y132 ++ (l0.take (x5_1 : Int).toNat)) := ⟨_, rfl⟩
     replace H : (if y136.length < 8796093022208 then ((some (y136 ++ [a1] : List ByteArray)).bind fun y139 => (if y139.length + (l0.drop (x5_1 : Int).toNat).length < 8796093022208 then (some (y139 ++ (l0.drop (x5_1 : Int).toNat))) else (none))) else (none)) = some r := yH
     have Ny136 := ak hy_; clear hy_; replace H := ifS H; obtain ⟨c9, H⟩ := H; have LMc9 := Aside0.mk c9; clear c9
     obtain ⟨y139, hy_⟩ : ∃ y_ : List ByteArray, y_ = (y136 ++ [a1]) := ⟨_, rfl⟩
     replace H : (if y139.length + (l0.drop (x5_1 : Int).toNat).length < 8796093022208 then (some (y139 ++ (l0.drop (x5_1 : Int).toNat))) else (none)) = some r := yH
     have Ny139 := ak hy_; clear hy_
     have c10b0 := eq_true (da : 0 ≤ x5_1)
     have c11b0 := eq_true (da : x5_1 ≤ (l0.length : Int))
     replace H := ifS H; obtain ⟨c12, H⟩ := H; have LMc12 := Aside0.mk c12; clear c12
     obtain ⟨y143, hy_⟩ : ∃ y_ : List ByteArray, y_ = (y139 ++ (l0.drop (x5_1 : Int).toNat)) := ⟨_, rfl⟩
     replace H : (some y143) = some r := yH
     have Ny143 := ak hy_; clear hy_
     obtain rfl := Option.some.inj H
     have p131 : 0 ≤ (x5_1 : Int) := da
     have q131 : x5_1 < (l0.length : Int) := da
     obtain ⟨ad131, e131, hx131_0⟩ := Kd.at_string HR0.out x5_1 p131 q131
     cases e131
     replace hx131_0 := (HB.out.cell (World.block_lt_of_cell? w _ hx131_0)).trans hx131_0
     replace p131 := eq_true p131; replace q131 := eq_true q131
     go_wp2_with (first | ((with_reducible refine gate_dst (N := 21) rfl ?_); refine Kd.R_lit Kd.string _ 9 ?hg (N := 21) ?hd (xs := ([] : List ByteArray)) (inner := []) (ok := fun _ => True) (okp := fun _ => True) ?hr ?hp (fun _ hk => hk) trivial (Below.refl _ _) (Nat.le_refl _) (by simp) ?_; (case hd => rfl); (case hg => rfl); (case hr => first | (go_simp; done) | (go_simp; rfl)); (case hp => exact (Reps.none _ _)); intro v133 w13 ho14 hb hg_ hnew_; clear hg_ hnew_; (first | rw [← Ny132.out] at ho14 | (simp only [Int.reduceToNat] at ho14; rw [← Ny132.out] at ho14)); have HO134 := ak (Kd.R_lower ho14 (below_size (belowd HB))); replace HB := ak (below_step (belowd HB) hb); clear hb ho14; obtain ⟨i015, hi015, _, hsz15, _⟩ := info_parts info9; obtain ⟨hcut15, hA15, hC15⟩ := print_take_of (P := Try.prog) Value.string (⟨#[]⟩ : ByteArray) 22 9 .i64 Try.underlying22 hi015 hsz15 (some ad131) c0 l0 x5_1 (da) (da) HC0.out; have HR135 := Aside0.mk (Kd.C_of_reads (h1 := fun _ => rfl) (hA15 _ (Kd.reads_of_C HR0.out))); have HC135 := Aside0.mk hC15; clear hA15 hC15 hi015 hsz15) | ((with_reducible refine gate_builtin (b := .append) (xs := #[.tmp 21, .tmp 24]) rfl ?_); at_builtin; refine Kd.R_append_rows Kd.string (w0 := w) w.heap.size rfl (.tmp 21) (.tmp 24) 22 9 (.string ⟨#[]⟩) 16 rfl Try.underlying22 info9 rfl (by decide) (by omega) v133 y132 (l0.take (x5_1 : Int).toNat) _ _ _ (fun _ => True) (fun _ => False) rfl rfl ?aO ?aR (fun _ _ h => h) (fun _ h => h.elim) ?aF ?aB ?aS ?aL ?_; (case aR => first | (refine Eq.mp (congrArg (fun z_ => ReadsRow _ _ _ _ z_ _) (show (l0.take (x5_1 : Int).toNat).length = x5_1.toNat from (by rw [List.length_take]; have h_ : (x5_1 : Int) ≤ (l0.length : Int) := da; omega))) ?_; exact cd (Kd.C_below HR135.out HB.out)) | (rw [← show (l0.take (x5_1 : Int).toNat).length = x5_1.toNat from (by rw [List.length_take]; have h_ : (x5_1 : Int) ≤ (l0.length : Int) := da; omega)]; exact cd (Kd.C_below HR135.out HB.out)) | (exact cd (Kd.C_below HR135.out HB.out))); (case aB => exact (belowd HB)); (case aF => exact (fun _ _ => trivial)); (case aO => exact (rdl HO134)); (case aS => exact (below_size (belowd HB))); (case aL => have := LMc8.out; have hlx_ := (show (l0.take (x5_1 : Int).toNat).length = x5_1.toNat from (by rw [List.length_take]; have h_ : (x5_1 : Int) ≤ (l0.length : Int) := da; omega)); omega); intro v137 w16 ho hb hg hat; rw [← Ny136.out] at ho; replace HB := ak (hb); have HO138 := ak (ho); clear HO134; clear ho hb hg hat) | ((with_reducible refine gate_builtin (b := .append) (xs := #[.tmp 26, .tmp 28]) rfl ?_); at_builtin; refine Kd.R_append Kd.string (w0 := w) w.heap.size rfl (.tmp 26) (.tmp 28) 22 9 (.string ⟨#[]⟩) 16 rfl Try.underlying22 info9 rfl (by decide) (by omega) v137 y136 a1 [.string a1] (fun _ => True) (fun _ => False) rfl rfl ?aP (fun _ hk => hk.elim) ?aF ?aO ?aB ?aS ?aL ?_; (case aP => exact rfl); (case aB => exact (belowd HB)); (case aF => exact (fun _ _ => trivial)); (case aO => exact (rdl HO138)); (case aS => exact (below_size (belowd HB))); (case aL => have := LMc9.out; omega); intro v140 w17 ho hb hg hat; rw [← Ny139.out] at ho; replace HB := ak (hb); have HO141 := ak (ho); clear HO138; clear ho hb hg hat; obtain ⟨i018, hi018, _, hsz18, _⟩ := info_parts info9; obtain ⟨A18, hcut18, hA18, hC18⟩ := print_drop_of (P := Try.prog) Value.string (⟨#[]⟩ : ByteArray) 22 9 .i64 Try.underlying22 hi018 hsz18 (some ad131) c0 l0 x5_1 (da) (da) HC0.out; have HR142 := Aside0.mk (Kd.C_of_reads (h1 := fun _ => rfl) (hA18 _ (Kd.reads_of_C HR0.out))); have HC142 := Aside0.mk hC18; clear hA18 hC18 hi018 hsz18) | ((with_reducible refine gate_builtin (b := .append) (xs := #[.tmp 30, .tmp 33]) rfl ?_); at_builtin; refine Kd.R_append_rows Kd.string (w0 := w) w.heap.size rfl (.tmp 30) (.tmp 33) 22 9 (.string ⟨#[]⟩) 16 rfl Try.underlying22 info9 rfl (by decide) (by omega) v140 y139 (l0.drop (x5_1 : Int).toNat) _ _ _ (fun _ => True) (fun _ => False) rfl rfl ?aO ?aR (fun _ _ h => h) (fun _ h => h.elim) ?aF ?aB ?aS ?aL ?_; (case aR => first | (refine Eq.mp (congrArg (fun z_ => ReadsRow _ _ _ _ z_ _) (show (l0.drop (x5_1 : Int).toNat).length = (l0.length - x5_1.toNat) from List.length_drop)) ?_; exact cd (Kd.C_below HR142.out HB.out)) | (rw [← show (l0.drop (x5_1 : Int).toNat).length = (l0.length - x5_1.toNat) from List.length_drop]; exact cd (Kd.C_below HR142.out HB.out)) | (exact cd (Kd.C_below HR142.out HB.out))); (case aB => exact (belowd HB)); (case aF => exact (fun _ _ => trivial)); (case aO => exact (rdl HO141)); (case aS => exact (below_size (belowd HB))); (case aL => have := LMc12.out; have hlx_ := (show (l0.drop (x5_1 : Int).toNat).length = (l0.length - x5_1.toNat) from List.length_drop); omega); intro v144 w19 ho hb hg hat; rw [← Ny143.out] at ho; replace HB := ak (hb); have HO145 := ak (ho); clear HO141; clear ho hb hg hat))
     go_ret
     exact ⟨_, er2, by (with_reducible repeat (first | apply Kd.R_alloc | apply Kd.R_drewN | apply Kd.R_drew)); exact HO145.out, belowd HB⟩
    ·rw [if_neg c5] at H
     have c5b0 : (Op.bytesLess a1.toList ((rdOf ByteArray.empty l0 x5_1).toList)) = false := by simpa using c5
     clear c5
     have H' := Aside0.mk H
     clear H
     have p131 : 0 ≤ (x5_1 : Int) := da
     have q131 : x5_1 < (l0.length : Int) := da
     obtain ⟨ad131, e131, hx131_0⟩ := Kd.at_string HR0.out x5_1 p131 q131
     cases e131
     replace hx131_0 := (HB.out.cell (World.block_lt_of_cell? w _ hx131_0)).trans hx131_0
     replace p131 := eq_true p131; replace q131 := eq_true q131; go_wp2
     go_roundg k1
     case measure => have := HK1.out; omega
     case rel => exact ⟨(wrap64 (x5_1 + 1)), er, H', ⟨by have := HK1.out; omega⟩, ⟨belowd HB⟩⟩
   ·rw [if_neg c3] at H
    have c3b0 : decide (x5_1 < (l0.length : Int)) = false := decide_eq_false c3
    clear c3
    obtain ⟨y146, hy_⟩ : ∃ y_ : List ByteArray, y_ = (([] : List ByteArray)) := ⟨_, rfl⟩
    replace H : (if 0 ≤ x5_1 then (if x5_1 ≤ (l0.length : Int) then (if y146.length + (l0.take (x5_1 : Int).toNat).length < 8796093022208 then ((some (y146 ++ (l0.take (x5_1 : Int).toNat) : List ByteArray)).bind fun y150 => (if y150.length < 8796093022208 then ((some (y150 ++ [a1] : List ByteArray)).bind fun y153 => (if y153.length + (l0.drop (x5_1 : Int).toNat).length < 8796093022208 then (some (y153 ++ (l0.drop (x5_1 : Int).toNat))) else (none))) else (none))) else (none)) else (none)) else (none)) = some r := yH
    have Ny146 := ak hy_; clear hy_; replace H := ifS H; obtain ⟨c20, H⟩ := H; have c20b0 := eq_true c20
    have c20b1 : decide (0 ≤ x5_1) = true := decide_eq_true c20
    clear c20; replace H := ifS H; obtain ⟨c21, H⟩ := H; have c21b0 := eq_true c21
    have c21b1 : decide (x5_1 ≤ (l0.length : Int)) = true := decide_eq_true c21
    clear c21; replace H := ifS H; obtain ⟨c22, H⟩ := H; have LMc22 := Aside0.mk c22; clear c22
    obtain ⟨y150, hy_⟩ : ∃ y_ : List ByteArray, y_ = (y146 ++ (l0.take (x5_1 : Int).toNat)) := ⟨_, rfl⟩
    replace H : (if y150.length < 8796093022208 then ((some (y150 ++ [a1] : List ByteArray)).bind fun y153 => (if y153.length + (l0.drop (x5_1 : Int).toNat).length < 8796093022208 then (some (y153 ++ (l0.drop (x5_1 : Int).toNat))) else (none))) else (none)) = some r := yH
    have Ny150 := ak hy_; clear hy_; replace H := ifS H; obtain ⟨c23, H⟩ := H; have LMc23 := Aside0.mk c23; clear c23
    obtain ⟨y153, hy_⟩ : ∃ y_ : List ByteArray, y_ = (y150 ++ [a1]) := ⟨_, rfl⟩
    replace H : (if y153.length + (l0.drop (x5_1 : Int).toNat).length < 8796093022208 then (some (y153 ++ (l0.drop (x5_1 : Int).toNat))) else (none)) = some r := yH
    have Ny153 := ak hy_; clear hy_
    have c24b0 := eq_true (da : 0 ≤ x5_1)
    have c25b0 := eq_true (da : x5_1 ≤ (l0.length : Int))
    replace H := ifS H; obtain ⟨c26, H⟩ := H; have LMc26 := Aside0.mk c26; clear c26
    obtain ⟨y157, hy_⟩ : ∃ y_ : List ByteArray, y_ = (y153 ++ (l0.drop (x5_1 : Int).toNat)) := ⟨_, rfl⟩
    replace H : (some y157) = some r := yH
    have Ny157 := ak hy_; clear hy_
    obtain rfl := Option.some.inj H
    go_wp2_with (first | ((with_reducible refine gate_dst (N := 21) rfl ?_); refine Kd.R_lit Kd.string _ 9 ?hg (N := 21) ?hd (xs := ([] : List ByteArray)) (inner := []) (ok := fun _ => True) (okp := fun _ => True) ?hr ?hp (fun _ hk => hk) trivial (Below.refl _ _) (Nat.le_refl _) (by simp) ?_; (case hd => rfl); (case hg => rfl); (case hr => first | (go_simp; done) | (go_simp; rfl)); (case hp => exact (Reps.none _ _)); intro v147 w27 ho28 hb hg_ hnew_; clear hg_ hnew_; (first | rw [← Ny146.out] at ho28 | (simp only [Int.reduceToNat] at ho28; rw [← Ny146.out] at ho28)); have HO148 := ak (Kd.R_lower ho28 (below_size (belowd HB))); replace HB := ak (below_step (belowd HB) hb); clear hb ho28; obtain ⟨i029, hi029, _, hsz29, _⟩ := info_parts info9; obtain ⟨hcut29, hA29, hC29⟩ := print_take_of (P := Try.prog) Value.string (⟨#[]⟩ : ByteArray) 22 9 .i64 Try.underlying22 hi029 hsz29 A0 c0 l0 x5_1 (da) (da) HC0.out; have HR149 := Aside0.mk (Kd.C_of_reads (h1 := fun _ => rfl) (hA29 _ (Kd.reads_of_C HR0.out))); have HC149 := Aside0.mk hC29; clear hA29 hC29 hi029 hsz29) | ((with_reducible refine gate_builtin (b := .append) (xs := #[.tmp 21, .tmp 24]) rfl ?_); at_builtin; refine Kd.R_append_rows Kd.string (w0 := w) w.heap.size rfl (.tmp 21) (.tmp 24) 22 9 (.string ⟨#[]⟩) 16 rfl Try.underlying22 info9 rfl (by decide) (by omega) v147 y146 (l0.take (x5_1 : Int).toNat) _ _ _ (fun _ => True) (fun _ => False) rfl rfl ?aO ?aR (fun _ _ h => h) (fun _ h => h.elim) ?aF ?aB ?aS ?aL ?_; (case aR => first | (refine Eq.mp (congrArg (fun z_ => ReadsRow _ _ _ _ z_ _) (show (l0.take (x5_1 : Int).toNat).length = x5_1.toNat from (by rw [List.length_take]; have h_ : (x5_1 : Int) ≤ (l0.length : Int) := da; omega))) ?_; exact cd (Kd.C_below HR149.out HB.out)) | (rw [← show (l0.take (x5_1 : Int).toNat).length = x5_1.toNat from (by rw [List.length_take]; have h_ : (x5_1 : Int) ≤ (l0.length : Int) := da; omega)]; exact cd (Kd.C_below HR149.out HB.out)) | (exact cd (Kd.C_below HR149.out HB.out))); (case aB => exact (belowd HB)); (case aF => exact (fun _ _ => trivial)); (case aO => exact (rdl HO148)); (case aS => exact (below_size (belowd HB))); (case aL => have := LMc22.out; have hlx_ := (show (l0.take (x5_1 : Int).toNat).length = x5_1.toNat from (by rw [List.length_take]; have h_ : (x5_1 : Int) ≤ (l0.length : Int) := da; omega)); omega); intro v151 w30 ho hb hg hat; rw [← Ny150.out] at ho; replace HB := ak (hb); have HO152 := ak (ho); clear HO148; clear ho hb hg hat) | ((with_reducible refine gate_builtin (b := .append) (xs := #[.tmp 26, .tmp 28]) rfl ?_); at_builtin; refine Kd.R_append Kd.string (w0 := w) w.heap.size rfl (.tmp 26) (.tmp 28) 22 9 (.string ⟨#[]⟩) 16 rfl Try.underlying22 info9 rfl (by decide) (by omega) v151 y150 a1 [.string a1] (fun _ => True) (fun _ => False) rfl rfl ?aP (fun _ hk => hk.elim) ?aF ?aO ?aB ?aS ?aL ?_; (case aP => exact rfl); (case aB => exact (belowd HB)); (case aF => exact (fun _ _ => trivial)); (case aO => exact (rdl HO152)); (case aS => exact (below_size (belowd HB))); (case aL => have := LMc23.out; omega); intro v154 w31 ho hb hg hat; rw [← Ny153.out] at ho; replace HB := ak (hb); have HO155 := ak (ho); clear HO152; clear ho hb hg hat; obtain ⟨i032, hi032, _, hsz32, _⟩ := info_parts info9; obtain ⟨A32, hcut32, hA32, hC32⟩ := print_drop_of (P := Try.prog) Value.string (⟨#[]⟩ : ByteArray) 22 9 .i64 Try.underlying22 hi032 hsz32 A0 c0 l0 x5_1 (da) (da) HC0.out; have HR156 := Aside0.mk (Kd.C_of_reads (h1 := fun _ => rfl) (hA32 _ (Kd.reads_of_C HR0.out))); have HC156 := Aside0.mk hC32; clear hA32 hC32 hi032 hsz32) | ((with_reducible refine gate_builtin (b := .append) (xs := #[.tmp 30, .tmp 33]) rfl ?_); at_builtin; refine Kd.R_append_rows Kd.string (w0 := w) w.heap.size rfl (.tmp 30) (.tmp 33) 22 9 (.string ⟨#[]⟩) 16 rfl Try.underlying22 info9 rfl (by decide) (by omega) v154 y153 (l0.drop (x5_1 : Int).toNat) _ _ _ (fun _ => True) (fun _ => False) rfl rfl ?aO ?aR (fun _ _ h => h) (fun _ h => h.elim) ?aF ?aB ?aS ?aL ?_; (case aR => first | (refine Eq.mp (congrArg (fun z_ => ReadsRow _ _ _ _ z_ _) (show (l0.drop (x5_1 : Int).toNat).length = (l0.length - x5_1.toNat) from List.length_drop)) ?_; exact cd (Kd.C_below HR156.out HB.out)) | (rw [← show (l0.drop (x5_1 : Int).toNat).length = (l0.length - x5_1.toNat) from List.length_drop]; exact cd (Kd.C_below HR156.out HB.out)) | (exact cd (Kd.C_below HR156.out HB.out))); (case aB => exact (belowd HB)); (case aF => exact (fun _ _ => trivial)); (case aO => exact (rdl HO155)); (case aS => exact (below_size (belowd HB))); (case aL => have := LMc26.out; have hlx_ := (show (l0.drop (x5_1 : Int).toNat).length = (l0.length - x5_1.toNat) from List.length_drop); omega); intro v158 w33 ho hb hg hat; rw [← Ny157.out] at ho; replace HB := ak (hb); have HO159 := ak (ho); clear HO155; clear ho hb hg hat))
    go_ret
    exact ⟨_, er2, by (with_reducible repeat (first | apply Kd.R_alloc | apply Kd.R_drewN | apply Kd.R_drew)); exact HO159.out, belowd HB⟩

/-! ### spec_l1Put: function 176 -/
def spec_l1Put.l0 : Nat → List Int → Int → Int → Option (List Int)
  | 0, _, _, _ => none
  | k + 1, x0, x1, x5 => if x5 < (x0.length : Int) then (if 0 ≤ x5 then (if (rd x0 x5) < x1 then (spec_l1Put.l0 k x0 x1 (wrap64 (x5 + 1))) else (if (rd x0 x5) = x1 then (some x0) else ((some (([] : List Int) : List Int)).bind fun y162 => (if x5 ≤ (x0.length : Int) then ((some (x0.take (x5 : Int).toNat : List Int)).bind fun y165 => (if y162.length + y165.length < 17592186044416 then ((some (y162 ++ y165 : List Int)).bind fun y169 => (if y169.length < 17592186044416 then ((some (y169 ++ [x1] : List Int)).bind fun y172 => ((some (x0.drop (x5 : Int).toNat : List Int)).bind fun y175 => (if y172.length + y175.length < 17592186044416 then (some (y172 ++ y175)) else (none)))) else (none))) else (none))) else (none))))) else (none)) else ((some (([] : List Int) : List Int)).bind fun y182 => (if 0 ≤ x5 then (if x5 ≤ (x0.length : Int) then ((some (x0.take (x5 : Int).toNat : List Int)).bind fun y185 => (if y182.length + y185.length < 17592186044416 then ((some (y182 ++ y185 : List Int)).bind fun y189 => (if y189.length < 17592186044416 then ((some (y189 ++ [x1] : List Int)).bind fun y192 => ((some (x0.drop (x5 : Int).toNat : List Int)).bind fun y195 => (if y192.length + y195.length < 17592186044416 then (some (y192 ++ y195)) else (none)))) else (none))) else (none))) else (none)) else (none)))
def spec_l1Put.f (k : Nat) (l0 : List Int) (a1 : Int) : Option (List Int) := spec_l1Put.l0 k l0 a1 0
theorem spec_l1Put.mono_l : ∀ k, (∀ y0 y1 y2, LeO (spec_l1Put.l0 k y0 y1 y2) (spec_l1Put.l0 (k + 1) y0 y1 y2))
 | 0 => fun _ _ _ r h => by simp [spec_l1Put.l0] at h
 | k + 1 => by
  have ih0 := spec_l1Put.mono_l k
  ·intro y0 y1 y2
   unfold spec_l1Put.l0
   repeat' (first | (with_reducible first | exact ih0 _ _ _ | exact LeO.refl _ | exact LeO.none _ | refine LeO.ite ?_ ?_ | refine LeO.bind ?_ (fun _ => ?_)) | exact ih0 _ _ _ | exact LeO.none _ | refine LeO.ite ?_ ?_ | refine LeO.bind ?_ (fun _ => ?_))
theorem spec_l1Put.mono : ∀ a0 a1 k, LeO (spec_l1Put.f k a0 a1) (spec_l1Put.f (k + 1) a0 a1) := by
 intro a0 a1 k
 have ih0 := spec_l1Put.mono_l k
 unfold spec_l1Put.f
 repeat' (first | (with_reducible first | exact ih0 _ _ _ | exact LeO.refl _ | exact LeO.none _ | refine LeO.ite ?_ ?_ | refine LeO.bind ?_ (fun _ => ?_)) | exact ih0 _ _ _ | exact LeO.none _ | refine LeO.ite ?_ ?_ | refine LeO.bind ?_ (fun _ => ?_))
set_option maxHeartbeats 8000000 in
set_option maxRecDepth 100000 in
theorem spec_l1Put.calls (k : Nat) (P0_ : Nat → Prop) (u9000_ : Value) (l0 : List Int) (a1 : Int) (r : List Int) (w0 w : World) (hB : Below w0.heap.size w0 w) (ho0 : Kd.R (Kd.int .i64) 3 w w0.heap.size P0_ u9000_ l0) (h : spec_l1Put.f k l0 a1 = some r) :
  Calls Try.prog 176 #[u9000_, .int .i64 a1] w fun e w' => ∃ v0_ : Value, e = .returned (v0_) ∧ Kd.R (Kd.int .i64) 3 w' w0.heap.size (fun k_ => (P0_ k_ ∨ w.heap.size ≤ k_)) v0_ r ∧ Below w0.heap.size w0 w' ∧ Kept w w' (fun k_ => P0_ k_) := by
 have HO0 := Aside0.mk (show Kd.R (Kd.int .i64) 3 w w0.heap.size (fun k_ => (P0_ k_ ∨ w.heap.size ≤ k_)) u9000_ l0 from Kd.R_mono ho0 (fun k_ hk => (.inl hk)))
 have HK := Aside0.mk (Kept.refl w (fun k_ => P0_ k_))
 have HW0 := Aside0.mk hB.size
 have HB := Aside0.mk hB; clear hB
 have H : (spec_l1Put.l0 k l0 a1 0) = some r := h
 clear h
 have H' := Aside0.mk H
 clear H
 go_enter Try.func176, Try.ntmps176
 go_wp2
 go_loopg [5] k (fun kq v5 w' => ∃ (x5_1 : Int), v5 = .int .i64 x5_1 ∧ Aside0 (spec_l1Put.l0 kq l0 a1 x5_1 = some r) ∧ Aside0 (kq ≤ k) ∧ Aside0 (Kd.R (Kd.int .i64) 3 w' w0.heap.size (fun k_ => (P0_ k_ ∨ w.heap.size ≤ k_)) u9000_ l0) ∧ Aside0 (Kept w w' (fun k_ => P0_ k_)) ∧ Aside0 (Below w0.heap.size w0 w'))
 case atStart => exact ⟨(0), er, H', ⟨Nat.le_refl _⟩, ⟨rdl HO0⟩, ⟨by repeat (first | (with_reducible first | exact HK.out | apply Kept.alloc | apply Kept.drewN | apply Kept.drew) | exact HK.out)⟩, ⟨belowd HB⟩⟩
 case round =>
  clear H'
  obtain ⟨x5_1, rfl, HA, HK1, HO_0, HK, HB⟩ := hrel
  cases gk with
  | zero => exact absurd HA.out (by simp [spec_l1Put.l0])
  | succ k1 =>
   have H := HA.out; clear HA
   simp only [spec_l1Put.l0] at H
   by_cases c3 : x5_1 < (l0.length : Int)
   ·rw [if_pos c3] at H
    have c3b0 : decide (x5_1 < (l0.length : Int)) = true := decide_eq_true c3
    clear c3; replace H := ifS H; obtain ⟨c4, H⟩ := H; have c4b0 := decide_eq_true c4; clear c4
    by_cases c5 : (rd l0 x5_1) < a1
    ·rw [if_pos c5] at H
     have c5b0 : decide ((rd l0 x5_1) < a1) = true := decide_eq_true c5
     clear c5
     have H' := Aside0.mk H
     clear H
     obtain ⟨Ao6, co6, eo6⟩ := Kd.R_slice HO_0.out
     subst eo6
     have p160 : 0 ≤ (x5_1 : Int) := da
     have q160 : x5_1 < (l0.length : Int) := da
     obtain ⟨ad160, e160, hx160_0⟩ := Kd.at_int (Kd.R_reads' HO_0.out).2.2 x5_1 p160 q160
     cases e160
     replace p160 := eq_true p160; replace q160 := eq_true q160; go_wp2
     go_roundg k1
     case measure => have := HK1.out; omega
     case rel => exact ⟨(wrap64 (x5_1 + 1)), er, H', ⟨by have := HK1.out; omega⟩, ⟨rdl HO_0⟩, ⟨by repeat (first | (with_reducible first | exact HK.out | apply Kept.alloc | apply Kept.drewN | apply Kept.drew) | exact HK.out)⟩, ⟨belowd HB⟩⟩
    ·rw [if_neg c5] at H
     have c5b0 : decide ((rd l0 x5_1) < a1) = false := decide_eq_false c5
     clear c5
     by_cases c7 : (rd l0 x5_1) = a1
     ·rw [if_pos c7] at H
      have c7b0 : ((rd l0 x5_1) == a1) = true := beq_iff_eq.mpr c7
      have c7b1 : ((rd l0 x5_1) != a1) = false := bne_eq_false_iff_eq.mpr c7
      clear c7
      obtain rfl := Option.some.inj H
      obtain ⟨Ao8, co8, eo8⟩ := Kd.R_slice HO_0.out
      subst eo8
      have p160 : 0 ≤ (x5_1 : Int) := da
      have q160 : x5_1 < (l0.length : Int) := da
      obtain ⟨ad160, e160, hx160_0⟩ := Kd.at_int (Kd.R_reads' HO_0.out).2.2 x5_1 p160 q160
      cases e160
      replace p160 := eq_true p160; replace q160 := eq_true q160
      have p161 : 0 ≤ (x5_1 : Int) := da
      have q161 : x5_1 < (l0.length : Int) := da
      obtain ⟨ad161, e161, hx161_0⟩ := Kd.at_int (Kd.R_reads' HO_0.out).2.2 x5_1 p161 q161
      obtain rfl : ad160 = ad161 := (by injection e161)
      replace p161 := eq_true p161; replace q161 := eq_true q161; go_wp2
      go_ret
      exact ⟨_, er2, by (with_reducible repeat (first | apply Kd.R_alloc | apply Kd.R_drewN | apply Kd.R_drew)); exact HO_0.out, belowd HB, by repeat (first | (with_reducible first | exact HK.out | apply Kept.alloc | apply Kept.drewN | apply Kept.drew) | exact HK.out)⟩
     ·rw [if_neg c7] at H
      have c7b0 : ((rd l0 x5_1) == a1) = false := beq_eq_false_iff_ne.mpr c7
      have c7b1 : ((rd l0 x5_1) != a1) = true := bne_iff_ne.mpr c7
      obtain ⟨y162, hy_⟩ : ∃ y_ : List Int, y_ = (([] : List Int)) := ⟨_, rfl⟩
      replace H : (if x5_1 ≤ (l0.length : Int) then ((some (l0.take (x5_1 : Int).toNat : List Int)).bind fun y165 => (if y162.length + y165.length < 17592186044416 then ((some (y162 ++ y165 : List Int)).bind fun y169 => (if y169.length < 17592186044416 then ((some (y169 ++ [a1] : List Int)).bind fun y172 => ((some (l0.drop (x5_1 : Int).toNat : List Int)).bind fun y175 => (if y172.length + y175.length < 17592186044416 then (some (y172 ++ y175)) else (none)))) else (none))) else (none))) else (none)) = some r := yH
      have Ny162 := ak hy_; clear hy_
      have c9b0 := eq_true (da : 0 ≤ x5_1)
      replace H := ifS H; obtain ⟨c10, H⟩ := H; have c10b0 := eq_true c10
      have c10b1 : decide (x5_1 ≤ (l0.length : Int)) = true := decide_eq_true c10
      clear c10
      obtain ⟨y165, hy_⟩ : ∃ y_ : List Int, y_ = (l0.take (x5_1 : Int).toNat) := ⟨_, rfl⟩
      replace H : (if y162.length + y165.length < 17592186044416 then ((some (y162 ++ y165 : List Int)).bind fun y169 => (if y169.length < 17592186044416 then ((some (y169 ++ [a1] : List Int)).bind fun y172 => ((some (l0.drop (x5_1 : Int).toNat : List Int)).bind fun y175 => (if y172.length + y175.length < 17592186044416 then (some (y172 ++ y175)) else (none)))) else (none))) else (none)) = some r := yH
      have Ny165 := ak hy_; clear hy_; replace H := ifS H; obtain ⟨c11, H⟩ := H; have LMc11 := Aside0.mk c11; clear c11
      obtain ⟨y169, hy_⟩ : ∃ y_ : List Int, y_ = (y162 ++ y165) := ⟨_, rfl⟩
      replace H : (if y169.length < 17592186044416 then ((some (y169 ++ [a1] : List Int)).bind fun y172 => ((some (l0.drop (x5_1 : Int).toNat : List Int)).bind fun y175 => (if y172.length + y175.length < 17592186044416 then (some (y172 ++ y175)) else (none)))) else (none)) = some r := yH
      have Ny169 := ak hy_; clear hy_; replace H := ifS H; obtain ⟨c12, H⟩ := H; have LMc12 := Aside0.mk c12; clear c12
      obtain ⟨y172, hy_⟩ : ∃ y_ : List Int, y_ = (y169 ++ [a1]) := ⟨_, rfl⟩
      replace H : ((some (l0.drop (x5_1 : Int).toNat : List Int)).bind fun y175 => (if y172.length + y175.length < 17592186044416 then (some (y172 ++ y175)) else (none))) = some r := yH
      have Ny172 := ak hy_; clear hy_
      have c13b0 := eq_true (da : 0 ≤ x5_1)
      have c14b0 := eq_true (da : x5_1 ≤ (l0.length : Int))
      obtain ⟨y175, hy_⟩ : ∃ y_ : List Int, y_ = (l0.drop (x5_1 : Int).toNat) := ⟨_, rfl⟩
      replace H : (if y172.length + y175.length < 17592186044416 then (some (y172 ++ y175)) else (none)) = some r := yH
      have Ny175 := ak hy_; clear hy_; replace H := ifS H; obtain ⟨c15, H⟩ := H; have LMc15 := Aside0.mk c15; clear c15
      obtain ⟨y179, hy_⟩ : ∃ y_ : List Int, y_ = (y172 ++ y175) := ⟨_, rfl⟩
      replace H : (some y179) = some r := yH
      have Ny179 := ak hy_; clear hy_
      obtain rfl := Option.some.inj H
      obtain ⟨Ao16, co16, eo16⟩ := Kd.R_slice HO_0.out
      subst eo16
      have p160 : 0 ≤ (x5_1 : Int) := da
      have q160 : x5_1 < (l0.length : Int) := da
      obtain ⟨ad160, e160, hx160_0⟩ := Kd.at_int (Kd.R_reads' HO_0.out).2.2 x5_1 p160 q160
      cases e160
      replace p160 := eq_true p160; replace q160 := eq_true q160
      have p161 : 0 ≤ (x5_1 : Int) := da
      have q161 : x5_1 < (l0.length : Int) := da
      obtain ⟨ad161, e161, hx161_0⟩ := Kd.at_int (Kd.R_reads' HO_0.out).2.2 x5_1 p161 q161
      obtain rfl : ad160 = ad161 := (by injection e161)
      replace p161 := eq_true p161; replace q161 := eq_true q161
      go_wp2_with (first | ((with_reducible refine gate_dst (N := 34) rfl ?_); refine Kd.R_lit (Kd.int .i64) _ 3 ?hg (N := 34) ?hd (xs := ([] : List Int)) (inner := []) (ok := fun _ => True) (okp := fun _ => True) ?hr ?hp (fun _ hk => hk) trivial (Below.refl _ _) (Nat.le_refl _) (by simp) ?_; (case hd => rfl); (case hg => rfl); (case hr => first | (go_simp; done) | (go_simp; rfl)); (case hp => exact (Reps.none _ _)); intro v163 w17 ho18 hb hg_ hnew_; clear hg_ hnew_; (first | rw [← Ny162.out] at ho18 | (simp only [Int.reduceToNat] at ho18; rw [← Ny162.out] at ho18)); have HO164 := ak (Kd.R_lower (Kd.R_new' (Kd.R_newM (M := fun k_ => (P0_ k_ ∨ w.heap.size ≤ k_)) ho18 (by first | exact HK.out.1 | exact (show Kept w _ (fun k_ => P0_ k_) from by repeat (first | (with_reducible first | exact HK.out | apply Kept.alloc | apply Kept.drewN | apply Kept.drew) | exact HK.out)).1) (fun k_ h_ => .inr h_)) (Kd.R_lt (rdl HO_0))) (below_size (belowd HB))); replace HO_0 := ak (Kd.R_elder' (rdl HO_0) (Kd.R_base ho18) hb); replace HK := ak (Kept.below (S := (fun k_ => P0_ k_)) (by repeat (first | (with_reducible first | exact HK.out | apply Kept.alloc | apply Kept.drewN | apply Kept.drew) | exact HK.out)) hb); replace HB := ak (below_step (belowd HB) hb); clear hb ho18; have q19 : (x5_1 : Int) ≤ ((l0.length : Int) : Int) := da; obtain ⟨i019, hi019, _, hsz19, _⟩ := info_parts info3; have hroom19 : l0.length ≤ co16 := (Kd.R_reads' HO_0.out).2.1; have hC19 : Kd.C (Kd.int .i64) _ (some ad160) l0.length l0 := (Kd.R_reads' HO_0.out).2.2; have hcut19 := cut_to (P := Try.prog) 23 3 .i64 Try.underlying23 hi019 (some ad160) l0.length co16 x5_1 (da) q19 hroom19; have hr19 := Kd.C_take (m := (x5_1 : Int).toNat) hC19 (by omega); have hy19 : y165.length = (x5_1 : Int).toNat := (by rw [Ny165.out, List.length_take]; omega); rw [← Ny165.out] at hr19; rw [← hy19] at hcut19; have HR168 := Aside0.mk hr19; have HC168 := Aside0.mk (show y165.length ≤ co16 from by omega); clear hr19 hC19 hroom19 hi019 hsz19; have KY19 := Aside0.mk hy19; clear hy19; have KL19 := Aside0.mk (show (x5_1 : Int).toNat ≤ l0.length from by omega); replace q19 := eq_true q19) | ((with_reducible refine gate_builtin (b := .append) (xs := #[.tmp 34, .tmp 37]) rfl ?_); at_builtin; refine Kd.R_append_rows (Kd.int .i64) (w0 := w0) w0.heap.size rfl (.tmp 34) (.tmp 37) 23 3 (.int .i64 0) 8 rfl Try.underlying23 info3 rfl (by decide) (by omega) v163 y162 y165 _ _ _ (fun k_ => (P0_ k_ ∨ w.heap.size ≤ k_) ∧ some k_ ≠ (.slice (some ad160) l0.length co16 : Value).ownBlock) (fun _ => False) rfl rfl ?aO ?aR (fun _ _ h => h) (fun _ h => h.elim) ?aF ?aB ?aS ?aL ?_; (case aR => exact cd (by repeat (first | (with_reducible exact HR168.out) | (with_reducible refine Kd.C_alloc ?_ _) | (with_reducible refine Kd.C_drewN ?_ _) | (with_reducible refine Kd.C_drew ?_) | exact HR168.out))); (case aB => exact (belowd HB)); (case aF => exact (fun k_ hk => ⟨(.inr (Nat.le_trans (by first | exact HK.out.1 | exact (show Kept w _ (fun k_ => P0_ k_) from by repeat (first | (with_reducible first | exact HK.out | apply Kept.alloc | apply Kept.drewN | apply Kept.drew) | exact HK.out)).1) hk)), Kd.fresh' (Kd.R_lt (rdl HO_0)) k_ hk⟩)); (case aO => exact (by (with_reducible repeat (first | apply Kd.R_alloc | apply Kd.R_drewN | apply Kd.R_drew)); exact Kd.R_mono HO164.out (fun _ hk => ⟨hk.1.1, hk.2⟩))); (case aS => exact (below_size (belowd HB))); (case aL => have := LMc11.out; omega); intro v170 w20 ho hb hg hat; rw [← Ny169.out] at ho; replace HB := ak (hb); replace HK := ak (Kept.of_grown (S := (fun k_ => P0_ k_)) hg (by repeat (first | (with_reducible first | exact HK.out | apply Kept.alloc | apply Kept.drewN | apply Kept.drew) | exact HK.out)) (fun k_ e_ => (HO164.out.1 k_ e_).1.1)); replace HR168 := ak ((show Kd.C (Kd.int .i64) w20 (some ad160) y165.length y165 from by rw [Ny165.out]; exact Kd.C_take (m := (x5_1 : Int).toNat) ((Kd.R_reads' (Kd.R_after (ok := (fun k_ => (P0_ k_ ∨ w.heap.size ≤ k_))) (rdl HO_0) hg hat)).2.2) KL19.out)); replace HO_0 := ak (Kd.R_after (ok := (fun k_ => (P0_ k_ ∨ w.heap.size ≤ k_))) (rdl HO_0) hg hat); have HO171 := ak (ho); clear HO164; clear ho hb hg hat) | ((with_reducible refine gate_builtin (b := .append) (xs := #[.tmp 39, .tmp 41]) rfl ?_); at_builtin; refine Kd.R_append (Kd.int .i64) (w0 := w0) w0.heap.size rfl (.tmp 39) (.tmp 41) 23 3 (.int .i64 0) 8 rfl Try.underlying23 info3 rfl (by decide) (by omega) v170 y169 a1 [.int .i64 a1] (fun k_ => (P0_ k_ ∨ w.heap.size ≤ k_) ∧ some k_ ≠ (.slice (some ad160) l0.length co16 : Value).ownBlock) (fun _ => False) rfl rfl ?aP (fun _ hk => hk.elim) ?aF ?aO ?aB ?aS ?aL ?_; (case aP => exact rfl); (case aB => exact (belowd HB)); (case aF => exact (fun k_ hk => ⟨(.inr (Nat.le_trans (by first | exact HK.out.1 | exact (show Kept w _ (fun k_ => P0_ k_) from by repeat (first | (with_reducible first | exact HK.out | apply Kept.alloc | apply Kept.drewN | apply Kept.drew) | exact HK.out)).1) hk)), Kd.fresh' (Kd.R_lt (rdl HO_0)) k_ hk⟩)); (case aO => exact (rdl HO171)); (case aS => exact (below_size (belowd HB))); (case aL => have := LMc12.out; omega); intro v173 w21 ho hb hg hat; rw [← Ny172.out] at ho; replace HB := ak (hb); replace HK := ak (Kept.of_grown (S := (fun k_ => P0_ k_)) hg (by repeat (first | (with_reducible first | exact HK.out | apply Kept.alloc | apply Kept.drewN | apply Kept.drew) | exact HK.out)) (fun k_ e_ => (HO171.out.1 k_ e_).1)); replace HR168 := ak ((show Kd.C (Kd.int .i64) w21 (some ad160) y165.length y165 from by rw [Ny165.out]; exact Kd.C_take (m := (x5_1 : Int).toNat) ((Kd.R_reads' (Kd.R_after (ok := (fun k_ => (P0_ k_ ∨ w.heap.size ≤ k_))) (rdl HO_0) hg hat)).2.2) KL19.out)); replace HO_0 := ak (Kd.R_after (ok := (fun k_ => (P0_ k_ ∨ w.heap.size ≤ k_))) (rdl HO_0) hg hat); have HO174 := ak (ho); clear HO171; clear ho hb hg hat; have q22 : (x5_1 : Int) ≤ ((l0.length : Int) : Int) := da; obtain ⟨i022, hi022, _, hsz22, _⟩ := info_parts info3; have hroom22 : l0.length ≤ co16 := (Kd.R_reads' HO_0.out).2.1; have hC22 : Kd.C (Kd.int .i64) _ (some ad160) l0.length l0 := (Kd.R_reads' HO_0.out).2.2; have q022 : (0 : Int) ≤ (x5_1 : Int) := da; have hcut22 := cut_from (P := Try.prog) 23 3 .i64 Try.underlying23 hi022 1 hsz22 (some ad160) l0.length co16 x5_1 q022 q22; have hr22 := Kd.C_drop (m := (x5_1 : Int).toNat) (c := co16) hC22 (by omega) hroom22; obtain ⟨A22, hA22⟩ : ∃ A1, A1 = (if co16 = (x5_1 : Int).toNat then (some ad160) else ((some ad160) : Option Addr).map (·.add ((x5_1 : Int).toNat * 1))) := ⟨_, rfl⟩; obtain ⟨c22, hc22⟩ : ∃ c1, c1 = co16 - (x5_1 : Int).toNat := ⟨_, rfl⟩; have hy22 : y175.length = l0.length - (x5_1 : Int).toNat := (by rw [Ny175.out, List.length_drop] <;> omega); rw [show (l0).drop (x5_1 : Int).toNat = y175 from Ny175.out.symm] at hr22; replace hr22 : Kd.C (Kd.int .i64) _ A22 y175.length y175 := (by rw [hA22]; exact hr22); rw [← hy22, ← hA22, ← hc22] at hcut22; have HR178 := Aside0.mk hr22; have HC178 := Aside0.mk (show y175.length ≤ c22 from by rw [hy22, hc22]; exact Nat.sub_le_sub_right hroom22 _); clear hr22 hC22 hroom22 hi022 hsz22 hc22; have KY22 := Aside0.mk hy22; have KA22 := Aside0.mk hA22; clear hy22 hA22; have KL22 := Aside0.mk (show (x5_1 : Int).toNat ≤ l0.length from by omega); replace q22 := eq_true q22) | ((with_reducible refine gate_builtin (b := .append) (xs := #[.tmp 43, .tmp 46]) rfl ?_); at_builtin; refine Kd.R_append_rows (Kd.int .i64) (w0 := w0) w0.heap.size rfl (.tmp 43) (.tmp 46) 23 3 (.int .i64 0) 8 rfl Try.underlying23 info3 rfl (by decide) (by omega) v173 y172 y175 _ _ _ (fun k_ => (P0_ k_ ∨ w.heap.size ≤ k_) ∧ some k_ ≠ (.slice (some ad160) l0.length co16 : Value).ownBlock) (fun _ => False) rfl rfl ?aO ?aR (fun _ _ h => h) (fun _ h => h.elim) ?aF ?aB ?aS ?aL ?_; (case aR => exact cd (by repeat (first | (with_reducible exact HR178.out) | (with_reducible refine Kd.C_alloc ?_ _) | (with_reducible refine Kd.C_drewN ?_ _) | (with_reducible refine Kd.C_drew ?_) | exact HR178.out))); (case aB => exact (belowd HB)); (case aF => exact (fun k_ hk => ⟨(.inr (Nat.le_trans (by first | exact HK.out.1 | exact (show Kept w _ (fun k_ => P0_ k_) from by repeat (first | (with_reducible first | exact HK.out | apply Kept.alloc | apply Kept.drewN | apply Kept.drew) | exact HK.out)).1) hk)), Kd.fresh' (Kd.R_lt (rdl HO_0)) k_ hk⟩)); (case aO => exact (rdl HO174)); (case aS => exact (below_size (belowd HB))); (case aL => have := LMc15.out; omega); intro v180 w23 ho hb hg hat; rw [← Ny179.out] at ho; replace HB := ak (hb); replace HK := ak (Kept.of_grown (S := (fun k_ => P0_ k_)) hg (by repeat (first | (with_reducible first | exact HK.out | apply Kept.alloc | apply Kept.drewN | apply Kept.drew) | exact HK.out)) (fun k_ e_ => (HO174.out.1 k_ e_).1)); replace HR168 := ak ((show Kd.C (Kd.int .i64) w23 (some ad160) y165.length y165 from by rw [Ny165.out]; exact Kd.C_take (m := (x5_1 : Int).toNat) ((Kd.R_reads' (Kd.R_after (ok := (fun k_ => (P0_ k_ ∨ w.heap.size ≤ k_))) (rdl HO_0) hg hat)).2.2) KL19.out)); replace HR178 := ak ((show Kd.C (Kd.int .i64) w23 A22 y175.length y175 from by rw [Ny175.out, KA22.out]; exact Kd.C_drop (m := (x5_1 : Int).toNat) (c := co16) ((Kd.R_reads' (Kd.R_after (ok := (fun k_ => (P0_ k_ ∨ w.heap.size ≤ k_))) (rdl HO_0) hg hat)).2.2) KL22.out ((Kd.R_reads' (Kd.R_after (ok := (fun k_ => (P0_ k_ ∨ w.heap.size ≤ k_))) (rdl HO_0) hg hat)).2.1))); replace HO_0 := ak (Kd.R_after (ok := (fun k_ => (P0_ k_ ∨ w.heap.size ≤ k_))) (rdl HO_0) hg hat); have HO181 := ak (ho); clear HO174; clear ho hb hg hat))
      go_ret
      exact ⟨_, er2, by (with_reducible repeat (first | apply Kd.R_alloc | apply Kd.R_drewN | apply Kd.R_drew)); exact Kd.R_mono HO181.out (fun _ hk => hk.1), belowd HB, by repeat (first | (with_reducible first | exact HK.out | apply Kept.alloc | apply Kept.drewN | apply Kept.drew) | exact HK.out)⟩
   ·rw [if_neg c3] at H
    have c3b0 : decide (x5_1 < (l0.length : Int)) = false := decide_eq_false c3
    clear c3
    obtain ⟨y182, hy_⟩ : ∃ y_ : List Int, y_ = (([] : List Int)) := ⟨_, rfl⟩
    replace H : (if 0 ≤ x5_1 then (if x5_1 ≤ (l0.length : Int) then ((some (l0.take (x5_1 : Int).toNat : List Int)).bind fun y185 => (if y182.length + y185.length < 17592186044416 then ((some (y182 ++ y185 : List Int)).bind fun y189 => (if y189.length < 17592186044416 then ((some (y189 ++ [a1] : List Int)).bind fun y192 => ((some (l0.drop (x5_1 : Int).toNat : List Int)).bind fun y195 => (if y192.length + y195.length < 17592186044416 then (some (y192 ++ y195)) else (none)))) else (none))) else (none))) else (none)) else (none)) = some r := yH
    have Ny182 := ak hy_; clear hy_; replace H := ifS H; obtain ⟨c24, H⟩ := H; have c24b0 := eq_true c24
    have c24b1 : decide (0 ≤ x5_1) = true := decide_eq_true c24
    clear c24; replace H := ifS H; obtain ⟨c25, H⟩ := H; have c25b0 := eq_true c25
    have c25b1 : decide (x5_1 ≤ (l0.length : Int)) = true := decide_eq_true c25
    clear c25
    obtain ⟨y185, hy_⟩ : ∃ y_ : List Int, y_ = (l0.take (x5_1 : Int).toNat) := ⟨_, rfl⟩
    replace H : (if y182.length + y185.length < 17592186044416 then ((some (y182 ++ y185 : List Int)).bind fun y189 => (if y189.length < 17592186044416 then ((some (y189 ++ [a1] : List Int)).bind fun y192 => ((some (l0.drop (x5_1 : Int).toNat : List Int)).bind fun y195 => (if y192.length + y195.length < 17592186044416 then (some (y192 ++ y195)) else (none)))) else (none))) else (none)) = some r := yH
    have Ny185 := ak hy_; clear hy_; replace H := ifS H; obtain ⟨c26, H⟩ := H; have LMc26 := Aside0.mk c26; clear c26
    obtain ⟨y189, hy_⟩ : ∃ y_ : List Int, y_ = (y182 ++ y185) := ⟨_, rfl⟩
    replace H : (if y189.length < 17592186044416 then ((some (y189 ++ [a1] : List Int)).bind fun y192 => ((some (l0.drop (x5_1 : Int).toNat : List Int)).bind fun y195 => (if y192.length + y195.length < 17592186044416 then (some (y192 ++ y195)) else (none)))) else (none)) = some r := yH
    have Ny189 := ak hy_; clear hy_; replace H := ifS H; obtain ⟨c27, H⟩ := H; have LMc27 := Aside0.mk c27; clear c27
    obtain ⟨y192, hy_⟩ : ∃ y_ : List Int, y_ = (y189 ++ [a1]) := ⟨_, rfl⟩
    replace H : ((some (l0.drop (x5_1 : Int).toNat : List Int)).bind fun y195 => (if y192.length + y195.length < 17592186044416 then (some (y192 ++ y195)) else (none))) = some r := yH
    have Ny192 := ak hy_; clear hy_
    have c28b0 := eq_true (da : 0 ≤ x5_1)
    have c29b0 := eq_true (da : x5_1 ≤ (l0.length : Int))
    obtain ⟨y195, hy_⟩ : ∃ y_ : List Int, y_ = (l0.drop (x5_1 : Int).toNat) := ⟨_, rfl⟩
    replace H : (if y192.length + y195.length < 17592186044416 then (some (y192 ++ y195)) else (none)) = some r := yH
    have Ny195 := ak hy_; clear hy_; replace H := ifS H; obtain ⟨c30, H⟩ := H; have LMc30 := Aside0.mk c30; clear c30
    obtain ⟨y199, hy_⟩ : ∃ y_ : List Int, y_ = (y192 ++ y195) := ⟨_, rfl⟩
    replace H : (some y199) = some r := yH
    have Ny199 := ak hy_; clear hy_
    obtain rfl := Option.some.inj H
    obtain ⟨Ao31, co31, eo31⟩ := Kd.R_slice HO_0.out
    subst eo31
    go_wp2_with (first | ((with_reducible refine gate_dst (N := 34) rfl ?_); refine Kd.R_lit (Kd.int .i64) _ 3 ?hg (N := 34) ?hd (xs := ([] : List Int)) (inner := []) (ok := fun _ => True) (okp := fun _ => True) ?hr ?hp (fun _ hk => hk) trivial (Below.refl _ _) (Nat.le_refl _) (by simp) ?_; (case hd => rfl); (case hg => rfl); (case hr => first | (go_simp; done) | (go_simp; rfl)); (case hp => exact (Reps.none _ _)); intro v183 w32 ho33 hb hg_ hnew_; clear hg_ hnew_; (first | rw [← Ny182.out] at ho33 | (simp only [Int.reduceToNat] at ho33; rw [← Ny182.out] at ho33)); have HO184 := ak (Kd.R_lower (Kd.R_new' (Kd.R_newM (M := fun k_ => (P0_ k_ ∨ w.heap.size ≤ k_)) ho33 (by first | exact HK.out.1 | exact (show Kept w _ (fun k_ => P0_ k_) from by repeat (first | (with_reducible first | exact HK.out | apply Kept.alloc | apply Kept.drewN | apply Kept.drew) | exact HK.out)).1) (fun k_ h_ => .inr h_)) (Kd.R_lt (rdl HO_0))) (below_size (belowd HB))); replace HO_0 := ak (Kd.R_elder' (rdl HO_0) (Kd.R_base ho33) hb); replace HK := ak (Kept.below (S := (fun k_ => P0_ k_)) (by repeat (first | (with_reducible first | exact HK.out | apply Kept.alloc | apply Kept.drewN | apply Kept.drew) | exact HK.out)) hb); replace HB := ak (below_step (belowd HB) hb); clear hb ho33; have q34 : (x5_1 : Int) ≤ ((l0.length : Int) : Int) := da; obtain ⟨i034, hi034, _, hsz34, _⟩ := info_parts info3; have hroom34 : l0.length ≤ co31 := (Kd.R_reads' HO_0.out).2.1; have hC34 : Kd.C (Kd.int .i64) _ Ao31 l0.length l0 := (Kd.R_reads' HO_0.out).2.2; have hcut34 := cut_to (P := Try.prog) 23 3 .i64 Try.underlying23 hi034 Ao31 l0.length co31 x5_1 (da) q34 hroom34; have hr34 := Kd.C_take (m := (x5_1 : Int).toNat) hC34 (by omega); have hy34 : y185.length = (x5_1 : Int).toNat := (by rw [Ny185.out, List.length_take]; omega); rw [← Ny185.out] at hr34; rw [← hy34] at hcut34; have HR188 := Aside0.mk hr34; have HC188 := Aside0.mk (show y185.length ≤ co31 from by omega); clear hr34 hC34 hroom34 hi034 hsz34; have KY34 := Aside0.mk hy34; clear hy34; have KL34 := Aside0.mk (show (x5_1 : Int).toNat ≤ l0.length from by omega); replace q34 := eq_true q34) | ((with_reducible refine gate_builtin (b := .append) (xs := #[.tmp 34, .tmp 37]) rfl ?_); at_builtin; refine Kd.R_append_rows (Kd.int .i64) (w0 := w0) w0.heap.size rfl (.tmp 34) (.tmp 37) 23 3 (.int .i64 0) 8 rfl Try.underlying23 info3 rfl (by decide) (by omega) v183 y182 y185 _ _ _ (fun k_ => (P0_ k_ ∨ w.heap.size ≤ k_) ∧ some k_ ≠ (.slice Ao31 l0.length co31 : Value).ownBlock) (fun _ => False) rfl rfl ?aO ?aR (fun _ _ h => h) (fun _ h => h.elim) ?aF ?aB ?aS ?aL ?_; (case aR => exact cd (by repeat (first | (with_reducible exact HR188.out) | (with_reducible refine Kd.C_alloc ?_ _) | (with_reducible refine Kd.C_drewN ?_ _) | (with_reducible refine Kd.C_drew ?_) | exact HR188.out))); (case aB => exact (belowd HB)); (case aF => exact (fun k_ hk => ⟨(.inr (Nat.le_trans (by first | exact HK.out.1 | exact (show Kept w _ (fun k_ => P0_ k_) from by repeat (first | (with_reducible first | exact HK.out | apply Kept.alloc | apply Kept.drewN | apply Kept.drew) | exact HK.out)).1) hk)), Kd.fresh' (Kd.R_lt (rdl HO_0)) k_ hk⟩)); (case aO => exact (by (with_reducible repeat (first | apply Kd.R_alloc | apply Kd.R_drewN | apply Kd.R_drew)); exact Kd.R_mono HO184.out (fun _ hk => ⟨hk.1.1, hk.2⟩))); (case aS => exact (below_size (belowd HB))); (case aL => have := LMc26.out; omega); intro v190 w35 ho hb hg hat; rw [← Ny189.out] at ho; replace HB := ak (hb); replace HK := ak (Kept.of_grown (S := (fun k_ => P0_ k_)) hg (by repeat (first | (with_reducible first | exact HK.out | apply Kept.alloc | apply Kept.drewN | apply Kept.drew) | exact HK.out)) (fun k_ e_ => (HO184.out.1 k_ e_).1.1)); replace HR188 := ak ((show Kd.C (Kd.int .i64) w35 Ao31 y185.length y185 from by rw [Ny185.out]; exact Kd.C_take (m := (x5_1 : Int).toNat) ((Kd.R_reads' (Kd.R_after (ok := (fun k_ => (P0_ k_ ∨ w.heap.size ≤ k_))) (rdl HO_0) hg hat)).2.2) KL34.out)); replace HO_0 := ak (Kd.R_after (ok := (fun k_ => (P0_ k_ ∨ w.heap.size ≤ k_))) (rdl HO_0) hg hat); have HO191 := ak (ho); clear HO184; clear ho hb hg hat) | ((with_reducible refine gate_builtin (b := .append) (xs := #[.tmp 39, .tmp 41]) rfl ?_); at_builtin; refine Kd.R_append (Kd.int .i64) (w0 := w0) w0.heap.size rfl (.tmp 39) (.tmp 41) 23 3 (.int .i64 0) 8 rfl Try.underlying23 info3 rfl (by decide) (by omega) v190 y189 a1 [.int .i64 a1] (fun k_ => (P0_ k_ ∨ w.heap.size ≤ k_) ∧ some k_ ≠ (.slice Ao31 l0.length co31 : Value).ownBlock) (fun _ => False) rfl rfl ?aP (fun _ hk => hk.elim) ?aF ?aO ?aB ?aS ?aL ?_; (case aP => exact rfl); (case aB => exact (belowd HB)); (case aF => exact (fun k_ hk => ⟨(.inr (Nat.le_trans (by first | exact HK.out.1 | exact (show Kept w _ (fun k_ => P0_ k_) from by repeat (first | (with_reducible first | exact HK.out | apply Kept.alloc | apply Kept.drewN | apply Kept.drew) | exact HK.out)).1) hk)), Kd.fresh' (Kd.R_lt (rdl HO_0)) k_ hk⟩)); (case aO => exact (rdl HO191)); (case aS => exact (below_size (belowd HB))); (case aL => have := LMc27.out; omega); intro v193 w36 ho hb hg hat; rw [← Ny192.out] at ho; replace HB := ak (hb); replace HK := ak (Kept.of_grown (S := (fun k_ => P0_ k_)) hg (by repeat (first | (with_reducible first | exact HK.out | apply Kept.alloc | apply Kept.drewN | apply Kept.drew) | exact HK.out)) (fun k_ e_ => (HO191.out.1 k_ e_).1)); replace HR188 := ak ((show Kd.C (Kd.int .i64) w36 Ao31 y185.length y185 from by rw [Ny185.out]; exact Kd.C_take (m := (x5_1 : Int).toNat) ((Kd.R_reads' (Kd.R_after (ok := (fun k_ => (P0_ k_ ∨ w.heap.size ≤ k_))) (rdl HO_0) hg hat)).2.2) KL34.out)); replace HO_0 := ak (Kd.R_after (ok := (fun k_ => (P0_ k_ ∨ w.heap.size ≤ k_))) (rdl HO_0) hg hat); have HO194 := ak (ho); clear HO191; clear ho hb hg hat; have q37 : (x5_1 : Int) ≤ ((l0.length : Int) : Int) := da; obtain ⟨i037, hi037, _, hsz37, _⟩ := info_parts info3; have hroom37 : l0.length ≤ co31 := (Kd.R_reads' HO_0.out).2.1; have hC37 : Kd.C (Kd.int .i64) _ Ao31 l0.length l0 := (Kd.R_reads' HO_0.out).2.2; have q037 : (0 : Int) ≤ (x5_1 : Int) := da; have hcut37 := cut_from (P := Try.prog) 23 3 .i64 Try.underlying23 hi037 1 hsz37 Ao31 l0.length co31 x5_1 q037 q37; have hr37 := Kd.C_drop (m := (x5_1 : Int).toNat) (c := co31) hC37 (by omega) hroom37; obtain ⟨A37, hA37⟩ : ∃ A1, A1 = (if co31 = (x5_1 : Int).toNat then Ao31 else (Ao31 : Option Addr).map (·.add ((x5_1 : Int).toNat * 1))) := ⟨_, rfl⟩; obtain ⟨c37, hc37⟩ : ∃ c1, c1 = co31 - (x5_1 : Int).toNat := ⟨_, rfl⟩; have hy37 : y195.length = l0.length - (x5_1 : Int).toNat := (by rw [Ny195.out, List.length_drop] <;> omega); rw [show (l0).drop (x5_1 : Int).toNat = y195 from Ny195.out.symm] at hr37; replace hr37 : Kd.C (Kd.int .i64) _ A37 y195.length y195 := (by rw [hA37]; exact hr37); rw [← hy37, ← hA37, ← hc37] at hcut37; have HR198 := Aside0.mk hr37; have HC198 := Aside0.mk (show y195.length ≤ c37 from by rw [hy37, hc37]; exact Nat.sub_le_sub_right hroom37 _); clear hr37 hC37 hroom37 hi037 hsz37 hc37; have KY37 := Aside0.mk hy37; have KA37 := Aside0.mk hA37; clear hy37 hA37; have KL37 := Aside0.mk (show (x5_1 : Int).toNat ≤ l0.length from by omega); replace q37 := eq_true q37) | ((with_reducible refine gate_builtin (b := .append) (xs := #[.tmp 43, .tmp 46]) rfl ?_); at_builtin; refine Kd.R_append_rows (Kd.int .i64) (w0 := w0) w0.heap.size rfl (.tmp 43) (.tmp 46) 23 3 (.int .i64 0) 8 rfl Try.underlying23 info3 rfl (by decide) (by omega) v193 y192 y195 _ _ _ (fun k_ => (P0_ k_ ∨ w.heap.size ≤ k_) ∧ some k_ ≠ (.slice Ao31 l0.length co31 : Value).ownBlock) (fun _ => False) rfl rfl ?aO ?aR (fun _ _ h => h) (fun _ h => h.elim) ?aF ?aB ?aS ?aL ?_; (case aR => exact cd (by repeat (first | (with_reducible exact HR198.out) | (with_reducible refine Kd.C_alloc ?_ _) | (with_reducible refine Kd.C_drewN ?_ _) | (with_reducible refine Kd.C_drew ?_) | exact HR198.out))); (case aB => exact (belowd HB)); (case aF => exact (fun k_ hk => ⟨(.inr (Nat.le_trans (by first | exact HK.out.1 | exact (show Kept w _ (fun k_ => P0_ k_) from by repeat (first | (with_reducible first | exact HK.out | apply Kept.alloc | apply Kept.drewN | apply Kept.drew) | exact HK.out)).1) hk)), Kd.fresh' (Kd.R_lt (rdl HO_0)) k_ hk⟩)); (case aO => exact (rdl HO194)); (case aS => exact (below_size (belowd HB))); (case aL => have := LMc30.out; omega); intro v200 w38 ho hb hg hat; rw [← Ny199.out] at ho; replace HB := ak (hb); replace HK := ak (Kept.of_grown (S := (fun k_ => P0_ k_)) hg (by repeat (first | (with_reducible first | exact HK.out | apply Kept.alloc | apply Kept.drewN | apply Kept.drew) | exact HK.out)) (fun k_ e_ => (HO194.out.1 k_ e_).1)); replace HR188 := ak ((show Kd.C (Kd.int .i64) w38 Ao31 y185.length y185 from by rw [Ny185.out]; exact Kd.C_take (m := (x5_1 : Int).toNat) ((Kd.R_reads' (Kd.R_after (ok := (fun k_ => (P0_ k_ ∨ w.heap.size ≤ k_))) (rdl HO_0) hg hat)).2.2) KL34.out)); replace HR198 := ak ((show Kd.C (Kd.int .i64) w38 A37 y195.length y195 from by rw [Ny195.out, KA37.out]; exact Kd.C_drop (m := (x5_1 : Int).toNat) (c := co31) ((Kd.R_reads' (Kd.R_after (ok := (fun k_ => (P0_ k_ ∨ w.heap.size ≤ k_))) (rdl HO_0) hg hat)).2.2) KL37.out ((Kd.R_reads' (Kd.R_after (ok := (fun k_ => (P0_ k_ ∨ w.heap.size ≤ k_))) (rdl HO_0) hg hat)).2.1))); replace HO_0 := ak (Kd.R_after (ok := (fun k_ => (P0_ k_ ∨ w.heap.size ≤ k_))) (rdl HO_0) hg hat); have HO201 := ak (ho); clear HO194; clear ho hb hg hat))
    go_ret
    exact ⟨_, er2, by (with_reducible repeat (first | apply Kd.R_alloc | apply Kd.R_drewN | apply Kd.R_drew)); exact Kd.R_mono HO201.out (fun _ hk => hk.1), belowd HB, by repeat (first | (with_reducible first | exact HK.out | apply Kept.alloc | apply Kept.drewN | apply Kept.drew) | exact HK.out)⟩

/-! ### spec_l8Put: function 96 -/
def spec_l8Put.j0 : Nat → ByteArray → List Int → Bool → List ByteArray → Int → Int → Int → Option (List ByteArray × Int × Int × Int × List Int × Int)
  | 0, _, _, _, _, _, _, _ => none
  | k + 1, x1, x7, x21, x203000, x203001, x203002, x203003 => if x21 = true then (some (x203000, x203001, x203002, x203003, x7, 2)) else ((spec_l8Place.f k x203000 x1).bind fun t206 => ((spec_l8Tag.f k x1).bind fun t209 => ((spec_l1Put.f k x7 t209).bind fun t210 => (some (t206, x203001, x203002, x203003, t210, 0)))))
def spec_l8Put.f (k : Nat) (l0_0 : List ByteArray) (a0_1 : Int) (a0_2 : Int) (a0_3 : Int) (l0_4 : List Int) (a1 : ByteArray) : Option (List ByteArray × Int × Int × Int × List Int × Int) := (spec_l8Tag.f k a1).bind fun t204 => ((spec_l1Has.f k l0_4 t204).bind fun t205 => (if t205 = true then (some (l0_0, a0_1, a0_2, a0_3, l0_4, 1)) else (if (l0_0.length : Int) = 12 then (spec_l8Put.j0 k a1 l0_4 true l0_0 a0_1 a0_2 a0_3) else (spec_l8Put.j0 k a1 l0_4 ((l0_4.length : Int) == 100) l0_0 a0_1 a0_2 a0_3))))
theorem spec_l8Put.mono_l : ∀ k, (∀ y0 y1 y2 y3 y4 y5 y6, LeO (spec_l8Put.j0 k y0 y1 y2 y3 y4 y5 y6) (spec_l8Put.j0 (k + 1) y0 y1 y2 y3 y4 y5 y6))
 | 0 => fun _ _ _ _ _ _ _ r h => by simp [spec_l8Put.j0] at h
 | k + 1 => by
  have ih0 := spec_l8Put.mono_l k
  ·intro y0 y1 y2 y3 y4 y5 y6
   unfold spec_l8Put.j0
   repeat' (first | (with_reducible first | exact ih0 _ _ _ _ _ _ _ | exact spec_l1Has.mono _ _ _ | exact spec_l1Put.mono _ _ _ | exact spec_l8Place.mono _ _ _ | exact spec_l8Tag.mono _ _ | exact LeO.refl _ | exact LeO.none _ | refine LeO.ite ?_ ?_ | refine LeO.bind ?_ (fun _ => ?_)) | exact ih0 _ _ _ _ _ _ _ | exact spec_l1Has.mono _ _ _ | exact spec_l1Put.mono _ _ _ | exact spec_l8Place.mono _ _ _ | exact spec_l8Tag.mono _ _ | exact LeO.none _ | refine LeO.ite ?_ ?_ | refine LeO.bind ?_ (fun _ => ?_))
theorem spec_l8Put.mono : ∀ a0 a1 a2 a3 a4 a5 k, LeO (spec_l8Put.f k a0 a1 a2 a3 a4 a5) (spec_l8Put.f (k + 1) a0 a1 a2 a3 a4 a5) := by
 intro a0 a1 a2 a3 a4 a5 k
 have ih0 := spec_l8Put.mono_l k
 unfold spec_l8Put.f
 repeat' (first | (with_reducible first | exact ih0 _ _ _ _ _ _ _ | exact spec_l1Has.mono _ _ _ | exact spec_l1Put.mono _ _ _ | exact spec_l8Place.mono _ _ _ | exact spec_l8Tag.mono _ _ | exact LeO.refl _ | exact LeO.none _ | refine LeO.ite ?_ ?_ | refine LeO.bind ?_ (fun _ => ?_)) | exact ih0 _ _ _ _ _ _ _ | exact spec_l1Has.mono _ _ _ | exact spec_l1Put.mono _ _ _ | exact spec_l8Place.mono _ _ _ | exact spec_l8Tag.mono _ _ | exact LeO.none _ | refine LeO.ite ?_ ?_ | refine LeO.bind ?_ (fun _ => ?_))
set_option maxHeartbeats 8000000 in
set_option maxRecDepth 100000 in
theorem spec_l8Put.calls (k : Nat) (P0_0_ : Nat → Prop) (u9000_ : Value) (l0_0 : List ByteArray) (a0_1 : Int) (a0_2 : Int) (a0_3 : Int) (P0_4_ : Nat → Prop) (u9001_ : Value) (l0_4 : List Int) (a1 : ByteArray) (r1 : List ByteArray) (r2 : Int) (r3 : Int) (r4 : Int) (r5 : List Int) (r6 : Int) (w0 w : World) (hB : Below w0.heap.size w0 w) (ho0_0 : Kd.R Kd.string 9 w w0.heap.size P0_0_ u9000_ l0_0) (ho0_4 : Kd.R (Kd.int .i64) 3 w w0.heap.size P0_4_ u9001_ l0_4) (h : spec_l8Put.f k l0_0 a0_1 a0_2 a0_3 l0_4 a1 = some (r1, r2, r3, r4, r5, r6)) :
  Calls Try.prog 96 #[.agg #[u9000_, .int .i64 a0_1, .int .i64 a0_2, .int .i64 a0_3, u9001_], .string a1] w fun e w' => ∃ v0_ v4_ : Value, e = .returned (.tuple #[.agg #[v0_, .int .i64 r2, .int .i64 r3, .int .i64 r4, v4_], .int .i64 r6]) ∧ Kd.R Kd.string 9 w' w0.heap.size (fun k_ => ((P0_0_ k_ ∨ P0_4_ k_) ∨ w.heap.size ≤ k_)) v0_ r1 ∧ Kd.R (Kd.int .i64) 3 w' w0.heap.size (fun k_ => ((P0_0_ k_ ∨ P0_4_ k_) ∨ w.heap.size ≤ k_)) v4_ r5 ∧ Below w0.heap.size w0 w' ∧ Kept w w' (fun k_ => P0_0_ k_ ∨ P0_4_ k_) := by
 have hu27 := Try.underlying27
 have HO0_0 := Aside0.mk (show Kd.R Kd.string 9 w w0.heap.size (fun k_ => ((P0_0_ k_ ∨ P0_4_ k_) ∨ w.heap.size ≤ k_)) u9000_ l0_0 from Kd.R_mono ho0_0 (fun k_ hk => (.inl (.inl hk))))
 have HO0_4 := Aside0.mk (show Kd.R (Kd.int .i64) 3 w w0.heap.size (fun k_ => ((P0_0_ k_ ∨ P0_4_ k_) ∨ w.heap.size ≤ k_)) u9001_ l0_4 from Kd.R_mono ho0_4 (fun k_ hk => (.inl (.inr hk))))
 have HK := Aside0.mk (Kept.refl w (fun k_ => P0_0_ k_ ∨ P0_4_ k_))
 have HW0 := Aside0.mk hB.size
 have HB := Aside0.mk hB; clear hB
 have H : ((spec_l8Tag.f k a1).bind fun t204 => ((spec_l1Has.f k l0_4 t204).bind fun t205 => (if t205 = true then (some (l0_0, a0_1, a0_2, a0_3, l0_4, 1)) else (if (l0_0.length : Int) = 12 then (spec_l8Put.j0 k a1 l0_4 true l0_0 a0_1 a0_2 a0_3) else (spec_l8Put.j0 k a1 l0_4 ((l0_4.length : Int) == 100) l0_0 a0_1 a0_2 a0_3))))) = some (r1, r2, r3, r4, r5, r6) := h
 clear h; replace H := bS H; obtain ⟨t204, A3, H⟩ := H
 replace H : ((spec_l1Has.f k l0_4 t204).bind fun t205 => (if t205 = true then (some (l0_0, a0_1, a0_2, a0_3, l0_4, 1)) else (if (l0_0.length : Int) = 12 then (spec_l8Put.j0 k a1 l0_4 true l0_0 a0_1 a0_2 a0_3) else (spec_l8Put.j0 k a1 l0_4 ((l0_4.length : Int) == 100) l0_0 a0_1 a0_2 a0_3)))) = some (r1, r2, r3, r4, r5, r6) := H
 replace H := bS H; obtain ⟨t205, A4, H⟩ := H
 replace H : (if t205 = true then (some (l0_0, a0_1, a0_2, a0_3, l0_4, 1)) else (if (l0_0.length : Int) = 12 then (spec_l8Put.j0 k a1 l0_4 true l0_0 a0_1 a0_2 a0_3) else (spec_l8Put.j0 k a1 l0_4 ((l0_4.length : Int) == 100) l0_0 a0_1 a0_2 a0_3))) = some (r1, r2, r3, r4, r5, r6) := H
 by_cases c5 : t205 = true
 ·subst c5
  have H1 : (some (l0_0, a0_1, a0_2, a0_3, l0_4, 1)) = some (r1, r2, r3, r4, r5, r6) := by rw [if_pos rfl] at H; exact H
  clear H
  have H := H1
  clear H1
  simp only [Option.some.injEq, Prod.mk.injEq] at H
  obtain ⟨rfl, rfl, rfl, rfl, rfl, rfl⟩ := H
  obtain ⟨Ao6, co6, eo6⟩ := Kd.R_slice HO0_0.out
  subst eo6
  obtain ⟨Ao7, co7, eo7⟩ := Kd.R_slice HO0_4.out
  subst eo7
  go_enter Try.func96, Try.ntmps96
  try go_wp2_with (first | ((with_reducible refine gate_dst (N := 2) rfl ?_); (try (refine gate_guard (by rfl) ?_; dsimp only)); refine boxev 2 #[.slice Ao6 l0_0.length co6, .int .i64 a0_1, .int .i64 a0_2, .int .i64 a0_3, .slice Ao7 l0_4.length co7] 27 ?_; intro gb202 hg w8 hbox hb; replace HO0_0 := ak (Kd.R_below (rdl HO0_0) hb); replace HO0_4 := ak (Kd.R_below (rdl HO0_4) hb); have BK202 := ak (hbox); have GW202 := ak ((by rw [hg]; exact (by first | exact HK.out.1 | exact (show Kept w _ (fun k_ => P0_0_ k_ ∨ P0_4_ k_) from by repeat (first | (with_reducible first | exact HK.out | apply Kept.alloc | apply Kept.drewN | apply Kept.drew) | exact HK.out)).1) : w.heap.size ≤ gb202)); replace HK := ak (Kept.below (S := (fun k_ => P0_0_ k_ ∨ P0_4_ k_)) (by repeat (first | (with_reducible first | exact HK.out | apply Kept.alloc | apply Kept.drewN | apply Kept.drew) | exact HK.out)) hb); have GE202 := ak ((by rw [hg]; exact (below_size (belowd HB)) : w0.heap.size ≤ gb202)); replace HB := ak (below_step (belowd HB) hb); clear hb hbox hg) | ((with_reducible refine gate_dst (N := 4) rfl ?_); (try (refine gate_guard (by rfl) ?_; dsimp only)); refine boxev 4 #[.slice none 0 0, .int .i64 0, .int .i64 0, .int .i64 0, .slice none 0 0] 27 ?_; intro gb203 hg w9 hbox hb; replace HO0_0 := ak (Kd.R_below (rdl HO0_0) hb); replace HO0_4 := ak (Kd.R_below (rdl HO0_4) hb); have BK203 := ak (hbox); have GW203 := ak ((by rw [hg]; exact (by first | exact HK.out.1 | exact (show Kept w _ (fun k_ => P0_0_ k_ ∨ P0_4_ k_) from by repeat (first | (with_reducible first | exact HK.out | apply Kept.alloc | apply Kept.drewN | apply Kept.drew | refine Kept.setCell ?_ (.inr GW202.out) _) | exact HK.out)).1) : w.heap.size ≤ gb203)); replace HK := ak (Kept.below (S := (fun k_ => P0_0_ k_ ∨ P0_4_ k_)) (by repeat (first | (with_reducible first | exact HK.out | apply Kept.alloc | apply Kept.drewN | apply Kept.drew | refine Kept.setCell ?_ (.inr GW202.out) _) | exact HK.out)) hb); have GE203 := ak ((by rw [hg]; exact (below_size (belowg1 HB GE202)) : w0.heap.size ≤ gb203)); replace HB := ak (below_step (belowg1 HB GE202) hb); have NB202_203 := ak ((by rw [hg]; exact Nat.ne_of_lt (blk_lt (blkd BK202)) : gb202 ≠ gb203)); have NB203_202 := ak ((by rw [hg]; exact Nat.ne_of_gt (blk_lt (blkd BK202)) : gb203 ≠ gb202)); replace BK202 := ak (blk_below (blkd BK202) hb); clear hb hbox hg))
  replace HO0_0 := ak (Kd.R_drew HO0_0.out)
  replace HO0_4 := ak (Kd.R_drew HO0_4.out)
  replace BK202 := ak (blk_drew BK202.out)
  replace BK203 := ak (blk_drew BK203.out)
  replace HK := ak (Kept.drew HK.out)
  replace HB := ak (below_drew1 HB.out)
  refine start_ (n := 5) (S := fun w' => w'.cell? ⟨gb202, 0, none⟩ = some (.slice Ao6 l0_0.length co6) ∧ w'.cell? ⟨gb202, 1, none⟩ = some (.int .i64 a0_1) ∧ w'.cell? ⟨gb202, 2, none⟩ = some (.int .i64 a0_2) ∧ w'.cell? ⟨gb202, 3, none⟩ = some (.int .i64 a0_3) ∧ w'.cell? ⟨gb202, 4, none⟩ = some (.slice Ao7 l0_4.length co7)) (ds := []) (bl 5 0) (by kernel_rfl) rfl rfl ⟨bq BK202 0, bq BK202 1, bq BK202 2, bq BK202 3, bq BK202 4⟩ (fun hHeld => ?_)
  generalize w9.drew = w10 at HO0_0 HO0_4 BK202 BK203 HK HB hHeld ⊢
  refine pure_ (i := 0) (N := some 6) (v := ?_) (a' := ?_) (bl 5 1) rfl rfl (by kernel_rfl) (fun _ _ _ h => h) (Or.inl ⟨by rfl, ?_⟩) ?_ ?_
  rotate_left
  ·intro w'
   go_simp
   with_reducible rfl
  rotate_left
  ·simp only [Act.put, List.setIfInBounds_toArray, List.set_cons_zero, List.set_cons_succ, i64_w, i32_w]
   rfl
  refine pure_ (i := 2) (N := some 8) (v := ?_) (a' := ?_) (bl 5 5) rfl rfl (by kernel_rfl) (fun _ _ _ h => h) (Or.inl ⟨by rfl, ?_⟩) ?_ ?_
  rotate_left
  ·intro w'
   go_simp
   with_reducible rfl
  rotate_left
  ·simp only [Act.put, List.setIfInBounds_toArray, List.set_cons_zero, List.set_cons_succ, i64_w, i32_w]
   rfl
  refine take_ (i := 1) (N := some 7) (v := ?_) (a' := ?_) (bl 5 7) rfl rfl (by kernel_rfl) (fun _ _ _ h => h) (Or.inl ⟨by rfl, ?_⟩) hHeld ?_ ?_
  rotate_left
  ·rintro w' ⟨s0, s1, s2, s3, s4⟩
   go_simp
   with_reducible rfl
  rotate_left
  ·simp only [Act.put, List.setIfInBounds_toArray, List.set_cons_zero, List.set_cons_succ, i64_w, i32_w]
   rfl
  refine one_ (i := 3) (N := some 9) (bl 5 15) rfl rfl (by kernel_rfl) (by decide) (fun K hK => ?_)
  refine goes_ Try.func172 (by kernel_rfl) rfl #[.string a1] (by rfl) rfl rfl (by (try simp only [List.map_toArray, List.map_cons, List.map_nil]); first | done | rfl | (simp only [List.length_drop, List.length_take]; rfl)) ?_
  with_reducible refine (spec_l8Tag.calls k a1 t204 _ A3.out).mono ?_
  rintro e w' ⟨rfl, ⟨nd, rfl⟩⟩
  refine ⟨_, rfl, ?_⟩
  refine hK.out _ _ ⟨bq BK202 0, bq BK202 1, bq BK202 2, bq BK202 3, bq BK202 4⟩ (fun hHeld => ?_)
  clear hK K
  refine norm_ (a' := ?_) ?_ ?_
  rotate_left
  ·show Act.put _ (some 9) _ = _
   simp only [Act.put, List.setIfInBounds_toArray, List.set_cons_zero, List.set_cons_succ, i64_w, i32_w]
   rfl
  refine one_ (i := 4) (N := some 10) (bl 5 31) rfl rfl (by kernel_rfl) (by decide) (fun K hK => ?_)
  refine goes_ Try.func173 (by kernel_rfl) rfl #[.slice Ao7 l0_4.length co7, .int .i64 t204] (by rfl) rfl rfl (by (try simp only [List.map_toArray, List.map_cons, List.map_nil]); first | done | rfl | (simp only [List.length_drop, List.length_take]; rfl)) ?_
  with_reducible refine (spec_l1Has.calls k _ _ l0_4 t204 true _ ?side1 ?side2 A4.out).mono ?_
  (case side1 => exact cd (Kd.R_reads' HO0_4.out).2.2)
  (case side2 => exact (Kd.R_reads' HO0_4.out).2.1)
  rintro e w' ⟨rfl, ⟨nd, rfl⟩⟩
  refine ⟨_, rfl, ?_⟩
  refine hK.out _ _ ⟨bq BK202 0, bq BK202 1, bq BK202 2, bq BK202 3, bq BK202 4⟩ (fun hHeld => ?_)
  clear hK K
  refine norm_ (a' := ?_) ?_ ?_
  rotate_left
  ·show Act.put _ (some 10) _ = _
   simp only [Act.put, List.setIfInBounds_toArray, List.set_cons_zero, List.set_cons_succ, i64_w, i32_w]
   rfl
  refine done_ (by kernel_rfl) ?_
  have hnb11 := NB202_203.out; have hnc11 := NB203_202.out; obtain ⟨hcz12_0, hcz12_1, hcz12_2, hcz12_3, hcz12_4, hfz12_0, hfz12_1, hfz12_2, hfz12_3, hfz12_4⟩ := box5 BK202; obtain ⟨hcz13_0, hcz13_1, hcz13_2, hcz13_3, hcz13_4, hfz13_0, hfz13_1, hfz13_2, hfz13_3, hfz13_4⟩ := box5 BK203
  try go_wp2
  refine bodyPost_ret (results_ct rfl _ _ gb203 27 #[.slice Ao6 l0_0.length co6, .int .i64 a0_1, .int .i64 a0_2, .int .i64 a0_3, .slice Ao7 l0_4.length co7] (0, 0) _ rfl (by (with_reducible repeat (first | refine blk_drewN ?_ _ | refine blk_drew ?_ | refine blk_alloc ?_ _)); refine blk_put (cs := #[.slice Ao6 l0_0.length co6, .int .i64 a0_1, .int .i64 a0_2, .int .i64 a0_3, .slice none 0 0]) ?_ 4 _ rfl; (with_reducible repeat (first | refine blk_drewN ?_ _ | refine blk_drew ?_ | refine blk_alloc ?_ _)); refine blk_put (cs := #[.slice Ao6 l0_0.length co6, .int .i64 a0_1, .int .i64 a0_2, .int .i64 0, .slice none 0 0]) ?_ 3 _ rfl; (with_reducible repeat (first | refine blk_drewN ?_ _ | refine blk_drew ?_ | refine blk_alloc ?_ _)); refine blk_put (cs := #[.slice Ao6 l0_0.length co6, .int .i64 a0_1, .int .i64 0, .int .i64 0, .slice none 0 0]) ?_ 2 _ rfl; (with_reducible repeat (first | refine blk_drewN ?_ _ | refine blk_drew ?_ | refine blk_alloc ?_ _)); refine blk_put (cs := #[.slice Ao6 l0_0.length co6, .int .i64 0, .int .i64 0, .int .i64 0, .slice none 0 0]) ?_ 1 _ rfl; (with_reducible repeat (first | refine blk_drewN ?_ _ | refine blk_drew ?_ | refine blk_alloc ?_ _)); refine blk_put (cs := #[.slice none 0 0, .int .i64 0, .int .i64 0, .int .i64 0, .slice none 0 0]) ?_ 0 _ rfl; (with_reducible repeat (first | refine blk_drewN ?_ _ | refine blk_drew ?_ | refine blk_alloc ?_ _)); exact BK203.out) Try.underlying27 rfl (by kernel_rfl)) rfl ?_
  exact ⟨_, _, er2, by (with_reducible repeat (first | apply Kd.R_alloc | apply Kd.R_drewN | apply Kd.R_drew)); exact Kd.R_mono (farsR (Kd.R_types HO0_0.out BK203.out (by decide))) (fun _ hk => hk.1), by (with_reducible repeat (first | apply Kd.R_alloc | apply Kd.R_drewN | apply Kd.R_drew)); exact Kd.R_mono (farsR (Kd.R_types HO0_4.out BK203.out (by decide))) (fun _ hk => hk.1), belowg2 HB GE202 GE203, by repeat (first | (with_reducible first | exact HK.out | apply Kept.alloc | apply Kept.drewN | apply Kept.drew | refine Kept.setCell ?_ (.inr GW202.out) _ | refine Kept.setCell ?_ (.inr GW203.out) _) | exact HK.out)⟩
 ·replace c5 := Bool.eq_false_iff.mpr c5
  subst c5
  have H1 : (if (l0_0.length : Int) = 12 then (spec_l8Put.j0 k a1 l0_4 true l0_0 a0_1 a0_2 a0_3) else (spec_l8Put.j0 k a1 l0_4 ((l0_4.length : Int) == 100) l0_0 a0_1 a0_2 a0_3)) = some (r1, r2, r3, r4, r5, r6) := by rw [if_neg (show ¬ (false = true) by decide)] at H; exact H
  clear H
  have H := H1
  clear H1; have HC14 := Aside0.mk H; clear H
  obtain ⟨Ao15, co15, eo15⟩ := Kd.R_slice HO0_0.out
  subst eo15
  obtain ⟨Ao16, co16, eo16⟩ := Kd.R_slice HO0_4.out
  subst eo16
  go_enter Try.func96, Try.ntmps96
  try go_wp2_with (first | ((with_reducible refine gate_dst (N := 2) rfl ?_); (try (refine gate_guard (by rfl) ?_; dsimp only)); refine boxev 2 #[.slice Ao15 l0_0.length co15, .int .i64 a0_1, .int .i64 a0_2, .int .i64 a0_3, .slice Ao16 l0_4.length co16] 27 ?_; intro gb202 hg w17 hbox hb; replace HO0_0 := ak (Kd.R_below (rdl HO0_0) hb); replace HO0_4 := ak (Kd.R_below (rdl HO0_4) hb); have BK202 := ak (hbox); have GW202 := ak ((by rw [hg]; exact (by first | exact HK.out.1 | exact (show Kept w _ (fun k_ => P0_0_ k_ ∨ P0_4_ k_) from by repeat (first | (with_reducible first | exact HK.out | apply Kept.alloc | apply Kept.drewN | apply Kept.drew) | exact HK.out)).1) : w.heap.size ≤ gb202)); replace HK := ak (Kept.below (S := (fun k_ => P0_0_ k_ ∨ P0_4_ k_)) (by repeat (first | (with_reducible first | exact HK.out | apply Kept.alloc | apply Kept.drewN | apply Kept.drew) | exact HK.out)) hb); have GE202 := ak ((by rw [hg]; exact (below_size (belowd HB)) : w0.heap.size ≤ gb202)); replace HB := ak (below_step (belowd HB) hb); clear hb hbox hg) | ((with_reducible refine gate_dst (N := 4) rfl ?_); (try (refine gate_guard (by rfl) ?_; dsimp only)); refine boxev 4 #[.slice none 0 0, .int .i64 0, .int .i64 0, .int .i64 0, .slice none 0 0] 27 ?_; intro gb203 hg w18 hbox hb; replace HO0_0 := ak (Kd.R_below (rdl HO0_0) hb); replace HO0_4 := ak (Kd.R_below (rdl HO0_4) hb); have BK203 := ak (hbox); have GW203 := ak ((by rw [hg]; exact (by first | exact HK.out.1 | exact (show Kept w _ (fun k_ => P0_0_ k_ ∨ P0_4_ k_) from by repeat (first | (with_reducible first | exact HK.out | apply Kept.alloc | apply Kept.drewN | apply Kept.drew | refine Kept.setCell ?_ (.inr GW202.out) _) | exact HK.out)).1) : w.heap.size ≤ gb203)); replace HK := ak (Kept.below (S := (fun k_ => P0_0_ k_ ∨ P0_4_ k_)) (by repeat (first | (with_reducible first | exact HK.out | apply Kept.alloc | apply Kept.drewN | apply Kept.drew | refine Kept.setCell ?_ (.inr GW202.out) _) | exact HK.out)) hb); have GE203 := ak ((by rw [hg]; exact (below_size (belowg1 HB GE202)) : w0.heap.size ≤ gb203)); replace HB := ak (below_step (belowg1 HB GE202) hb); have NB202_203 := ak ((by rw [hg]; exact Nat.ne_of_lt (blk_lt (blkd BK202)) : gb202 ≠ gb203)); have NB203_202 := ak ((by rw [hg]; exact Nat.ne_of_gt (blk_lt (blkd BK202)) : gb203 ≠ gb202)); replace BK202 := ak (blk_below (blkd BK202) hb); clear hb hbox hg))
  replace HO0_0 := ak (Kd.R_drew HO0_0.out)
  replace HO0_4 := ak (Kd.R_drew HO0_4.out)
  replace BK202 := ak (blk_drew BK202.out)
  replace BK203 := ak (blk_drew BK203.out)
  replace HK := ak (Kept.drew HK.out)
  replace HB := ak (below_drew1 HB.out)
  refine start_ (n := 5) (S := fun w' => w'.cell? ⟨gb202, 0, none⟩ = some (.slice Ao15 l0_0.length co15) ∧ w'.cell? ⟨gb202, 1, none⟩ = some (.int .i64 a0_1) ∧ w'.cell? ⟨gb202, 2, none⟩ = some (.int .i64 a0_2) ∧ w'.cell? ⟨gb202, 3, none⟩ = some (.int .i64 a0_3) ∧ w'.cell? ⟨gb202, 4, none⟩ = some (.slice Ao16 l0_4.length co16)) (ds := []) (bl 5 0) (by kernel_rfl) rfl rfl ⟨bq BK202 0, bq BK202 1, bq BK202 2, bq BK202 3, bq BK202 4⟩ (fun hHeld => ?_)
  generalize w18.drew = w19 at HO0_0 HO0_4 BK202 BK203 HK HB hHeld ⊢
  refine pure_ (i := 0) (N := some 6) (v := ?_) (a' := ?_) (bl 5 1) rfl rfl (by kernel_rfl) (fun _ _ _ h => h) (Or.inl ⟨by rfl, ?_⟩) ?_ ?_
  rotate_left
  ·intro w'
   go_simp
   with_reducible rfl
  rotate_left
  ·simp only [Act.put, List.setIfInBounds_toArray, List.set_cons_zero, List.set_cons_succ, i64_w, i32_w]
   rfl
  refine pure_ (i := 2) (N := some 8) (v := ?_) (a' := ?_) (bl 5 5) rfl rfl (by kernel_rfl) (fun _ _ _ h => h) (Or.inl ⟨by rfl, ?_⟩) ?_ ?_
  rotate_left
  ·intro w'
   go_simp
   with_reducible rfl
  rotate_left
  ·simp only [Act.put, List.setIfInBounds_toArray, List.set_cons_zero, List.set_cons_succ, i64_w, i32_w]
   rfl
  refine take_ (i := 1) (N := some 7) (v := ?_) (a' := ?_) (bl 5 7) rfl rfl (by kernel_rfl) (fun _ _ _ h => h) (Or.inl ⟨by rfl, ?_⟩) hHeld ?_ ?_
  rotate_left
  ·rintro w' ⟨s0, s1, s2, s3, s4⟩
   go_simp
   with_reducible rfl
  rotate_left
  ·simp only [Act.put, List.setIfInBounds_toArray, List.set_cons_zero, List.set_cons_succ, i64_w, i32_w]
   rfl
  refine one_ (i := 3) (N := some 9) (bl 5 15) rfl rfl (by kernel_rfl) (by decide) (fun K hK => ?_)
  refine goes_ Try.func172 (by kernel_rfl) rfl #[.string a1] (by rfl) rfl rfl (by (try simp only [List.map_toArray, List.map_cons, List.map_nil]); first | done | rfl | (simp only [List.length_drop, List.length_take]; rfl)) ?_
  with_reducible refine (spec_l8Tag.calls k a1 t204 _ A3.out).mono ?_
  rintro e w' ⟨rfl, ⟨nd, rfl⟩⟩
  refine ⟨_, rfl, ?_⟩
  refine hK.out _ _ ⟨bq BK202 0, bq BK202 1, bq BK202 2, bq BK202 3, bq BK202 4⟩ (fun hHeld => ?_)
  clear hK K
  refine norm_ (a' := ?_) ?_ ?_
  rotate_left
  ·show Act.put _ (some 9) _ = _
   simp only [Act.put, List.setIfInBounds_toArray, List.set_cons_zero, List.set_cons_succ, i64_w, i32_w]
   rfl
  refine one_ (i := 4) (N := some 10) (bl 5 31) rfl rfl (by kernel_rfl) (by decide) (fun K hK => ?_)
  refine goes_ Try.func173 (by kernel_rfl) rfl #[.slice Ao16 l0_4.length co16, .int .i64 t204] (by rfl) rfl rfl (by (try simp only [List.map_toArray, List.map_cons, List.map_nil]); first | done | rfl | (simp only [List.length_drop, List.length_take]; rfl)) ?_
  with_reducible refine (spec_l1Has.calls k _ _ l0_4 t204 false _ ?side1 ?side2 A4.out).mono ?_
  (case side1 => exact cd (Kd.R_reads' HO0_4.out).2.2)
  (case side2 => exact (Kd.R_reads' HO0_4.out).2.1)
  rintro e w' ⟨rfl, ⟨nd, rfl⟩⟩
  refine ⟨_, rfl, ?_⟩
  refine hK.out _ _ ⟨bq BK202 0, bq BK202 1, bq BK202 2, bq BK202 3, bq BK202 4⟩ (fun hHeld => ?_)
  clear hK K
  refine norm_ (a' := ?_) ?_ ?_
  rotate_left
  ·show Act.put _ (some 10) _ = _
   simp only [Act.put, List.setIfInBounds_toArray, List.set_cons_zero, List.set_cons_succ, i64_w, i32_w]
   rfl
  refine done_ (by kernel_rfl) ?_
  go_upto_region 3 with (fail)
  go_cut [21] (fun v21 wc => ∃ (kq : Nat) (x21_13 : Bool), v21 = .bool x21_13 ∧ Aside0 (spec_l8Put.j0 kq a1 l0_4 x21_13 l0_0 a0_1 a0_2 a0_3 = some (r1, r2, r3, r4, r5, r6)) ∧ Aside0 (kq ≤ k) ∧ Aside0 (Kd.R (Kd.int .i64) 3 wc w0.heap.size (fun k_ => ((P0_0_ k_ ∨ P0_4_ k_) ∨ w.heap.size ≤ k_)) (.slice Ao16 l0_4.length co16) l0_4) ∧ Aside0 (Kd.R Kd.string 9 wc w0.heap.size (fun k_ => ((P0_0_ k_ ∨ P0_4_ k_) ∨ w.heap.size ≤ k_)) (.slice Ao15 l0_0.length co15) l0_0) ∧ Aside0 (wc.heap[gb202]? = some (.cells #[(.slice Ao15 l0_0.length co15), .int .i64 a0_1, .int .i64 a0_2, .int .i64 a0_3, (.slice Ao16 l0_4.length co16)] 27 (0, 0))) ∧ Aside0 (wc.heap[gb203]? = some (.cells #[(.slice none 0 0), .int .i64 0, .int .i64 0, .int .i64 0, (.slice none 0 0)] 27 (0, 0))) ∧ Aside0 (Kept w wc (fun k_ => P0_0_ k_ ∨ P0_4_ k_)) ∧ Aside0 (Below w0.heap.size w0 wc))
  case first =>
   have H := HC14.out; clear HC14
   by_cases c20 : (l0_0.length : Int) = 12
   ·rw [if_pos c20] at H
    have c20b0 : ((l0_0.length : Int) == 12) = true := beq_iff_eq.mpr c20
    have c20b1 : ((l0_0.length : Int) != 12) = false := bne_eq_false_iff_eq.mpr c20
    clear c20
    (first | rw [c20b0] | (simp only [i64_w, i32_w]; rw [c20b0]) | skip)
    have H' := Aside0.mk H
    clear H; have hnb21 := NB202_203.out; have hnc21 := NB203_202.out; obtain ⟨hcz22_0, hcz22_1, hcz22_2, hcz22_3, hcz22_4, hfz22_0, hfz22_1, hfz22_2, hfz22_3, hfz22_4⟩ := box5 BK202; go_wp2
    go_meet
    case rel => exact ⟨_, (true), er, H', ⟨by first | omega | exact Nat.le_refl _⟩, ⟨rdl HO0_4⟩, ⟨rdl HO0_0⟩, ⟨blkd BK202⟩, ⟨blkd BK203⟩, ⟨by repeat (first | (with_reducible first | exact HK.out | apply Kept.alloc | apply Kept.drewN | apply Kept.drew | refine Kept.setCell ?_ (.inr GW202.out) _ | refine Kept.setCell ?_ (.inr GW203.out) _) | exact HK.out)⟩, ⟨belowg2 HB GE202 GE203⟩⟩
   ·rw [if_neg c20] at H
    have c20b0 : ((l0_0.length : Int) == 12) = false := beq_eq_false_iff_ne.mpr c20
    have c20b1 : ((l0_0.length : Int) != 12) = true := bne_iff_ne.mpr c20
    (first | rw [c20b0] | (simp only [i64_w, i32_w]; rw [c20b0]) | skip)
    have H' := Aside0.mk H
    clear H; have hnb23 := NB202_203.out; have hnc23 := NB203_202.out; obtain ⟨hcz24_0, hcz24_1, hcz24_2, hcz24_3, hcz24_4, hfz24_0, hfz24_1, hfz24_2, hfz24_3, hfz24_4⟩ := box5 BK202; go_wp2
    go_meet
    case rel => exact ⟨_, (((l0_4.length : Int) == 100)), er, H', ⟨by first | omega | exact Nat.le_refl _⟩, ⟨rdl HO0_4⟩, ⟨rdl HO0_0⟩, ⟨blkd BK202⟩, ⟨blkd BK203⟩, ⟨by repeat (first | (with_reducible first | exact HK.out | apply Kept.alloc | apply Kept.drewN | apply Kept.drew | refine Kept.setCell ?_ (.inr GW202.out) _ | refine Kept.setCell ?_ (.inr GW203.out) _) | exact HK.out)⟩, ⟨belowg2 HB GE202 GE203⟩⟩
  case rest =>
   clear HC14; (try clear c5)
   obtain ⟨kq, x21_13, rfl, HA, HJ13, HO_7, HO_203000, BK202, BK203, HK, HB⟩ := hcut
   cases kq with
   | zero => exact absurd HA.out (by simp [spec_l8Put.j0])
   | succ kj13 =>
    have H := HA.out; clear HA
    simp only [spec_l8Put.j0] at H
    by_cases c25 : x21_13 = true
    ·subst c25
     have H1 : (some (l0_0, a0_1, a0_2, a0_3, l0_4, 2)) = some (r1, r2, r3, r4, r5, r6) := by rw [if_pos rfl] at H; exact H
     clear H
     have H := H1
     clear H1
     simp only [Option.some.injEq, Prod.mk.injEq] at H
     obtain ⟨rfl, rfl, rfl, rfl, rfl, rfl⟩ := H; have hnb26 := NB202_203.out; have hnc26 := NB203_202.out; obtain ⟨hcz27_0, hcz27_1, hcz27_2, hcz27_3, hcz27_4, hfz27_0, hfz27_1, hfz27_2, hfz27_3, hfz27_4⟩ := box5 BK202; obtain ⟨hcz28_0, hcz28_1, hcz28_2, hcz28_3, hcz28_4, hfz28_0, hfz28_1, hfz28_2, hfz28_3, hfz28_4⟩ := box5 BK203; go_wp2
     refine bodyPost_ret (results_ct rfl _ _ gb203 27 #[.slice Ao15 l0_0.length co15, .int .i64 a0_1, .int .i64 a0_2, .int .i64 a0_3, .slice Ao16 l0_4.length co16] (0, 0) _ rfl (by (with_reducible repeat (first | refine blk_drewN ?_ _ | refine blk_drew ?_ | refine blk_alloc ?_ _)); refine blk_put (cs := #[.slice Ao15 l0_0.length co15, .int .i64 a0_1, .int .i64 a0_2, .int .i64 a0_3, .slice none 0 0]) ?_ 4 _ rfl; (with_reducible repeat (first | refine blk_drewN ?_ _ | refine blk_drew ?_ | refine blk_alloc ?_ _)); refine blk_put (cs := #[.slice Ao15 l0_0.length co15, .int .i64 a0_1, .int .i64 a0_2, .int .i64 0, .slice none 0 0]) ?_ 3 _ rfl; (with_reducible repeat (first | refine blk_drewN ?_ _ | refine blk_drew ?_ | refine blk_alloc ?_ _)); refine blk_put (cs := #[.slice Ao15 l0_0.length co15, .int .i64 a0_1, .int .i64 0, .int .i64 0, .slice none 0 0]) ?_ 2 _ rfl; (with_reducible repeat (first | refine blk_drewN ?_ _ | refine blk_drew ?_ | refine blk_alloc ?_ _)); refine blk_put (cs := #[.slice Ao15 l0_0.length co15, .int .i64 0, .int .i64 0, .int .i64 0, .slice none 0 0]) ?_ 1 _ rfl; (with_reducible repeat (first | refine blk_drewN ?_ _ | refine blk_drew ?_ | refine blk_alloc ?_ _)); refine blk_put (cs := #[.slice none 0 0, .int .i64 0, .int .i64 0, .int .i64 0, .slice none 0 0]) ?_ 0 _ rfl; (with_reducible repeat (first | refine blk_drewN ?_ _ | refine blk_drew ?_ | refine blk_alloc ?_ _)); exact BK203.out) Try.underlying27 rfl (by kernel_rfl)) rfl ?_
     exact ⟨_, _, er2, by (with_reducible repeat (first | apply Kd.R_alloc | apply Kd.R_drewN | apply Kd.R_drew)); exact Kd.R_mono (farsR (Kd.R_types HO_203000.out BK203.out (by decide))) (fun _ hk => hk.1), by (with_reducible repeat (first | apply Kd.R_alloc | apply Kd.R_drewN | apply Kd.R_drew)); exact Kd.R_mono (farsR (Kd.R_types HO_7.out BK203.out (by decide))) (fun _ hk => hk.1), belowg2 HB GE202 GE203, by repeat (first | (with_reducible first | exact HK.out | apply Kept.alloc | apply Kept.drewN | apply Kept.drew | refine Kept.setCell ?_ (.inr GW202.out) _ | refine Kept.setCell ?_ (.inr GW203.out) _) | exact HK.out)⟩
    ·replace c25 := Bool.eq_false_iff.mpr c25
     subst c25
     have H1 : ((spec_l8Place.f kj13 l0_0 a1).bind fun t206 => ((spec_l8Tag.f kj13 a1).bind fun t209 => ((spec_l1Put.f kj13 l0_4 t209).bind fun t210 => (some (t206, a0_1, a0_2, a0_3, t210, 0))))) = some (r1, r2, r3, r4, r5, r6) := by rw [if_neg (show ¬ (false = true) by decide)] at H; exact H
     clear H
     have H := H1
     clear H1; replace H := bS H; obtain ⟨t206, A29, H⟩ := H
     replace H : ((spec_l8Tag.f kj13 a1).bind fun t209 => ((spec_l1Put.f kj13 l0_4 t209).bind fun t210 => (some (t206, a0_1, a0_2, a0_3, t210, 0)))) = some (r1, r2, r3, r4, r5, r6) := H
     replace H := bS H; obtain ⟨t209, A30, H⟩ := H
     replace H : ((spec_l1Put.f kj13 l0_4 t209).bind fun t210 => (some (t206, a0_1, a0_2, a0_3, t210, 0))) = some (r1, r2, r3, r4, r5, r6) := H
     replace H := bS H; obtain ⟨t210, A31, H⟩ := H
     replace H : (some (t206, a0_1, a0_2, a0_3, t210, 0)) = some (r1, r2, r3, r4, r5, r6) := H
     simp only [Option.some.injEq, Prod.mk.injEq] at H
     obtain ⟨rfl, rfl, rfl, rfl, rfl, rfl⟩ := H; have hnb32 := NB202_203.out; have hnc32 := NB203_202.out; obtain ⟨hcz33_0, hcz33_1, hcz33_2, hcz33_3, hcz33_4, hfz33_0, hfz33_1, hfz33_2, hfz33_3, hfz33_4⟩ := box5 BK202
     try go_wp2_with (first | ((with_reducible refine gate_callee (f := 175) rfl ?_); refine goesLa (some 26) rfl Try.func175 #[.slice Ao15 l0_0.length co15, .string a1] rfl ?_; (with_reducible refine (spec_l8Place.calls kj13 _ _ l0_0 a1 t206 _ ?side1 ?side2 A29.out).mono ?_); (case side1 => exact cd (Kd.R_reads' HO_203000.out).2.2); (case side2 => exact (Kd.R_reads' HO_203000.out).2.1); rintro e w34 ⟨v207, rfl, ho0, hb⟩; refine ⟨_, rfl, ?_⟩; replace HO_7 := ak (Kd.R_below (rdl HO_7) hb); have HO208 := ak (Kd.R_lower (Kd.R_new' (Kd.R_newM (M := fun k_ => ((P0_0_ k_ ∨ P0_4_ k_) ∨ w.heap.size ≤ k_)) ho0 (by first | exact HK.out.1 | exact (show Kept w _ (fun k_ => P0_0_ k_ ∨ P0_4_ k_) from by repeat (first | (with_reducible first | exact HK.out | apply Kept.alloc | apply Kept.drewN | apply Kept.drew | refine Kept.setCell ?_ (.inr GW202.out) _ | refine Kept.setCell ?_ (.inr GW203.out) _) | exact HK.out)).1) (fun k_ h_ => .inr h_)) (Kd.R_lt (rdl HO_203000))) (below_size (belowg2 HB GE202 GE203))); replace HO_203000 := ak (Kd.R_elder' (rdl HO_203000) (Kd.R_base ho0) hb); replace BK202 := ak (blk_below (blkd BK202) hb); replace BK203 := ak (blk_below (blkd BK203) hb); replace HK := ak (Kept.below (S := (fun k_ => P0_0_ k_ ∨ P0_4_ k_)) (by repeat (first | (with_reducible first | exact HK.out | apply Kept.alloc | apply Kept.drewN | apply Kept.drew | refine Kept.setCell ?_ (.inr GW202.out) _ | refine Kept.setCell ?_ (.inr GW203.out) _) | exact HK.out)) hb); replace HB := ak (below_step (belowg2 HB GE202 GE203) hb); (try clear hb); (try clear ho0); obtain ⟨Ao35, co35, eo35⟩ := Kd.R_slice HO208.out; subst eo35; obtain ⟨hcz36_0, hcz36_1, hcz36_2, hcz36_3, hcz36_4, hfz36_0, hfz36_1, hfz36_2, hfz36_3, hfz36_4⟩ := box5 BK202))
     have n0_ : Aside0 (Kd.R (Kd.int .i64) 3 (w34.setCell ⟨gb202, 0, none⟩ (.slice Ao35 t206.length co35)) w0.heap.size (fun k_ => ((P0_0_ k_ ∨ P0_4_ k_) ∨ w.heap.size ≤ k_)) (.slice Ao16 l0_4.length co16) l0_4) := ⟨by (with_reducible repeat (first | apply Kd.R_alloc | apply Kd.R_drewN | apply Kd.R_drew)); exact Kd.R_mono (Kd.R_far (p := ⟨gb202, 0, none⟩) (Kd.R_types HO_7.out BK202.out (by decide)) (fun _ hk => hk.2) (.slice Ao35 t206.length co35)) (fun _ hk => hk.1)⟩
     have n1_ : Aside0 (Kd.R Kd.string 9 (w34.setCell ⟨gb202, 0, none⟩ (.slice Ao35 t206.length co35)) w0.heap.size (fun k_ => ((P0_0_ k_ ∨ P0_4_ k_) ∨ w.heap.size ≤ k_) ∧ some k_ ≠ (.slice Ao35 t206.length co35 : Value).ownBlock) (.slice Ao15 l0_0.length co15) l0_0) := ⟨by (with_reducible repeat (first | apply Kd.R_alloc | apply Kd.R_drewN | apply Kd.R_drew)); exact Kd.R_mono (Kd.R_far (p := ⟨gb202, 0, none⟩) (Kd.R_types HO_203000.out BK202.out (by decide)) (fun _ hk => hk.2) (.slice Ao35 t206.length co35)) (fun _ hk => ⟨hk.1.1, hk.1.2⟩)⟩
     have n2_ : Aside0 (Kd.R Kd.string 9 (w34.setCell ⟨gb202, 0, none⟩ (.slice Ao35 t206.length co35)) w0.heap.size (fun k_ => ((P0_0_ k_ ∨ P0_4_ k_) ∨ w.heap.size ≤ k_) ∧ some k_ ≠ (.slice Ao15 l0_0.length co15 : Value).ownBlock) (.slice Ao35 t206.length co35) t206) := ⟨by (with_reducible repeat (first | apply Kd.R_alloc | apply Kd.R_drewN | apply Kd.R_drew)); exact Kd.R_mono (Kd.R_far (p := ⟨gb202, 0, none⟩) (Kd.R_types HO208.out BK202.out (by decide)) (fun _ hk => hk.2) (.slice Ao35 t206.length co35)) (fun _ hk => ⟨hk.1.1.1, hk.1.2⟩)⟩
     have n3_ : Aside0 ((w34.setCell ⟨gb202, 0, none⟩ (.slice Ao35 t206.length co35)).heap[gb202]? = some (.cells #[.slice Ao35 t206.length co35, .int .i64 a0_1, .int .i64 a0_2, .int .i64 a0_3, .slice Ao16 l0_4.length co16] 27 (0, 0))) := ⟨by (with_reducible repeat (first | refine blk_drewN ?_ _ | refine blk_drew ?_ | refine blk_alloc ?_ _)); refine blk_put (cs := #[.slice Ao15 l0_0.length co15, .int .i64 a0_1, .int .i64 a0_2, .int .i64 a0_3, .slice Ao16 l0_4.length co16]) ?_ 0 _ rfl; (with_reducible repeat (first | refine blk_drewN ?_ _ | refine blk_drew ?_ | refine blk_alloc ?_ _)); exact BK202.out⟩
     have n4_ : Aside0 ((w34.setCell ⟨gb202, 0, none⟩ (.slice Ao35 t206.length co35)).heap[gb203]? = some (.cells #[.slice none 0 0, .int .i64 0, .int .i64 0, .int .i64 0, .slice none 0 0] 27 (0, 0))) := ⟨by (with_reducible repeat (first | refine blk_drewN ?_ _ | refine blk_drew ?_ | refine blk_alloc ?_ _)); refine blk_far ?_ NB203_202.out _; (with_reducible repeat (first | refine blk_drewN ?_ _ | refine blk_drew ?_ | refine blk_alloc ?_ _)); exact BK203.out⟩
     have n5_ : Aside0 (Kept w (w34.setCell ⟨gb202, 0, none⟩ (.slice Ao35 t206.length co35)) (fun k_ => P0_0_ k_ ∨ P0_4_ k_)) := ⟨by repeat (first | (with_reducible first | exact HK.out | apply Kept.alloc | apply Kept.drewN | apply Kept.drew | refine Kept.setCell ?_ (.inr GW202.out) _ | refine Kept.setCell ?_ (.inr GW203.out) _) | exact HK.out)⟩
     have n6_ : Aside0 (Below w0.heap.size w0 (w34.setCell ⟨gb202, 0, none⟩ (.slice Ao35 t206.length co35))) := ⟨belowg2 HB GE202 GE203⟩
     (try clear HO_7); (try clear HO_203000); (try clear HO208); (try clear BK202); (try clear BK203); (try clear HK); (try clear HB)
     generalize (w34.setCell ⟨gb202, 0, none⟩ (.slice Ao35 t206.length co35)) = w37 at n0_ n1_ n2_ n3_ n4_ n5_ n6_ ⊢
     have HO_7 := n0_
     have HO_203000 := n1_
     have HO208 := n2_
     have BK202 := n3_
     have BK203 := n4_
     have HK := n5_
     have HB := n6_
     clear n0_ n1_ n2_ n3_ n4_ n5_ n6_
     replace HO_7 := ak (Kd.R_drew HO_7.out)
     replace HO_203000 := ak (Kd.R_drew HO_203000.out)
     replace HO208 := ak (Kd.R_drew HO208.out)
     replace BK202 := ak (blk_drew BK202.out)
     replace BK203 := ak (blk_drew BK203.out)
     replace HK := ak (Kept.drew HK.out)
     replace HB := ak (below_drew1 HB.out)
     refine start_ (n := 7) (S := fun w' => w'.cell? ⟨gb202, 0, none⟩ = some (.slice Ao35 t206.length co35) ∧ w'.cell? ⟨gb202, 1, none⟩ = some (.int .i64 a0_1) ∧ w'.cell? ⟨gb202, 2, none⟩ = some (.int .i64 a0_2) ∧ w'.cell? ⟨gb202, 3, none⟩ = some (.int .i64 a0_3) ∧ w'.cell? ⟨gb202, 4, none⟩ = some (.slice Ao16 l0_4.length co16)) (ds := [6]) (bl 7 0) (by kernel_rfl) rfl rfl ⟨bq BK202 0, bq BK202 1, bq BK202 2, bq BK202 3, bq BK202 4⟩ (fun hHeld => ?_)
     generalize w37.drew = w38 at HO_7 HO_203000 HO208 BK202 BK203 HK HB hHeld ⊢
     refine pure_ (i := 0) (N := some 28) (v := ?_) (a' := ?_) (bl 7 1) rfl rfl (by kernel_rfl) (fun _ _ _ h => h) (Or.inl ⟨by rfl, ?_⟩) ?_ ?_
     rotate_left
     ·intro w'
      go_simp
      with_reducible rfl
     rotate_left
     ·simp only [Act.put, List.setIfInBounds_toArray, List.set_cons_zero, List.set_cons_succ, i64_w, i32_w]
      rfl
     refine pure_ (i := 2) (N := some 30) (v := ?_) (a' := ?_) (bl 7 5) rfl rfl (by kernel_rfl) (fun _ _ _ h => h) (Or.inl ⟨by rfl, ?_⟩) ?_ ?_
     rotate_left
     ·intro w'
      go_simp
      with_reducible rfl
     rotate_left
     ·simp only [Act.put, List.setIfInBounds_toArray, List.set_cons_zero, List.set_cons_succ, i64_w, i32_w]
      rfl
     refine take_ (i := 1) (N := some 29) (v := ?_) (a' := ?_) (bl 7 7) rfl rfl (by kernel_rfl) (fun _ _ _ h => h) (Or.inl ⟨by rfl, ?_⟩) hHeld ?_ ?_
     rotate_left
     ·rintro w' ⟨s0, s1, s2, s3, s4⟩
      go_simp
      with_reducible rfl
     rotate_left
     ·simp only [Act.put, List.setIfInBounds_toArray, List.set_cons_zero, List.set_cons_succ, i64_w, i32_w]
      rfl
     refine one_ (i := 3) (N := some 31) (bl 7 15) rfl rfl (by kernel_rfl) (by decide) (fun K hK => ?_)
     refine goes_ Try.func172 (by kernel_rfl) rfl #[.string a1] (by rfl) rfl rfl (by (try simp only [List.map_toArray, List.map_cons, List.map_nil]); first | done | rfl | (simp only [List.length_drop, List.length_take]; rfl)) ?_
     with_reducible refine (spec_l8Tag.calls kj13 a1 t209 _ A30.out).mono ?_
     rintro e w' ⟨rfl, ⟨nd, rfl⟩⟩
     refine ⟨_, rfl, ?_⟩
     refine hK.out _ _ ⟨bq BK202 0, bq BK202 1, bq BK202 2, bq BK202 3, bq BK202 4⟩ (fun hHeld => ?_)
     clear hK K
     refine norm_ (a' := ?_) ?_ ?_
     rotate_left
     ·show Act.put _ (some 31) _ = _
      simp only [Act.put, List.setIfInBounds_toArray, List.set_cons_zero, List.set_cons_succ, i64_w, i32_w]
      rfl
     refine one_ (i := 4) (N := some 32) (bl 7 31) rfl rfl (by kernel_rfl) (by decide) (fun K hK => ?_)
     refine goes_ Try.func176 (by kernel_rfl) rfl #[.slice Ao16 l0_4.length co16, .int .i64 t209] (by rfl) rfl rfl (by (try simp only [List.map_toArray, List.map_cons, List.map_nil]); first | done | rfl | (simp only [List.length_drop, List.length_take]; rfl)) ?_
     with_reducible refine (spec_l1Put.calls kj13 (fun k_ => some k_ = (.slice Ao16 l0_4.length co16 : Value).ownBlock) (.slice Ao16 l0_4.length co16) l0_4 t209 t210 w0 _ ?side1 ?side2 A31.out).mono ?_
     (case side1 => repeat (first | (with_reducible first | exact HB.out | apply below_alloc | apply pw_below_drewN | apply below_drew1 | refine below_set ?_ GE202.out | refine below_set ?_ GE203.out) | exact HB.out))
     (case side2 => exact Kd.R_tight rfl HO_7.out)
     rintro e w39 ⟨v211, rfl, ho0, hb, hkp⟩
     refine ⟨_, rfl, ?_⟩
     replace HO_203000 := ak (Kd.R_mono (ok' := fun k_ => ((P0_0_ k_ ∨ P0_4_ k_) ∨ w.heap.size ≤ k_) ∧ some k_ ≠ (.slice Ao35 t206.length co35 : Value).ownBlock) (Kd.R_keptB ((Kd.R_apart' HO_203000.out (Kd.R_typed HO_7.out) (by decide))) hkp (fun k_ hk_ hs_ => (hk_.2) hs_)) (fun k_ hk_ => ⟨hk_.1.1.1, hk_.1.1.2⟩))
     replace BK202 := ak (blk_kept (blkd BK202) hkp (fun hs_ => (fun e_ => (Kd.R_ne HO_7.out BK202.out (by decide)) e_) hs_))
     replace BK203 := ak (blk_kept (blkd BK203) hkp (fun hs_ => (fun e_ => (Kd.R_ne HO_7.out BK203.out (by decide)) e_) hs_))
     replace HO208 := ak (Kd.R_mono (ok' := fun k_ => ((P0_0_ k_ ∨ P0_4_ k_) ∨ w.heap.size ≤ k_) ∧ some k_ ≠ (.slice Ao15 l0_0.length co15 : Value).ownBlock) (Kd.R_keptB ((Kd.R_apart' HO208.out (Kd.R_typed HO_7.out) (by decide))) hkp (fun k_ hk_ hs_ => (hk_.2) hs_)) (fun k_ hk_ => ⟨hk_.1.1.1, hk_.1.1.2⟩))
     have HO212 := ak (Kd.R_mono (ok' := fun k_ => ((P0_0_ k_ ∨ P0_4_ k_) ∨ w.heap.size ≤ k_)) ho0 (fun k_ hk_ => Or.elim hk_ (fun hs_ => (HO_7.out.1 k_ (hs_).symm)) (fun hn_ => (.inr (Nat.le_trans (by first | exact HK.out.1 | exact (show Kept w _ (fun k_ => P0_0_ k_ ∨ P0_4_ k_) from by repeat (first | (with_reducible first | exact HK.out | apply Kept.alloc | apply Kept.drewN | apply Kept.drew | refine Kept.setCell ?_ (.inr GW202.out) _ | refine Kept.setCell ?_ (.inr GW203.out) _) | exact HK.out)).1) hn_)))))
     replace HK := ak (Kept.then_ (S := (fun k_ => P0_0_ k_ ∨ P0_4_ k_)) (by repeat (first | (with_reducible first | exact HK.out | apply Kept.alloc | apply Kept.drewN | apply Kept.drew | refine Kept.setCell ?_ (.inr GW202.out) _ | refine Kept.setCell ?_ (.inr GW203.out) _) | exact HK.out)) hkp (fun k_ hs_ => (fun e_ => (HO_7.out.1 k_ e_.symm)) hs_))
     replace HB := ak (hb)
     clear HO_7; (try clear hb); (try clear hkp); (try clear ho0)
     obtain ⟨Ao40, co40, eo40⟩ := Kd.R_slice HO212.out
     (first | subst eo40 | (injection eo40 with f1_ f2_ f3_; have f4_ := f1_.symm; have f5_ := f3_.symm; clear f1_ f2_ f3_; subst f4_; subst f5_))
     refine hK.out _ _ ⟨bq BK202 0, bq BK202 1, bq BK202 2, bq BK202 3, bq BK202 4⟩ (fun hHeld => ?_)
     clear hK K
     refine norm_ (a' := ?_) ?_ ?_
     rotate_left
     ·show Act.put _ (some 32) _ = _
      simp only [Act.put, List.setIfInBounds_toArray, List.set_cons_zero, List.set_cons_succ, i64_w, i32_w]
      rfl
     refine pure_ (i := 5) (N := some 33) (v := ?_) (a' := ?_) (bl 7 63) rfl rfl (by kernel_rfl) (fun _ _ _ h => h) (Or.inl ⟨by rfl, ?_⟩) ?_ ?_
     rotate_left
     ·intro w'
      go_simp
      with_reducible rfl
     rotate_left
     ·simp only [Act.put, List.setIfInBounds_toArray, List.set_cons_zero, List.set_cons_succ, i64_w, i32_w]
      rfl
     refine last_ (i := 6) (N := none) (bl 7 127) rfl rfl (by kernel_rfl) (by decide) (fun K hK => ?_)
     have hs41 : w39.cell? ⟨gb202, 4, none⟩ = some (.slice Ao16 l0_4.length co16) := bq BK202 4
     have hfs41 := blk_frozen BK202.out 4
     have hns41_1 := NB203_202.out; have hms41_1 := NB202_203.out
     refine skip_ (w1 := ?_) (by rfl) rfl ?_ ?_
     rotate_left
     ·go_simp
      rfl
     refine hK.out _ _ ?_
     clear hK K
     refine done_ (by kernel_rfl) ?_
     obtain ⟨hcz42_0, hcz42_1, hcz42_2, hcz42_3, hcz42_4, hfz42_0, hfz42_1, hfz42_2, hfz42_3, hfz42_4⟩ := box5 BK202; obtain ⟨hcz43_0, hcz43_1, hcz43_2, hcz43_3, hcz43_4, hfz43_0, hfz43_1, hfz43_2, hfz43_3, hfz43_4⟩ := box5 BK203
     try go_wp2
     refine bodyPost_ret (results_ct rfl _ _ gb203 27 #[.slice Ao35 t206.length co35, .int .i64 a0_1, .int .i64 a0_2, .int .i64 a0_3, .slice Ao40 t210.length co40] (0, 0) _ rfl (by (with_reducible repeat (first | refine blk_drewN ?_ _ | refine blk_drew ?_ | refine blk_alloc ?_ _)); refine blk_put (cs := #[.slice Ao35 t206.length co35, .int .i64 a0_1, .int .i64 a0_2, .int .i64 a0_3, .slice none 0 0]) ?_ 4 _ rfl; (with_reducible repeat (first | refine blk_drewN ?_ _ | refine blk_drew ?_ | refine blk_alloc ?_ _)); refine blk_put (cs := #[.slice Ao35 t206.length co35, .int .i64 a0_1, .int .i64 a0_2, .int .i64 0, .slice none 0 0]) ?_ 3 _ rfl; (with_reducible repeat (first | refine blk_drewN ?_ _ | refine blk_drew ?_ | refine blk_alloc ?_ _)); refine blk_put (cs := #[.slice Ao35 t206.length co35, .int .i64 a0_1, .int .i64 0, .int .i64 0, .slice none 0 0]) ?_ 2 _ rfl; (with_reducible repeat (first | refine blk_drewN ?_ _ | refine blk_drew ?_ | refine blk_alloc ?_ _)); refine blk_put (cs := #[.slice Ao35 t206.length co35, .int .i64 0, .int .i64 0, .int .i64 0, .slice none 0 0]) ?_ 1 _ rfl; (with_reducible repeat (first | refine blk_drewN ?_ _ | refine blk_drew ?_ | refine blk_alloc ?_ _)); refine blk_put (cs := #[.slice none 0 0, .int .i64 0, .int .i64 0, .int .i64 0, .slice none 0 0]) ?_ 0 _ rfl; (with_reducible repeat (first | refine blk_drewN ?_ _ | refine blk_drew ?_ | refine blk_alloc ?_ _)); refine blk_far ?_ NB203_202.out _; (with_reducible repeat (first | refine blk_drewN ?_ _ | refine blk_drew ?_ | refine blk_alloc ?_ _)); exact BK203.out) Try.underlying27 rfl (by kernel_rfl)) rfl ?_
     exact ⟨_, _, er2, by (with_reducible repeat (first | apply Kd.R_alloc | apply Kd.R_drewN | apply Kd.R_drew)); exact Kd.R_mono (farsR (Kd.R_types (Kd.R_types HO208.out BK202.out (by decide)) BK203.out (by decide))) (fun _ hk => hk.1.1.1), by (with_reducible repeat (first | apply Kd.R_alloc | apply Kd.R_drewN | apply Kd.R_drew)); exact Kd.R_mono (farsR (Kd.R_types (Kd.R_types HO212.out BK202.out (by decide)) BK203.out (by decide))) (fun _ hk => hk.1.1), belowg2 HB GE202 GE203, by repeat (first | (with_reducible first | exact HK.out | apply Kept.alloc | apply Kept.drewN | apply Kept.drew | refine Kept.setCell ?_ (.inr GW202.out) _ | refine Kept.setCell ?_ (.inr GW203.out) _) | exact HK.out)⟩

/-! ### spec_l8Own: function 97 -/
def spec_l8Own.f (l0_0 : List ByteArray) (a0_1 : Int) (a0_2 : Int) (a0_3 : Int) (l0_4 : List Int) : Option (List ByteArray × Int × Int × Int × List Int) := (some (([] : List ByteArray) : List ByteArray)).bind fun y215 => (if y215.length + l0_0.length < 8796093022208 then ((some (([] : List Int) : List Int)).bind fun y221 => (if y221.length + l0_4.length < 17592186044416 then (some ((y215 ++ l0_0), a0_1, a0_2, a0_3, (y221 ++ l0_4))) else (none))) else (none))
set_option maxHeartbeats 8000000 in
set_option maxRecDepth 100000 in
theorem spec_l8Own.calls (A0_0 : Option Addr) (c0_0 : Nat) (l0_0 : List ByteArray) (a0_1 : Int) (a0_2 : Int) (a0_3 : Int) (A0_4 : Option Addr) (c0_4 : Nat) (l0_4 : List Int) (r1 : List ByteArray) (r2 : Int) (r3 : Int) (r4 : Int) (r5 : List Int) (w : World) (hr0_0 : Kd.C Kd.string w A0_0 l0_0.length l0_0) (hc0_0 : l0_0.length ≤ c0_0) (hr0_4 : Kd.C (Kd.int .i64) w A0_4 l0_4.length l0_4) (hc0_4 : l0_4.length ≤ c0_4) (h : spec_l8Own.f l0_0 a0_1 a0_2 a0_3 l0_4 = some (r1, r2, r3, r4, r5)) :
  Calls Try.prog 97 #[.agg #[.slice A0_0 l0_0.length c0_0, .int .i64 a0_1, .int .i64 a0_2, .int .i64 a0_3, .slice A0_4 l0_4.length c0_4]] w fun e w' => ∃ v0_ v4_ : Value, e = .returned (.agg #[v0_, .int .i64 r2, .int .i64 r3, .int .i64 r4, v4_]) ∧ Kd.R Kd.string 9 w' w.heap.size (fun _ => True) v0_ r1 ∧ Kd.R (Kd.int .i64) 3 w' w.heap.size (fun _ => True) v4_ r5 ∧ Below w.heap.size w w' := by
 have hu27 := Try.underlying27
 have HR0_0 := Aside0.mk hr0_0; have HC0_0 := Aside0.mk hc0_0; clear hr0_0 hc0_0; have HR0_4 := Aside0.mk hr0_4; have HC0_4 := Aside0.mk hc0_4; clear hr0_4 hc0_4
 have HB := Aside0.mk (Below.refl w.heap.size w)
 have H : ((some (([] : List ByteArray) : List ByteArray)).bind fun y215 => (if y215.length + l0_0.length < 8796093022208 then ((some (([] : List Int) : List Int)).bind fun y221 => (if y221.length + l0_4.length < 17592186044416 then (some ((y215 ++ l0_0), a0_1, a0_2, a0_3, (y221 ++ l0_4))) else (none))) else (none))) = some (r1, r2, r3, r4, r5) := h
 clear h
 obtain ⟨y215, hy_⟩ : ∃ y_ : List ByteArray, y_ = (([] : List ByteArray)) := ⟨_, rfl⟩
 replace H : (if y215.length + l0_0.length < 8796093022208 then ((some (([] : List Int) : List Int)).bind fun y221 => (if y221.length + l0_4.length < 17592186044416 then (some ((y215 ++ l0_0), a0_1, a0_2, a0_3, (y221 ++ l0_4))) else (none))) else (none)) = some (r1, r2, r3, r4, r5) := yH
 have Ny215 := ak hy_; clear hy_; replace H := ifS H; obtain ⟨c2, H⟩ := H; have LMc2 := Aside0.mk c2; clear c2
 obtain ⟨y218, hy_⟩ : ∃ y_ : List ByteArray, y_ = (y215 ++ l0_0) := ⟨_, rfl⟩
 replace H : ((some (([] : List Int) : List Int)).bind fun y221 => (if y221.length + l0_4.length < 17592186044416 then (some (y218, a0_1, a0_2, a0_3, (y221 ++ l0_4))) else (none))) = some (r1, r2, r3, r4, r5) := yH
 have Ny218 := ak hy_; clear hy_
 obtain ⟨y221, hy_⟩ : ∃ y_ : List Int, y_ = (([] : List Int)) := ⟨_, rfl⟩
 replace H : (if y221.length + l0_4.length < 17592186044416 then (some (y218, a0_1, a0_2, a0_3, (y221 ++ l0_4))) else (none)) = some (r1, r2, r3, r4, r5) := yH
 have Ny221 := ak hy_; clear hy_; replace H := ifS H; obtain ⟨c3, H⟩ := H; have LMc3 := Aside0.mk c3; clear c3
 obtain ⟨y224, hy_⟩ : ∃ y_ : List Int, y_ = (y221 ++ l0_4) := ⟨_, rfl⟩
 replace H : (some (y218, a0_1, a0_2, a0_3, y224)) = some (r1, r2, r3, r4, r5) := yH
 have Ny224 := ak hy_; clear hy_
 simp only [Option.some.injEq, Prod.mk.injEq] at H
 obtain ⟨rfl, rfl, rfl, rfl, rfl⟩ := H
 go_enter Try.func97, Try.ntmps97
 go_wp2_with (first | ((with_reducible refine gate_dst (N := 1) rfl ?_); refine boxev 1 #[.slice A0_0 l0_0.length c0_0, .int .i64 a0_1, .int .i64 a0_2, .int .i64 a0_3, .slice A0_4 l0_4.length c0_4] 27 ?_; intro gb213 hg w4 hbox hb; have BK213 := ak (hbox); have GW213 := ak (hgl hg (belowd HB)); have GE213 := ak (hgl hg (belowd HB)); replace HB := ak (below_step (belowd HB) hb); clear hb hbox hg) | ((with_reducible refine gate_dst (N := 2) rfl ?_); refine boxev 2 #[.slice none 0 0, .int .i64 0, .int .i64 0, .int .i64 0, .slice none 0 0] 27 ?_; intro gb214 hg w5 hbox hb; have BK214 := ak (hbox); have GW214 := ak (hgl hg (belowg1 HB GE213)); have GE214 := ak (hgl hg (belowg1 HB GE213)); replace HB := ak (below_step (belowg1 HB GE213) hb); have NB213_214 := ak ((by rw [hg]; exact Nat.ne_of_lt (blk_lt (blkd BK213)) : gb213 ≠ gb214)); have NB214_213 := ak ((by rw [hg]; exact Nat.ne_of_gt (blk_lt (blkd BK213)) : gb214 ≠ gb213)); replace BK213 := ak (blk_below (blkd BK213) hb); clear hb hbox hg) | ((with_reducible refine gate_dst (N := 3) rfl ?_); refine Kd.R_lit Kd.string _ 9 ?hg (N := 3) ?hd (xs := ([] : List ByteArray)) (inner := []) (ok := fun _ => True) (okp := fun _ => True) ?hr ?hp (fun _ hk => hk) trivial (Below.refl _ _) (Nat.le_refl _) (by simp) ?_; (case hd => rfl); (case hg => rfl); (case hr => first | (go_simp; done) | (go_simp; rfl)); (case hp => exact (Reps.none _ _)); intro v216 w6 ho7 hb hg_ hnew_; clear hg_ hnew_; (first | rw [← Ny215.out] at ho7 | (simp only [Int.reduceToNat] at ho7; rw [← Ny215.out] at ho7)); have HO217 := ak (Kd.R_lower ho7 (below_size (belowg2 HB GE213 GE214))); replace BK213 := ak (blk_below (blkd BK213) hb); replace BK214 := ak (blk_below (blkd BK214) hb); replace HB := ak (below_step (belowg2 HB GE213 GE214) hb); clear hb ho7; have hnb8 := NB213_214.out; have hnc8 := NB214_213.out; obtain ⟨hcz9_0, hcz9_1, hcz9_2, hcz9_3, hcz9_4, hfz9_0, hfz9_1, hfz9_2, hfz9_3, hfz9_4⟩ := box5 BK213) | ((with_reducible refine gate_builtin (b := .append) (xs := #[.tmp 3, .tmp 5]) rfl ?_); at_builtin; refine Kd.R_append_rows Kd.string (w0 := w) w.heap.size rfl (.tmp 3) (.tmp 5) 22 9 (.string ⟨#[]⟩) 16 rfl Try.underlying22 info9 rfl (by decide) (by omega) v216 y215 l0_0 _ _ _ (fun _ => True) (fun _ => False) rfl rfl ?aO ?aR (fun _ _ h => h) (fun _ h => h.elim) ?aF ?aB ?aS ?aL ?_; (case aR => exact cd (Kd.C_below HR0_0.out HB.out)); (case aB => exact (belowg2 HB GE213 GE214)); (case aF => exact (fun _ _ => trivial)); (case aO => exact (rdl HO217)); (case aS => exact (below_size (belowg2 HB GE213 GE214))); (case aL => have := LMc2.out; omega); intro v219 w10 ho hb hg hat; rw [← Ny218.out] at ho; replace BK213 := ak (blk_grown (blkd BK213) hg (Kd.R_ne HO217.out BK213.out (by decide))); replace BK214 := ak (blk_grown (blkd BK214) hg (Kd.R_ne HO217.out BK214.out (by decide))); replace HB := ak (hb); have HO220 := ak (ho); clear HO217; clear ho hb hg hat; obtain ⟨Ao11, co11, eo11⟩ := Kd.R_slice HO220.out; subst eo11; obtain ⟨hcz12_0, hcz12_1, hcz12_2, hcz12_3, hcz12_4, hfz12_0, hfz12_1, hfz12_2, hfz12_3, hfz12_4⟩ := box5 BK213) | ((with_reducible refine gate_dst (N := 8) rfl ?_); refine Kd.R_lit (Kd.int .i64) _ 3 ?hg (N := 8) ?hd (xs := ([] : List Int)) (inner := []) (ok := fun _ => True) (okp := fun _ => True) ?hr ?hp (fun _ hk => hk) trivial (Below.refl _ _) (Nat.le_refl _) (by simp) ?_; (case hd => rfl); (case hg => rfl); (case hr => first | (go_simp; done) | (go_simp; rfl)); (case hp => exact (Reps.none _ _)); intro v222 w13 ho14 hb hg_ hnew_; clear hg_ hnew_; (first | rw [← Ny221.out] at ho14 | (simp only [Int.reduceToNat] at ho14; rw [← Ny221.out] at ho14)); replace HO220 := ak (Kd.R_below (by (with_reducible repeat (first | apply Kd.R_alloc | apply Kd.R_drewN | apply Kd.R_drew)); exact (Kd.R_mono (Kd.R_far (p := ⟨gb213, 0, none⟩) (Kd.R_types HO220.out BK213.out (by decide)) (fun _ hk => hk.2) (.slice Ao11 y218.length co11)) (fun _ h_ => h_.1))) hb); have HO223 := ak (Kd.R_lower ho14 (below_size (belowg2 HB GE213 GE214))); replace BK213 := ak (blk_below (g := gb213) (o := .cells #[.slice Ao11 y218.length co11, .int .i64 a0_1, .int .i64 a0_2, .int .i64 a0_3, .slice A0_4 l0_4.length c0_4] 27 (0, 0)) (by (with_reducible repeat (first | refine blk_drewN ?_ _ | refine blk_drew ?_ | refine blk_alloc ?_ _)); refine blk_put (cs := #[.slice A0_0 l0_0.length c0_0, .int .i64 a0_1, .int .i64 a0_2, .int .i64 a0_3, .slice A0_4 l0_4.length c0_4]) ?_ 0 _ rfl; (with_reducible repeat (first | refine blk_drewN ?_ _ | refine blk_drew ?_ | refine blk_alloc ?_ _)); exact BK213.out) hb); replace BK214 := ak (blk_below (g := gb214) (o := .cells #[.slice none 0 0, .int .i64 0, .int .i64 0, .int .i64 0, .slice none 0 0] 27 (0, 0)) (by (with_reducible repeat (first | refine blk_drewN ?_ _ | refine blk_drew ?_ | refine blk_alloc ?_ _)); refine blk_far ?_ NB214_213.out _; (with_reducible repeat (first | refine blk_drewN ?_ _ | refine blk_drew ?_ | refine blk_alloc ?_ _)); exact BK214.out) hb); replace HB := ak (below_step (belowg2 HB GE213 GE214) hb); clear hb ho14; obtain ⟨hcz15_0, hcz15_1, hcz15_2, hcz15_3, hcz15_4, hfz15_0, hfz15_1, hfz15_2, hfz15_3, hfz15_4⟩ := box5 BK213) | ((with_reducible refine gate_builtin (b := .append) (xs := #[.tmp 8, .tmp 10]) rfl ?_); at_builtin; refine Kd.R_append_rows (Kd.int .i64) (w0 := w) w.heap.size rfl (.tmp 8) (.tmp 10) 23 3 (.int .i64 0) 8 rfl Try.underlying23 info3 rfl (by decide) (by omega) v222 y221 l0_4 _ _ _ (fun _ => True) (fun _ => False) rfl rfl ?aO ?aR (fun _ _ h => h) (fun _ h => h.elim) ?aF ?aB ?aS ?aL ?_; (case aR => exact cd (Kd.C_below HR0_4.out HB.out)); (case aB => exact (belowg2 HB GE213 GE214)); (case aF => exact (fun _ _ => trivial)); (case aO => exact (rdl HO223)); (case aS => exact (below_size (belowg2 HB GE213 GE214))); (case aL => have := LMc3.out; omega); intro v225 w16 ho hb hg hat; rw [← Ny224.out] at ho; replace BK213 := ak (blk_grown (blkd BK213) hg (Kd.R_ne HO223.out BK213.out (by decide))); replace BK214 := ak (blk_grown (blkd BK214) hg (Kd.R_ne HO223.out BK214.out (by decide))); replace HO220 := ak (Kd.R_over' (rdl HO220) (Kd.R_typed (rdl HO223)) (by decide) hg); replace HB := ak (hb); have HO226 := ak (ho); clear HO223; clear ho hb hg hat; obtain ⟨Ao17, co17, eo17⟩ := Kd.R_slice HO226.out; subst eo17; obtain ⟨hcz18_0, hcz18_1, hcz18_2, hcz18_3, hcz18_4, hfz18_0, hfz18_1, hfz18_2, hfz18_3, hfz18_4⟩ := box5 BK213; obtain ⟨hcz19_0, hcz19_1, hcz19_2, hcz19_3, hcz19_4, hfz19_0, hfz19_1, hfz19_2, hfz19_3, hfz19_4⟩ := box5 BK214))
 refine bodyPost_ret (results_cell_row rfl _ _ gb214 27 #[.slice Ao11 y218.length co11, .int .i64 a0_1, .int .i64 a0_2, .int .i64 a0_3, .slice Ao17 y224.length co17] (0, 0) _ rfl (by (with_reducible repeat (first | refine blk_drewN ?_ _ | refine blk_drew ?_ | refine blk_alloc ?_ _)); refine blk_put (cs := #[.slice Ao11 y218.length co11, .int .i64 a0_1, .int .i64 a0_2, .int .i64 a0_3, .slice none 0 0]) ?_ 4 _ rfl; (with_reducible repeat (first | refine blk_drewN ?_ _ | refine blk_drew ?_ | refine blk_alloc ?_ _)); refine blk_put (cs := #[.slice Ao11 y218.length co11, .int .i64 a0_1, .int .i64 a0_2, .int .i64 0, .slice none 0 0]) ?_ 3 _ rfl; (with_reducible repeat (first | refine blk_drewN ?_ _ | refine blk_drew ?_ | refine blk_alloc ?_ _)); refine blk_put (cs := #[.slice Ao11 y218.length co11, .int .i64 a0_1, .int .i64 0, .int .i64 0, .slice none 0 0]) ?_ 2 _ rfl; (with_reducible repeat (first | refine blk_drewN ?_ _ | refine blk_drew ?_ | refine blk_alloc ?_ _)); refine blk_put (cs := #[.slice Ao11 y218.length co11, .int .i64 0, .int .i64 0, .int .i64 0, .slice none 0 0]) ?_ 1 _ rfl; (with_reducible repeat (first | refine blk_drewN ?_ _ | refine blk_drew ?_ | refine blk_alloc ?_ _)); refine blk_put (cs := #[.slice none 0 0, .int .i64 0, .int .i64 0, .int .i64 0, .slice none 0 0]) ?_ 0 _ rfl; (with_reducible repeat (first | refine blk_drewN ?_ _ | refine blk_drew ?_ | refine blk_alloc ?_ _)); refine blk_far ?_ NB214_213.out _; (with_reducible repeat (first | refine blk_drewN ?_ _ | refine blk_drew ?_ | refine blk_alloc ?_ _)); exact BK214.out) Try.underlying27 rfl (by kernel_rfl)) rfl ?_
 exact ⟨_, _, er2, by (with_reducible repeat (first | apply Kd.R_alloc | apply Kd.R_drewN | apply Kd.R_drew)); exact Kd.R_mono (farsR (Kd.R_types (Kd.R_types HO220.out BK213.out (by decide)) BK214.out (by decide))) (fun _ hk => trivial), by (with_reducible repeat (first | apply Kd.R_alloc | apply Kd.R_drewN | apply Kd.R_drew)); exact Kd.R_mono (farsR (Kd.R_types (Kd.R_types HO226.out BK213.out (by decide)) BK214.out (by decide))) (fun _ hk => trivial), belowg2 HB GE213 GE214⟩

/-! ### spec_PutMix: function 14 -/
def spec_PutMix.j0 : Nat → ByteArray → Bool → List ByteArray → Int → Int → Int → List Int → Option (List ByteArray × Int × Int × Int × List Int × Int × Bool)
  | 0, _, _, _, _, _, _, _ => none
  | k + 1, x1, x16, x228000, x228001, x228002, x228003, x228004 => if x16 = true then (some (([] : List ByteArray), 0, 0, 0, ([] : List Int), 0, false)) else ((spec_l8Own.f x228000 x228001 x228002 x228003 x228004).bind fun bt231 => ((spec_l8Put.f k bt231.1 bt231.2.1 bt231.2.2.1 bt231.2.2.2.1 bt231.2.2.2.2 x1).bind fun bt240 => ((spec_l8Own.f bt240.1 bt240.2.1 bt240.2.2.1 bt240.2.2.2.1 bt240.2.2.2.2.1).bind fun bt251 => (some (bt251.1, bt251.2.1, bt251.2.2.1, bt251.2.2.2.1, bt251.2.2.2.2, bt240.2.2.2.2.2, true)))))
def spec_PutMix.f (k : Nat) (l0_0 : List ByteArray) (a0_1 : Int) (a0_2 : Int) (a0_3 : Int) (l0_4 : List Int) (a1 : ByteArray) : Option (List ByteArray × Int × Int × Int × List Int × Int × Bool) := (spec_GoodMix.f k l0_0 a0_1 a0_2 a0_3 l0_4).bind fun t229 => (if t229 = true then ((spec_l8Text.f a1).bind fun t230 => (spec_PutMix.j0 k a1 (!t230) l0_0 a0_1 a0_2 a0_3 l0_4)) else (spec_PutMix.j0 k a1 true l0_0 a0_1 a0_2 a0_3 l0_4))
theorem spec_PutMix.mono_l : ∀ k, (∀ y0 y1 y2 y3 y4 y5 y6, LeO (spec_PutMix.j0 k y0 y1 y2 y3 y4 y5 y6) (spec_PutMix.j0 (k + 1) y0 y1 y2 y3 y4 y5 y6))
 | 0 => fun _ _ _ _ _ _ _ r h => by simp [spec_PutMix.j0] at h
 | k + 1 => by
  have ih0 := spec_PutMix.mono_l k
  ·intro y0 y1 y2 y3 y4 y5 y6
   unfold spec_PutMix.j0
   repeat' (first | (with_reducible first | exact ih0 _ _ _ _ _ _ _ | exact spec_GoodMix.mono _ _ _ _ _ _ | exact spec_l8Put.mono _ _ _ _ _ _ _ | exact LeO.refl _ | exact LeO.none _ | refine LeO.ite ?_ ?_ | refine LeO.bind ?_ (fun _ => ?_)) | exact ih0 _ _ _ _ _ _ _ | exact spec_GoodMix.mono _ _ _ _ _ _ | exact spec_l8Put.mono _ _ _ _ _ _ _ | exact LeO.none _ | refine LeO.ite ?_ ?_ | refine LeO.bind ?_ (fun _ => ?_))
theorem spec_PutMix.mono : ∀ a0 a1 a2 a3 a4 a5 k, LeO (spec_PutMix.f k a0 a1 a2 a3 a4 a5) (spec_PutMix.f (k + 1) a0 a1 a2 a3 a4 a5) := by
 intro a0 a1 a2 a3 a4 a5 k
 have ih0 := spec_PutMix.mono_l k
 unfold spec_PutMix.f
 repeat' (first | (with_reducible first | exact ih0 _ _ _ _ _ _ _ | exact spec_GoodMix.mono _ _ _ _ _ _ | exact spec_l8Put.mono _ _ _ _ _ _ _ | exact LeO.refl _ | exact LeO.none _ | refine LeO.ite ?_ ?_ | refine LeO.bind ?_ (fun _ => ?_)) | exact ih0 _ _ _ _ _ _ _ | exact spec_GoodMix.mono _ _ _ _ _ _ | exact spec_l8Put.mono _ _ _ _ _ _ _ | exact LeO.none _ | refine LeO.ite ?_ ?_ | refine LeO.bind ?_ (fun _ => ?_))
set_option maxHeartbeats 8000000 in
set_option maxRecDepth 100000 in
theorem spec_PutMix.calls (k : Nat) (A0_0 : Option Addr) (c0_0 : Nat) (l0_0 : List ByteArray) (a0_1 : Int) (a0_2 : Int) (a0_3 : Int) (A0_4 : Option Addr) (c0_4 : Nat) (l0_4 : List Int) (a1 : ByteArray) (r1 : List ByteArray) (r2 : Int) (r3 : Int) (r4 : Int) (r5 : List Int) (r6 : Int) (r7 : Bool) (w : World) (hr0_0 : Kd.C Kd.string w A0_0 l0_0.length l0_0) (hc0_0 : l0_0.length ≤ c0_0) (hr0_4 : Kd.C (Kd.int .i64) w A0_4 l0_4.length l0_4) (hc0_4 : l0_4.length ≤ c0_4) (h : spec_PutMix.f k l0_0 a0_1 a0_2 a0_3 l0_4 a1 = some (r1, r2, r3, r4, r5, r6, r7)) :
  Calls Try.prog 14 #[.agg #[.slice A0_0 l0_0.length c0_0, .int .i64 a0_1, .int .i64 a0_2, .int .i64 a0_3, .slice A0_4 l0_4.length c0_4], .string a1] w fun e w' => ∃ v0_ v4_ : Value, e = .returned (.tuple #[.agg #[v0_, .int .i64 r2, .int .i64 r3, .int .i64 r4, v4_], .int .i64 r6, .bool r7]) ∧ Kd.R Kd.string 9 w' w.heap.size (fun _ => True) v0_ r1 ∧ Kd.R (Kd.int .i64) 3 w' w.heap.size (fun _ => True) v4_ r5 ∧ Below w.heap.size w w' := by
 have hu27 := Try.underlying27
 have HR0_0 := Aside0.mk hr0_0; have HC0_0 := Aside0.mk hc0_0; clear hr0_0 hc0_0; have HR0_4 := Aside0.mk hr0_4; have HC0_4 := Aside0.mk hc0_4; clear hr0_4 hc0_4
 have HB := Aside0.mk (Below.refl w.heap.size w)
 have H : ((spec_GoodMix.f k l0_0 a0_1 a0_2 a0_3 l0_4).bind fun t229 => (if t229 = true then ((spec_l8Text.f a1).bind fun t230 => (spec_PutMix.j0 k a1 (!t230) l0_0 a0_1 a0_2 a0_3 l0_4)) else (spec_PutMix.j0 k a1 true l0_0 a0_1 a0_2 a0_3 l0_4))) = some (r1, r2, r3, r4, r5, r6, r7) := h
 clear h; have HC3 := Aside0.mk H; clear H
 go_enter Try.func14, Try.ntmps14
 go_upto_region 1 with (first | ((with_reducible refine gate_dst (N := 2) rfl ?_); refine boxev 2 #[.slice A0_0 l0_0.length c0_0, .int .i64 a0_1, .int .i64 a0_2, .int .i64 a0_3, .slice A0_4 l0_4.length c0_4] 27 ?_; intro gb227 hg w4 hbox hb; have BK227 := ak (hbox); have GW227 := ak (hgl hg (belowd HB)); have GE227 := ak (hgl hg (belowd HB)); replace HB := ak (below_step (belowd HB) hb); clear hb hbox hg) | ((with_reducible refine gate_dst (N := 4) rfl ?_); refine boxev 4 #[.slice none 0 0, .int .i64 0, .int .i64 0, .int .i64 0, .slice none 0 0] 27 ?_; intro gb228 hg w5 hbox hb; have BK228 := ak (hbox); have GW228 := ak (hgl hg (belowg1 HB GE227)); have GE228 := ak (hgl hg (belowg1 HB GE227)); replace HB := ak (below_step (belowg1 HB GE227) hb); have NB227_228 := ak ((by rw [hg]; exact Nat.ne_of_lt (blk_lt (blkd BK227)) : gb227 ≠ gb228)); have NB228_227 := ak ((by rw [hg]; exact Nat.ne_of_gt (blk_lt (blkd BK227)) : gb228 ≠ gb227)); replace BK227 := ak (blk_below (blkd BK227) hb); clear hb hbox hg))
 (try simp only [Act.put, List.setIfInBounds_toArray, List.set_cons_zero, List.set_cons_succ])
 go_cut [16] (fun v16 wc => ∃ (kq : Nat) (x16_2 : Bool), v16 = .bool x16_2 ∧ Aside0 (spec_PutMix.j0 kq a1 x16_2 l0_0 a0_1 a0_2 a0_3 l0_4 = some (r1, r2, r3, r4, r5, r6, r7)) ∧ Aside0 (kq ≤ k) ∧ Aside0 (wc.heap[gb227]? = some (.cells #[(.slice A0_0 l0_0.length c0_0), .int .i64 a0_1, .int .i64 a0_2, .int .i64 a0_3, (.slice A0_4 l0_4.length c0_4)] 27 (0, 0))) ∧ Aside0 (wc.heap[gb228]? = some (.cells #[(.slice none 0 0), .int .i64 0, .int .i64 0, .int .i64 0, (.slice none 0 0)] 27 (0, 0))) ∧ Aside0 (Below w.heap.size w wc))
 case first =>
  have H := HC3.out; clear HC3; replace H := bS H; obtain ⟨t229, A6, H⟩ := H
  replace H : (if t229 = true then ((spec_l8Text.f a1).bind fun t230 => (spec_PutMix.j0 k a1 (!t230) l0_0 a0_1 a0_2 a0_3 l0_4)) else (spec_PutMix.j0 k a1 true l0_0 a0_1 a0_2 a0_3 l0_4)) = some (r1, r2, r3, r4, r5, r6, r7) := H
  by_cases c7 : t229 = true
  ·subst c7
   have H1 : ((spec_l8Text.f a1).bind fun t230 => (spec_PutMix.j0 k a1 (!t230) l0_0 a0_1 a0_2 a0_3 l0_4)) = some (r1, r2, r3, r4, r5, r6, r7) := by rw [if_pos rfl] at H; exact H
   clear H
   have H := H1
   clear H1; replace H := bS H; obtain ⟨t230, A8, H⟩ := H
   replace H : (spec_PutMix.j0 k a1 (!t230) l0_0 a0_1 a0_2 a0_3 l0_4) = some (r1, r2, r3, r4, r5, r6, r7) := H
   have H' := Aside0.mk H
   clear H; have hnb9 := NB227_228.out; have hnc9 := NB228_227.out; obtain ⟨hcz10_0, hcz10_1, hcz10_2, hcz10_3, hcz10_4, hfz10_0, hfz10_1, hfz10_2, hfz10_3, hfz10_4⟩ := box5 BK227
   go_wp2_with (first | ((with_reducible refine gate_callee (f := 94) rfl ?_); refine goesLa (some 10) rfl Try.func94 #[.agg #[.slice A0_0 l0_0.length c0_0, .int .i64 a0_1, .int .i64 a0_2, .int .i64 a0_3, .slice A0_4 l0_4.length c0_4]] rfl ?_; (with_reducible refine (spec_GoodMix.calls k _ _ l0_0 a0_1 a0_2 a0_3 _ _ l0_4 true _ ?side1 ?side2 ?side3 ?side4 A6.out).mono ?_); (case side1 => exact cd (Kd.C_below HR0_0.out HB.out)); (case side2 => exact HC0_0.out); (case side3 => exact cd (Kd.C_below HR0_4.out HB.out)); (case side4 => exact HC0_4.out); rintro e w11 ⟨rfl, hb⟩; refine ⟨_, rfl, ?_⟩; replace BK227 := ak (blk_below (blkd BK227) hb); replace BK228 := ak (blk_below (blkd BK228) hb); replace HB := ak (below_step (belowg2 HB GE227 GE228) hb); (try clear hb)) | (go_at_call 95; (with_reducible refine (spec_l8Text.calls a1 t230 _ A8.out).mono ?_); rintro e w' ⟨rfl, ⟨nd, rfl⟩⟩))
   go_meet
   case rel => exact ⟨_, (!t230), er, H', ⟨by first | omega | exact Nat.le_refl _⟩, ⟨blkd BK227⟩, ⟨blkd BK228⟩, ⟨belowg2 HB GE227 GE228⟩⟩
  ·replace c7 := Bool.eq_false_iff.mpr c7
   subst c7
   have H1 : (spec_PutMix.j0 k a1 true l0_0 a0_1 a0_2 a0_3 l0_4) = some (r1, r2, r3, r4, r5, r6, r7) := by rw [if_neg (show ¬ (false = true) by decide)] at H; exact H
   clear H
   have H := H1
   clear H1
   have H' := Aside0.mk H
   clear H; have hnb12 := NB227_228.out; have hnc12 := NB228_227.out; obtain ⟨hcz13_0, hcz13_1, hcz13_2, hcz13_3, hcz13_4, hfz13_0, hfz13_1, hfz13_2, hfz13_3, hfz13_4⟩ := box5 BK227
   go_wp2_with (first | ((with_reducible refine gate_callee (f := 94) rfl ?_); refine goesLa (some 10) rfl Try.func94 #[.agg #[.slice A0_0 l0_0.length c0_0, .int .i64 a0_1, .int .i64 a0_2, .int .i64 a0_3, .slice A0_4 l0_4.length c0_4]] rfl ?_; (with_reducible refine (spec_GoodMix.calls k _ _ l0_0 a0_1 a0_2 a0_3 _ _ l0_4 false _ ?side1 ?side2 ?side3 ?side4 A6.out).mono ?_); (case side1 => exact cd (Kd.C_below HR0_0.out HB.out)); (case side2 => exact HC0_0.out); (case side3 => exact cd (Kd.C_below HR0_4.out HB.out)); (case side4 => exact HC0_4.out); rintro e w14 ⟨rfl, hb⟩; refine ⟨_, rfl, ?_⟩; replace BK227 := ak (blk_below (blkd BK227) hb); replace BK228 := ak (blk_below (blkd BK228) hb); replace HB := ak (below_step (belowg2 HB GE227 GE228) hb); (try clear hb)))
   go_meet
   case rel => exact ⟨_, (true), er, H', ⟨by first | omega | exact Nat.le_refl _⟩, ⟨blkd BK227⟩, ⟨blkd BK228⟩, ⟨belowg2 HB GE227 GE228⟩⟩
 case rest =>
  clear HC3
  obtain ⟨kq, x16_2, rfl, HA, HJ2, BK227, BK228, HB⟩ := hcut
  cases kq with
  | zero => exact absurd HA.out (by simp [spec_PutMix.j0])
  | succ kj2 =>
   have H := HA.out; clear HA
   simp only [spec_PutMix.j0] at H
   by_cases c15 : x16_2 = true
   ·subst c15
    have H1 : (some (([] : List ByteArray), 0, 0, 0, ([] : List Int), 0, false)) = some (r1, r2, r3, r4, r5, r6, r7) := by rw [if_pos rfl] at H; exact H
    clear H
    have H := H1
    clear H1
    simp only [Option.some.injEq, Prod.mk.injEq] at H
    obtain ⟨rfl, rfl, rfl, rfl, rfl, rfl, rfl⟩ := H; have hnb16 := NB228_227.out; have hnc16 := NB227_228.out; obtain ⟨hcz17_0, hcz17_1, hcz17_2, hcz17_3, hcz17_4, hfz17_0, hfz17_1, hfz17_2, hfz17_3, hfz17_4⟩ := box5 BK228; go_wp2
    refine bodyPost_ret (results_ctt rfl _ _ gb228 27 #[.slice none 0 0, .int .i64 0, .int .i64 0, .int .i64 0, .slice none 0 0] (0, 0) _ rfl (by (with_reducible repeat (first | refine blk_drewN ?_ _ | refine blk_drew ?_ | refine blk_alloc ?_ _)); refine blk_put (cs := #[.slice none 0 0, .int .i64 0, .int .i64 0, .int .i64 0, .slice none 0 0]) ?_ 4 _ rfl; (with_reducible repeat (first | refine blk_drewN ?_ _ | refine blk_drew ?_ | refine blk_alloc ?_ _)); refine blk_put (cs := #[.slice none 0 0, .int .i64 0, .int .i64 0, .int .i64 0, .slice none 0 0]) ?_ 3 _ rfl; (with_reducible repeat (first | refine blk_drewN ?_ _ | refine blk_drew ?_ | refine blk_alloc ?_ _)); refine blk_put (cs := #[.slice none 0 0, .int .i64 0, .int .i64 0, .int .i64 0, .slice none 0 0]) ?_ 2 _ rfl; (with_reducible repeat (first | refine blk_drewN ?_ _ | refine blk_drew ?_ | refine blk_alloc ?_ _)); refine blk_put (cs := #[.slice none 0 0, .int .i64 0, .int .i64 0, .int .i64 0, .slice none 0 0]) ?_ 1 _ rfl; (with_reducible repeat (first | refine blk_drewN ?_ _ | refine blk_drew ?_ | refine blk_alloc ?_ _)); refine blk_put (cs := #[.slice none 0 0, .int .i64 0, .int .i64 0, .int .i64 0, .slice none 0 0]) ?_ 0 _ rfl; (with_reducible repeat (first | refine blk_drewN ?_ _ | refine blk_drew ?_ | refine blk_alloc ?_ _)); exact BK228.out) Try.underlying27 rfl (by kernel_rfl)) rfl ?_
    exact ⟨_, _, er2, by first | exact Kd.R_nil _ _ _ _ _ | exact Kd.N_nil _ _ _ _ _ | exact Kd.V_nil _ _ _ _ _ | exact Kd.Q_nil _ _ _ _ _ | exact Kd.S_nil _ _ _ _ _, by first | exact Kd.R_nil _ _ _ _ _ | exact Kd.N_nil _ _ _ _ _ | exact Kd.V_nil _ _ _ _ _ | exact Kd.Q_nil _ _ _ _ _ | exact Kd.S_nil _ _ _ _ _, belowg2 HB GE227 GE228⟩
   ·replace c15 := Bool.eq_false_iff.mpr c15
    subst c15
    have H1 : ((spec_l8Own.f l0_0 a0_1 a0_2 a0_3 l0_4).bind fun bt231 => ((spec_l8Put.f kj2 bt231.1 bt231.2.1 bt231.2.2.1 bt231.2.2.2.1 bt231.2.2.2.2 a1).bind fun bt240 => ((spec_l8Own.f bt240.1 bt240.2.1 bt240.2.2.1 bt240.2.2.2.1 bt240.2.2.2.2.1).bind fun bt251 => (some (bt251.1, bt251.2.1, bt251.2.2.1, bt251.2.2.2.1, bt251.2.2.2.2, bt240.2.2.2.2.2, true))))) = some (r1, r2, r3, r4, r5, r6, r7) := by rw [if_neg (show ¬ (false = true) by decide)] at H; exact H
    clear H
    have H := H1
    clear H1; replace H := bS H; obtain ⟨⟨t231, t234, t235, t236, t237⟩, A18, H⟩ := H
    replace H : ((spec_l8Put.f kj2 t231 t234 t235 t236 t237 a1).bind fun bt240 => ((spec_l8Own.f bt240.1 bt240.2.1 bt240.2.2.1 bt240.2.2.2.1 bt240.2.2.2.2.1).bind fun bt251 => (some (bt251.1, bt251.2.1, bt251.2.2.1, bt251.2.2.2.1, bt251.2.2.2.2, bt240.2.2.2.2.2, true)))) = some (r1, r2, r3, r4, r5, r6, r7) := H
    replace H := bS H; obtain ⟨⟨t240, t243, t244, t245, t246, t249⟩, A19, H⟩ := H
    replace H : ((spec_l8Own.f t240 t243 t244 t245 t246).bind fun bt251 => (some (bt251.1, bt251.2.1, bt251.2.2.1, bt251.2.2.2.1, bt251.2.2.2.2, t249, true))) = some (r1, r2, r3, r4, r5, r6, r7) := H
    replace H := bS H; obtain ⟨⟨t251, t254, t255, t256, t257⟩, A20, H⟩ := H
    replace H : (some (t251, t254, t255, t256, t257, t249, true)) = some (r1, r2, r3, r4, r5, r6, r7) := H
    simp only [Option.some.injEq, Prod.mk.injEq] at H
    obtain ⟨rfl, rfl, rfl, rfl, rfl, rfl, rfl⟩ := H; have hnb21 := NB227_228.out; have hnc21 := NB228_227.out; obtain ⟨hcz22_0, hcz22_1, hcz22_2, hcz22_3, hcz22_4, hfz22_0, hfz22_1, hfz22_2, hfz22_3, hfz22_4⟩ := box5 BK227
    go_wp2_with (first | ((with_reducible refine gate_callee (f := 97) rfl ?_); refine goesLa (some 20) rfl Try.func97 #[.agg #[.slice A0_0 l0_0.length c0_0, .int .i64 a0_1, .int .i64 a0_2, .int .i64 a0_3, .slice A0_4 l0_4.length c0_4]] rfl ?_; (with_reducible refine (spec_l8Own.calls _ _ l0_0 a0_1 a0_2 a0_3 _ _ l0_4 t231 t234 t235 t236 t237 _ ?side1 ?side2 ?side3 ?side4 A18.out).mono ?_); (case side1 => exact cd (Kd.C_below HR0_0.out HB.out)); (case side2 => exact HC0_0.out); (case side3 => exact cd (Kd.C_below HR0_4.out HB.out)); (case side4 => exact HC0_4.out); rintro e w23 ⟨v232, v238, rfl, ho0, ho1, hb⟩; refine ⟨_, rfl, ?_⟩; have HO233 := ak (Kd.R_lower ho0 (below_size (belowg2 HB GE227 GE228))); have HO239 := ak (Kd.R_lower ho1 (below_size (belowg2 HB GE227 GE228))); replace BK227 := ak (blk_below (blkd BK227) hb); replace BK228 := ak (blk_below (blkd BK228) hb); replace HB := ak (below_step (belowg2 HB GE227 GE228) hb); (try clear hb); (try clear ho0); (try clear ho1); obtain ⟨Ao24, co24, eo24⟩ := Kd.R_slice HO233.out; subst eo24; obtain ⟨Ao25, co25, eo25⟩ := Kd.R_slice HO239.out; subst eo25) | ((with_reducible refine gate_callee (f := 96) rfl ?_); refine goesLa (some 22) rfl Try.func96 #[.agg #[.slice Ao24 t231.length co24, .int .i64 t234, .int .i64 t235, .int .i64 t236, .slice Ao25 t237.length co25], .string a1] rfl ?_; (with_reducible refine (spec_l8Put.calls kj2 (fun k_ => some k_ = (.slice Ao24 t231.length co24 : Value).ownBlock) (.slice Ao24 t231.length co24) t231 t234 t235 t236 (fun k_ => some k_ = (.slice Ao25 t237.length co25 : Value).ownBlock) (.slice Ao25 t237.length co25) t237 a1 t240 t243 t244 t245 t246 t249 w _ ?side1 ?side2 ?side3 A19.out).mono ?_); (case side1 => repeat (first | (with_reducible first | exact HB.out | apply below_alloc | apply pw_below_drewN | apply below_drew1 | refine below_set ?_ GE227.out | refine below_set ?_ GE228.out) | exact HB.out)); (case side2 => exact Kd.R_tight rfl HO233.out); (case side3 => exact Kd.R_tight rfl HO239.out); rintro e w26 ⟨v241, v247, rfl, ho0, ho1, hb, hkp⟩; refine ⟨_, rfl, ?_⟩; replace BK227 := ak (blk_kept (blkd BK227) hkp (fun hs_ => Or.elim hs_ (fun e_ => (fun e_ => (Kd.R_ne HO233.out BK227.out (by decide)) e_) e_) (fun e_ => (fun e_ => (Kd.R_ne HO239.out BK227.out (by decide)) e_) e_))); replace BK228 := ak (blk_kept (blkd BK228) hkp (fun hs_ => Or.elim hs_ (fun e_ => (fun e_ => (Kd.R_ne HO233.out BK228.out (by decide)) e_) e_) (fun e_ => (fun e_ => (Kd.R_ne HO239.out BK228.out (by decide)) e_) e_))); have HO242 := ak (Kd.R_mono (ok' := fun k_ => True) ho0 (fun k_ hk_ => trivial)); have HO248 := ak (Kd.R_mono (ok' := fun k_ => True) ho1 (fun k_ hk_ => trivial)); replace HB := ak (hb); clear HO233 HO239; (try clear hb); (try clear hkp); (try clear ho0); (try clear ho1)) | ((with_reducible refine gate_dst (N := 7) rfl ?_); refine boxev 7 #[.slice none 0 0, .int .i64 0, .int .i64 0, .int .i64 0, .slice none 0 0] 27 ?_; intro gb250 hg w27 hbox hb; replace HO242 := ak (Kd.R_below (rdl HO242) hb); replace HO248 := ak (Kd.R_below (rdl HO248) hb); have BK250 := ak (hbox); have GW250 := ak (hgl hg (belowg2 HB GE227 GE228)); have GE250 := ak (hgl hg (belowg2 HB GE227 GE228)); replace HB := ak (below_step (belowg2 HB GE227 GE228) hb); have NB227_250 := ak ((by rw [hg]; exact Nat.ne_of_lt (blk_lt (blkd BK227)) : gb227 ≠ gb250)); have NB250_227 := ak ((by rw [hg]; exact Nat.ne_of_gt (blk_lt (blkd BK227)) : gb250 ≠ gb227)); replace BK227 := ak (blk_below (blkd BK227) hb); have NB228_250 := ak ((by rw [hg]; exact Nat.ne_of_lt (blk_lt (blkd BK228)) : gb228 ≠ gb250)); have NB250_228 := ak ((by rw [hg]; exact Nat.ne_of_gt (blk_lt (blkd BK228)) : gb250 ≠ gb228)); replace BK228 := ak (blk_below (blkd BK228) hb); clear hb hbox hg; obtain ⟨Ao28, co28, eo28⟩ := Kd.R_slice HO242.out; subst eo28; have hnb29 := NB250_227.out; have hnc29 := NB227_250.out; have hnb30 := NB250_228.out; have hnc30 := NB228_250.out; obtain ⟨hcz31_0, hcz31_1, hcz31_2, hcz31_3, hcz31_4, hfz31_0, hfz31_1, hfz31_2, hfz31_3, hfz31_4⟩ := box5 BK250; obtain ⟨Ao32, co32, eo32⟩ := Kd.R_slice HO248.out; subst eo32) | ((with_reducible refine gate_callee (f := 97) rfl ?_); refine goesLa (some 26) rfl Try.func97 #[.agg #[.slice Ao28 t240.length co28, .int .i64 t243, .int .i64 t244, .int .i64 t245, .slice Ao32 t246.length co32]] rfl ?_; (with_reducible refine (spec_l8Own.calls _ _ t240 t243 t244 t245 _ _ t246 t251 t254 t255 t256 t257 _ ?side1 ?side2 ?side3 ?side4 A20.out).mono ?_); (case side1 => refine (Kd.R_reads' (e := 9) (base := w.heap.size) (ok := fun k_ => True) (n := t240.length) (c := co28) ?_).2.2; exact (by (with_reducible repeat (first | apply Kd.R_alloc | apply Kd.R_drewN | apply Kd.R_drew)); exact (Kd.R_mono (farsR (Kd.R_types HO242.out BK250.out (by decide))) (fun _ h_ => h_.1)))); (case side2 => exact (Kd.R_reads' HO242.out).2.1); (case side3 => refine (Kd.R_reads' (e := 3) (base := w.heap.size) (ok := fun k_ => True) (n := t246.length) (c := co32) ?_).2.2; exact (by (with_reducible repeat (first | apply Kd.R_alloc | apply Kd.R_drewN | apply Kd.R_drew)); exact (Kd.R_mono (farsR (Kd.R_types HO248.out BK250.out (by decide))) (fun _ h_ => h_.1)))); (case side4 => exact (Kd.R_reads' HO248.out).2.1); rintro e w33 ⟨v252, v258, rfl, ho0, ho1, hb⟩; refine ⟨_, rfl, ?_⟩; have HO253 := ak (Kd.R_lower (Kd.R_new' ho0 (Kd.R_lt (by (with_reducible repeat (first | apply Kd.R_alloc | apply Kd.R_drewN | apply Kd.R_drew)); exact (Kd.R_mono (farsR (Kd.R_types HO242.out BK250.out (by decide))) (fun _ h_ => h_.1))))) (below_size (belowg3 HB GE227 GE228 GE250))); replace HO242 := ak (Kd.R_elder' (by (with_reducible repeat (first | apply Kd.R_alloc | apply Kd.R_drewN | apply Kd.R_drew)); exact (Kd.R_mono (farsR (Kd.R_types HO242.out BK250.out (by decide))) (fun _ h_ => h_.1))) (Kd.R_base ho0) hb); have HO259 := ak (Kd.R_lower (Kd.R_new' ho1 (Kd.R_lt (by (with_reducible repeat (first | apply Kd.R_alloc | apply Kd.R_drewN | apply Kd.R_drew)); exact (Kd.R_mono (farsR (Kd.R_types HO248.out BK250.out (by decide))) (fun _ h_ => h_.1))))) (below_size (belowg3 HB GE227 GE228 GE250))); replace HO248 := ak (Kd.R_elder' (by (with_reducible repeat (first | apply Kd.R_alloc | apply Kd.R_drewN | apply Kd.R_drew)); exact (Kd.R_mono (farsR (Kd.R_types HO248.out BK250.out (by decide))) (fun _ h_ => h_.1))) (Kd.R_base ho1) hb); replace BK227 := ak (blk_below (g := gb227) (o := .cells #[.slice A0_0 l0_0.length c0_0, .int .i64 a0_1, .int .i64 a0_2, .int .i64 a0_3, .slice A0_4 l0_4.length c0_4] 27 (0, 0)) (by (with_reducible repeat (first | refine blk_drewN ?_ _ | refine blk_drew ?_ | refine blk_alloc ?_ _)); refine blk_far ?_ NB227_250.out _; (with_reducible repeat (first | refine blk_drewN ?_ _ | refine blk_drew ?_ | refine blk_alloc ?_ _)); refine blk_far ?_ NB227_250.out _; (with_reducible repeat (first | refine blk_drewN ?_ _ | refine blk_drew ?_ | refine blk_alloc ?_ _)); refine blk_far ?_ NB227_250.out _; (with_reducible repeat (first | refine blk_drewN ?_ _ | refine blk_drew ?_ | refine blk_alloc ?_ _)); refine blk_far ?_ NB227_250.out _; (with_reducible repeat (first | refine blk_drewN ?_ _ | refine blk_drew ?_ | refine blk_alloc ?_ _)); refine blk_far ?_ NB227_250.out _; (with_reducible repeat (first | refine blk_drewN ?_ _ | refine blk_drew ?_ | refine blk_alloc ?_ _)); exact BK227.out) hb); replace BK228 := ak (blk_below (g := gb228) (o := .cells #[.slice none 0 0, .int .i64 0, .int .i64 0, .int .i64 0, .slice none 0 0] 27 (0, 0)) (by (with_reducible repeat (first | refine blk_drewN ?_ _ | refine blk_drew ?_ | refine blk_alloc ?_ _)); refine blk_far ?_ NB228_250.out _; (with_reducible repeat (first | refine blk_drewN ?_ _ | refine blk_drew ?_ | refine blk_alloc ?_ _)); refine blk_far ?_ NB228_250.out _; (with_reducible repeat (first | refine blk_drewN ?_ _ | refine blk_drew ?_ | refine blk_alloc ?_ _)); refine blk_far ?_ NB228_250.out _; (with_reducible repeat (first | refine blk_drewN ?_ _ | refine blk_drew ?_ | refine blk_alloc ?_ _)); refine blk_far ?_ NB228_250.out _; (with_reducible repeat (first | refine blk_drewN ?_ _ | refine blk_drew ?_ | refine blk_alloc ?_ _)); refine blk_far ?_ NB228_250.out _; (with_reducible repeat (first | refine blk_drewN ?_ _ | refine blk_drew ?_ | refine blk_alloc ?_ _)); exact BK228.out) hb); replace BK250 := ak (blk_below (g := gb250) (o := .cells #[.slice Ao28 t240.length co28, .int .i64 t243, .int .i64 t244, .int .i64 t245, .slice Ao32 t246.length co32] 27 (0, 0)) (by (with_reducible repeat (first | refine blk_drewN ?_ _ | refine blk_drew ?_ | refine blk_alloc ?_ _)); refine blk_put (cs := #[.slice Ao28 t240.length co28, .int .i64 t243, .int .i64 t244, .int .i64 t245, .slice none 0 0]) ?_ 4 _ rfl; (with_reducible repeat (first | refine blk_drewN ?_ _ | refine blk_drew ?_ | refine blk_alloc ?_ _)); refine blk_put (cs := #[.slice Ao28 t240.length co28, .int .i64 t243, .int .i64 t244, .int .i64 0, .slice none 0 0]) ?_ 3 _ rfl; (with_reducible repeat (first | refine blk_drewN ?_ _ | refine blk_drew ?_ | refine blk_alloc ?_ _)); refine blk_put (cs := #[.slice Ao28 t240.length co28, .int .i64 t243, .int .i64 0, .int .i64 0, .slice none 0 0]) ?_ 2 _ rfl; (with_reducible repeat (first | refine blk_drewN ?_ _ | refine blk_drew ?_ | refine blk_alloc ?_ _)); refine blk_put (cs := #[.slice Ao28 t240.length co28, .int .i64 0, .int .i64 0, .int .i64 0, .slice none 0 0]) ?_ 1 _ rfl; (with_reducible repeat (first | refine blk_drewN ?_ _ | refine blk_drew ?_ | refine blk_alloc ?_ _)); refine blk_put (cs := #[.slice none 0 0, .int .i64 0, .int .i64 0, .int .i64 0, .slice none 0 0]) ?_ 0 _ rfl; (with_reducible repeat (first | refine blk_drewN ?_ _ | refine blk_drew ?_ | refine blk_alloc ?_ _)); exact BK250.out) hb); replace HB := ak (below_step (belowg3 HB GE227 GE228 GE250) hb); (try clear hb); (try clear ho0); (try clear ho1); obtain ⟨Ao34, co34, eo34⟩ := Kd.R_slice HO253.out; subst eo34; obtain ⟨hcz35_0, hcz35_1, hcz35_2, hcz35_3, hcz35_4, hfz35_0, hfz35_1, hfz35_2, hfz35_3, hfz35_4⟩ := box5 BK228; obtain ⟨Ao36, co36, eo36⟩ := Kd.R_slice HO259.out; subst eo36))
    refine bodyPost_ret (results_ctt rfl _ _ gb228 27 #[.slice Ao34 t251.length co34, .int .i64 t254, .int .i64 t255, .int .i64 t256, .slice Ao36 t257.length co36] (0, 0) _ rfl (by (with_reducible repeat (first | refine blk_drewN ?_ _ | refine blk_drew ?_ | refine blk_alloc ?_ _)); refine blk_put (cs := #[.slice Ao34 t251.length co34, .int .i64 t254, .int .i64 t255, .int .i64 t256, .slice none 0 0]) ?_ 4 _ rfl; (with_reducible repeat (first | refine blk_drewN ?_ _ | refine blk_drew ?_ | refine blk_alloc ?_ _)); refine blk_put (cs := #[.slice Ao34 t251.length co34, .int .i64 t254, .int .i64 t255, .int .i64 0, .slice none 0 0]) ?_ 3 _ rfl; (with_reducible repeat (first | refine blk_drewN ?_ _ | refine blk_drew ?_ | refine blk_alloc ?_ _)); refine blk_put (cs := #[.slice Ao34 t251.length co34, .int .i64 t254, .int .i64 0, .int .i64 0, .slice none 0 0]) ?_ 2 _ rfl; (with_reducible repeat (first | refine blk_drewN ?_ _ | refine blk_drew ?_ | refine blk_alloc ?_ _)); refine blk_put (cs := #[.slice Ao34 t251.length co34, .int .i64 0, .int .i64 0, .int .i64 0, .slice none 0 0]) ?_ 1 _ rfl; (with_reducible repeat (first | refine blk_drewN ?_ _ | refine blk_drew ?_ | refine blk_alloc ?_ _)); refine blk_put (cs := #[.slice none 0 0, .int .i64 0, .int .i64 0, .int .i64 0, .slice none 0 0]) ?_ 0 _ rfl; (with_reducible repeat (first | refine blk_drewN ?_ _ | refine blk_drew ?_ | refine blk_alloc ?_ _)); exact BK228.out) Try.underlying27 rfl (by kernel_rfl)) rfl ?_
    exact ⟨_, _, er2, by (with_reducible repeat (first | apply Kd.R_alloc | apply Kd.R_drewN | apply Kd.R_drew)); exact Kd.R_mono (farsR (Kd.R_types HO253.out BK228.out (by decide))) (fun _ hk => trivial), by (with_reducible repeat (first | apply Kd.R_alloc | apply Kd.R_drewN | apply Kd.R_drew)); exact Kd.R_mono (farsR (Kd.R_types HO259.out BK228.out (by decide))) (fun _ hk => trivial), belowg3 HB GE227 GE228 GE250⟩

/-! ### laws_toIntS: function 35 -/
def laws_toIntS.l0 : Nat → List Int → List Int → Int → Option (List Int)
  | 0, _, _, _ => none
  | k + 1, x0, x3, x4 => if x4 < (x0.length : Int) then (if 0 ≤ x4 then (if x4 < (x3.length : Int) then (laws_toIntS.l0 k x0 (x3.set (x4 : Int).toNat (rd x0 x4)) (wrap64 (x4 + 1))) else (none)) else (none)) else (some x3)
def laws_toIntS.f (k : Nat) (l0 : List Int) : Option (List Int) := if 0 ≤ (l0.length : Int) then (if ((l0.length : Int) : Int).toNat ≤ 35184372088832 then (laws_toIntS.l0 k l0 (List.replicate ((l0.length : Int) : Int).toNat 0) 0) else (none)) else (none)
theorem laws_toIntS.mono_l : ∀ k, (∀ y0 y1 y2, LeO (laws_toIntS.l0 k y0 y1 y2) (laws_toIntS.l0 (k + 1) y0 y1 y2))
 | 0 => fun _ _ _ r h => by simp [laws_toIntS.l0] at h
 | k + 1 => by
  have ih0 := laws_toIntS.mono_l k
  ·intro y0 y1 y2
   unfold laws_toIntS.l0
   repeat' (first | (with_reducible first | exact ih0 _ _ _ | exact LeO.refl _ | exact LeO.none _ | refine LeO.ite ?_ ?_ | refine LeO.bind ?_ (fun _ => ?_)) | exact ih0 _ _ _ | exact LeO.none _ | refine LeO.ite ?_ ?_ | refine LeO.bind ?_ (fun _ => ?_))
theorem laws_toIntS.mono : ∀ a0 k, LeO (laws_toIntS.f k a0) (laws_toIntS.f (k + 1) a0) := by
 intro a0 k
 have ih0 := laws_toIntS.mono_l k
 unfold laws_toIntS.f
 repeat' (first | (with_reducible first | exact ih0 _ _ _ | exact LeO.refl _ | exact LeO.none _ | refine LeO.ite ?_ ?_ | refine LeO.bind ?_ (fun _ => ?_)) | exact ih0 _ _ _ | exact LeO.none _ | refine LeO.ite ?_ ?_ | refine LeO.bind ?_ (fun _ => ?_))
set_option maxHeartbeats 8000000 in
set_option maxRecDepth 100000 in
theorem laws_toIntS.calls (k : Nat) (A0 : Option Addr) (c0 : Nat) (l0 : List Int) (r : List Int) (w : World) (hr0 : Kd.C (Kd.int .i64) w A0 l0.length l0) (hc0 : l0.length ≤ c0) (h : laws_toIntS.f k l0 = some r) :
  Calls Try.prog 35 #[.slice A0 l0.length c0] w fun e w' => ∃ v0_ : Value, e = .returned (v0_) ∧ Kd.R (Kd.int .i64) 3 w' w.heap.size (fun _ => True) v0_ r ∧ Below w.heap.size w w' := by
 have HR0 := Aside0.mk hr0; have HC0 := Aside0.mk hc0; clear hr0 hc0
 have HB := Aside0.mk (Below.refl w.heap.size w)
 have H : (if 0 ≤ (l0.length : Int) then (if ((l0.length : Int) : Int).toNat ≤ 35184372088832 then (laws_toIntS.l0 k l0 (List.replicate ((l0.length : Int) : Int).toNat 0) 0) else (none)) else (none)) = some r := h
 clear h; replace H := ifS H; obtain ⟨c2, H⟩ := H; have c2b0 := eq_true c2
 have c2b1 : decide (0 ≤ (l0.length : Int)) = true := decide_eq_true c2
 clear c2; replace H := ifS H; obtain ⟨c3, H⟩ := H; have c3b0 := eq_true c3
 have c3b1 : decide (((l0.length : Int) : Int).toNat ≤ 35184372088832) = true := decide_eq_true c3
 clear c3
 obtain ⟨y260, hy_⟩ : ∃ y_ : List Int, y_ = (List.replicate ((l0.length : Int) : Int).toNat 0) := ⟨_, rfl⟩
 replace H : (laws_toIntS.l0 k l0 y260 0) = some r := yH
 have Ny260 := ak hy_; clear hy_
 have H' := Aside0.mk H
 clear H
 go_enter Try.func35, Try.ntmps35
 go_wp2_with (first | ((with_reducible refine gate_dst (N := 7) rfl ?_); refine Kd.R_make (Kd.int .i64) _ 3 rfl (N := 7) rfl 23 _ _ rfl (l0.length : Int) rfl rfl Try.underlying23 (.int .i64 0) 8 info3 rfl (by decide) (by omega) 0 (ok := fun _ => True) (okp := fun _ => True) rfl (fun _ hk => hk) trivial (da) (Nat.le_trans (Nat.mul_le_mul_right _ (da : (l0.length : Int).toNat ≤ 35184372088832)) (by omega)) (Below.refl _ _) (Nat.le_refl _) ?_; intro v261 w4 ho5 hb hg_ hnew_; clear hg_ hnew_; (first | rw [← Ny260.out] at ho5 | (simp only [Int.reduceToNat] at ho5; rw [← Ny260.out] at ho5)); have HO262 := ak (Kd.R_lower ho5 (below_size (belowd HB))); replace HB := ak (below_step (belowd HB) hb); clear hb ho5))
 go_loopg [4] k (fun kq v4 w' => ∃ (x3_1 : List Int) (x4_1 : Int), v4 = .int .i64 x4_1 ∧ Aside0 (laws_toIntS.l0 kq l0 x3_1 x4_1 = some r) ∧ Aside0 (kq ≤ k) ∧ Aside0 (Kd.R (Kd.int .i64) 3 w' w.heap.size (fun _ => True) v261 x3_1) ∧ Aside0 (Below w.heap.size w w'))
 case atStart => exact ⟨(y260), (0), er, H', ⟨Nat.le_refl _⟩, ⟨rdl HO262⟩, ⟨belowd HB⟩⟩
 case round =>
  clear H'
  (try clear c2b0); (try clear c2b1); (try clear c3b0); (try clear c3b1)
  obtain ⟨x3_1, x4_1, rfl, HA, HK1, HO_3, HB⟩ := hrel
  cases gk with
  | zero => exact absurd HA.out (by simp [laws_toIntS.l0])
  | succ k1 =>
   have H := HA.out; clear HA
   simp only [laws_toIntS.l0] at H
   by_cases c6 : x4_1 < (l0.length : Int)
   ·rw [if_pos c6] at H
    have c6b0 : decide (x4_1 < (l0.length : Int)) = true := decide_eq_true c6
    clear c6; replace H := ifS H; obtain ⟨c7, H⟩ := H; have c7b0 := decide_eq_true c7; clear c7; replace H := ifS H; obtain ⟨c8, H⟩ := H; have c8b0 := decide_eq_true c8; clear c8
    obtain ⟨y264, hy_⟩ : ∃ y_ : List Int, y_ = (x3_1.set (x4_1 : Int).toNat (rd l0 x4_1)) := ⟨_, rfl⟩
    replace H : (laws_toIntS.l0 k1 l0 y264 (wrap64 (x4_1 + 1))) = some r := yH
    have Ny264 := ak hy_; clear hy_
    have H' := Aside0.mk H
    clear H
    have p263 : 0 ≤ (x4_1 : Int) := da
    have q263 : x4_1 < (l0.length : Int) := da
    obtain ⟨ad263, e263, hx263_0⟩ := Kd.at_int HR0.out x4_1 p263 q263
    cases e263
    replace hx263_0 := (HB.out.cell (World.block_lt_of_cell? w _ hx263_0)).trans hx263_0
    replace p263 := eq_true p263; replace q263 := eq_true q263
    have p9 : 0 ≤ (x4_1 : Int) := da
    have q9 : (x4_1 : Int) < ((x3_1.length : Int) : Int) := da
    obtain ⟨go9, co9, eo9, gb9, gl9, cl9, HG9⟩ := Kd.R_form HO_3.out (by omega)
    (first | cases eo9 | (injection eo9 with ea_ en_ ec_; (first | subst ea_ | (injection ea_ with ea_; subst ea_)); subst ec_; clear en_))
    have GB9 := Aside0.mk gb9; have GG9 := Aside0.mk HG9; clear gb9 gl9 HG9
    obtain ⟨hx9_0, hf9_0⟩ := Kd.R_celln 0 HO_3.out (x4_1 : Int) p9 q9
    replace p9 := eq_true p9; replace q9 := eq_true q9
    have HP10 := Kd.R_putg HO_3.out (x4_1 : Int) (rd l0 x4_1)
    go_wp2_with (first | ((with_reducible refine gate_store (t := 3) (p := 20) rfl ?_); refine store_event (t := 3) (p := 20) (v := ?vo_w11) (w1 := (wr.setCell ⟨go9, (x4_1 : Int).toNat, none⟩ (.int .i64 (rd l0 x4_1)))) ?hg ?ho ?hn ?hr ?_; (case ho => rfl); (case hg => rfl); (case hn => rfl); (case hr => first | (go_simp; done) | (go_simp; rfl)); intro w11 hw; have hg : wr.grownBy w11 (some go9) := (by rw [hw]; exact HP10.2); have hp_ : Kd.R (Kd.int .i64) 3 w11 w.heap.size (fun _ => True) (.slice (some ⟨go9, 0, none⟩) x3_1.length co9) y264 := (by rw [hw, Ny264.out]; exact HP10.1); clear HP10; replace HO_3 := ak (hp_); replace HB := ak ((by rw [hw]; exact below_set (HB.out) GB9.out : Below w.heap.size w w11)); clear hg hw hp_))
    go_roundg k1
    case measure => have := HK1.out; omega
    case rel => exact ⟨(y264), (wrap64 (x4_1 + 1)), er, H', ⟨by have := HK1.out; omega⟩, ⟨rdl HO_3⟩, ⟨belowd HB⟩⟩
   ·rw [if_neg c6] at H
    have c6b0 : decide (x4_1 < (l0.length : Int)) = false := decide_eq_false c6
    clear c6
    obtain rfl := Option.some.inj H
    go_wp2
    go_ret
    exact ⟨_, er2, by (with_reducible repeat (first | apply Kd.R_alloc | apply Kd.R_drewN | apply Kd.R_drew)); exact HO_3.out, belowd HB⟩

/-! ### laws_toStringS: function 98 -/
def laws_toStringS.l0 : Nat → List ByteArray → List ByteArray → Int → Option (List ByteArray)
  | 0, _, _, _ => none
  | k + 1, x0, x3, x4 => if x4 < (x0.length : Int) then (if 0 ≤ x4 then (if x4 < (x3.length : Int) then (laws_toStringS.l0 k x0 (x3.set (x4 : Int).toNat (rdOf ByteArray.empty x0 x4)) (wrap64 (x4 + 1))) else (none)) else (none)) else (some x3)
def laws_toStringS.f (k : Nat) (l0 : List ByteArray) : Option (List ByteArray) := if 0 ≤ (l0.length : Int) then (if ((l0.length : Int) : Int).toNat ≤ 17592186044416 then (laws_toStringS.l0 k l0 (List.replicate ((l0.length : Int) : Int).toNat (⟨#[]⟩ : ByteArray)) 0) else (none)) else (none)
theorem laws_toStringS.mono_l : ∀ k, (∀ y0 y1 y2, LeO (laws_toStringS.l0 k y0 y1 y2) (laws_toStringS.l0 (k + 1) y0 y1 y2))
 | 0 => fun _ _ _ r h => by simp [laws_toStringS.l0] at h
 | k + 1 => by
  have ih0 := laws_toStringS.mono_l k
  ·intro y0 y1 y2
   unfold laws_toStringS.l0
   repeat' (first | (with_reducible first | exact ih0 _ _ _ | exact LeO.refl _ | exact LeO.none _ | refine LeO.ite ?_ ?_ | refine LeO.bind ?_ (fun _ => ?_)) | exact ih0 _ _ _ | exact LeO.none _ | refine LeO.ite ?_ ?_ | refine LeO.bind ?_ (fun _ => ?_))
theorem laws_toStringS.mono : ∀ a0 k, LeO (laws_toStringS.f k a0) (laws_toStringS.f (k + 1) a0) := by
 intro a0 k
 have ih0 := laws_toStringS.mono_l k
 unfold laws_toStringS.f
 repeat' (first | (with_reducible first | exact ih0 _ _ _ | exact LeO.refl _ | exact LeO.none _ | refine LeO.ite ?_ ?_ | refine LeO.bind ?_ (fun _ => ?_)) | exact ih0 _ _ _ | exact LeO.none _ | refine LeO.ite ?_ ?_ | refine LeO.bind ?_ (fun _ => ?_))
set_option maxHeartbeats 8000000 in
set_option maxRecDepth 100000 in
theorem laws_toStringS.calls (k : Nat) (A0 : Option Addr) (c0 : Nat) (l0 : List ByteArray) (r : List ByteArray) (w : World) (hr0 : Kd.C Kd.string w A0 l0.length l0) (hc0 : l0.length ≤ c0) (h : laws_toStringS.f k l0 = some r) :
  Calls Try.prog 98 #[.slice A0 l0.length c0] w fun e w' => ∃ v0_ : Value, e = .returned (v0_) ∧ Kd.R Kd.string 9 w' w.heap.size (fun _ => True) v0_ r ∧ Below w.heap.size w w' := by
 have HR0 := Aside0.mk hr0; have HC0 := Aside0.mk hc0; clear hr0 hc0
 have HB := Aside0.mk (Below.refl w.heap.size w)
 have H : (if 0 ≤ (l0.length : Int) then (if ((l0.length : Int) : Int).toNat ≤ 17592186044416 then (laws_toStringS.l0 k l0 (List.replicate ((l0.length : Int) : Int).toNat (⟨#[]⟩ : ByteArray)) 0) else (none)) else (none)) = some r := h
 clear h; replace H := ifS H; obtain ⟨c2, H⟩ := H; have c2b0 := eq_true c2
 have c2b1 : decide (0 ≤ (l0.length : Int)) = true := decide_eq_true c2
 clear c2; replace H := ifS H; obtain ⟨c3, H⟩ := H; have c3b0 := eq_true c3
 have c3b1 : decide (((l0.length : Int) : Int).toNat ≤ 17592186044416) = true := decide_eq_true c3
 clear c3
 obtain ⟨y265, hy_⟩ : ∃ y_ : List ByteArray, y_ = (List.replicate ((l0.length : Int) : Int).toNat (⟨#[]⟩ : ByteArray)) := ⟨_, rfl⟩
 replace H : (laws_toStringS.l0 k l0 y265 0) = some r := yH
 have Ny265 := ak hy_; clear hy_
 have H' := Aside0.mk H
 clear H
 go_enter Try.func98, Try.ntmps98
 go_wp2_with (first | ((with_reducible refine gate_dst (N := 7) rfl ?_); refine Kd.R_make Kd.string _ 9 rfl (N := 7) rfl 22 _ _ rfl (l0.length : Int) rfl rfl Try.underlying22 (.string ⟨#[]⟩) 16 info9 rfl (by decide) (by omega) (⟨#[]⟩ : ByteArray) (ok := fun _ => True) (okp := fun _ => True) rfl (fun _ hk => hk) trivial (da) (Nat.le_trans (Nat.mul_le_mul_right _ (da : (l0.length : Int).toNat ≤ 17592186044416)) (by omega)) (Below.refl _ _) (Nat.le_refl _) ?_; intro v266 w4 ho5 hb hg_ hnew_; clear hg_ hnew_; (first | rw [← Ny265.out] at ho5 | (simp only [Int.reduceToNat] at ho5; rw [← Ny265.out] at ho5)); have HO267 := ak (Kd.R_lower ho5 (below_size (belowd HB))); replace HB := ak (below_step (belowd HB) hb); clear hb ho5))
 go_loopg [4] k (fun kq v4 w' => ∃ (x3_1 : List ByteArray) (x4_1 : Int), v4 = .int .i64 x4_1 ∧ Aside0 (laws_toStringS.l0 kq l0 x3_1 x4_1 = some r) ∧ Aside0 (kq ≤ k) ∧ Aside0 (Kd.R Kd.string 9 w' w.heap.size (fun _ => True) v266 x3_1) ∧ Aside0 (Below w.heap.size w w'))
 case atStart => exact ⟨(y265), (0), er, H', ⟨Nat.le_refl _⟩, ⟨rdl HO267⟩, ⟨belowd HB⟩⟩
 case round =>
  clear H'
  (try clear c2b0); (try clear c2b1); (try clear c3b0); (try clear c3b1)
  obtain ⟨x3_1, x4_1, rfl, HA, HK1, HO_3, HB⟩ := hrel
  cases gk with
  | zero => exact absurd HA.out (by simp [laws_toStringS.l0])
  | succ k1 =>
   have H := HA.out; clear HA
   simp only [laws_toStringS.l0] at H
   by_cases c6 : x4_1 < (l0.length : Int)
   ·rw [if_pos c6] at H
    have c6b0 : decide (x4_1 < (l0.length : Int)) = true := decide_eq_true c6
    clear c6; replace H := ifS H; obtain ⟨c7, H⟩ := H; have c7b0 := decide_eq_true c7; clear c7; replace H := ifS H; obtain ⟨c8, H⟩ := H; have c8b0 := decide_eq_true c8; clear c8
    obtain ⟨y269, hy_⟩ : ∃ y_ : List ByteArray, y_ = (x3_1.set (x4_1 : Int).toNat (rdOf ByteArray.empty l0 x4_1)) := ⟨_, rfl⟩
    replace H : (laws_toStringS.l0 k1 l0 y269 (wrap64 (x4_1 + 1))) = some r := yH
    have Ny269 := ak hy_; clear hy_
    have H' := Aside0.mk H
    clear H
    have p268 : 0 ≤ (x4_1 : Int) := da
    have q268 : x4_1 < (l0.length : Int) := da
    obtain ⟨ad268, e268, hx268_0⟩ := Kd.at_string HR0.out x4_1 p268 q268
    cases e268
    replace hx268_0 := (HB.out.cell (World.block_lt_of_cell? w _ hx268_0)).trans hx268_0
    replace p268 := eq_true p268; replace q268 := eq_true q268
    have p9 : 0 ≤ (x4_1 : Int) := da
    have q9 : (x4_1 : Int) < ((x3_1.length : Int) : Int) := da
    obtain ⟨go9, co9, eo9, gb9, gl9, cl9, HG9⟩ := Kd.R_form HO_3.out (by omega)
    (first | cases eo9 | (injection eo9 with ea_ en_ ec_; (first | subst ea_ | (injection ea_ with ea_; subst ea_)); subst ec_; clear en_))
    have GB9 := Aside0.mk gb9; have GG9 := Aside0.mk HG9; clear gb9 gl9 HG9
    obtain ⟨hx9_0, hf9_0⟩ := Kd.R_celln (⟨#[]⟩ : ByteArray) HO_3.out (x4_1 : Int) p9 q9
    replace p9 := eq_true p9; replace q9 := eq_true q9
    have HP10 := Kd.R_putg HO_3.out (x4_1 : Int) (rdOf ByteArray.empty l0 x4_1)
    go_wp2_with (first | ((with_reducible refine gate_store (t := 9) (p := 20) rfl ?_); refine store_event (t := 9) (p := 20) (v := ?vo_w11) (w1 := (wr.setCell ⟨go9, (x4_1 : Int).toNat, none⟩ (.string (rdOf ByteArray.empty l0 x4_1)))) ?hg ?ho ?hn ?hr ?_; (case ho => rfl); (case hg => rfl); (case hn => rfl); (case hr => first | (go_simp; done) | (go_simp; rfl)); intro w11 hw; have hg : wr.grownBy w11 (some go9) := (by rw [hw]; exact HP10.2); have hp_ : Kd.R Kd.string 9 w11 w.heap.size (fun _ => True) (.slice (some ⟨go9, 0, none⟩) x3_1.length co9) y269 := (by rw [hw, Ny269.out]; exact HP10.1); clear HP10; replace HO_3 := ak (hp_); replace HB := ak ((by rw [hw]; exact below_set (HB.out) GB9.out : Below w.heap.size w w11)); clear hg hw hp_))
    go_roundg k1
    case measure => have := HK1.out; omega
    case rel => exact ⟨(y269), (wrap64 (x4_1 + 1)), er, H', ⟨by have := HK1.out; omega⟩, ⟨rdl HO_3⟩, ⟨belowd HB⟩⟩
   ·rw [if_neg c6] at H
    have c6b0 : decide (x4_1 < (l0.length : Int)) = false := decide_eq_false c6
    clear c6
    obtain rfl := Option.some.inj H
    go_wp2
    go_ret
    exact ⟨_, er2, by (with_reducible repeat (first | apply Kd.R_alloc | apply Kd.R_drewN | apply Kd.R_drew)); exact HO_3.out, belowd HB⟩

end Go.Proofs.Ytkgogglnipdcfaa.QFnExactPutMix
