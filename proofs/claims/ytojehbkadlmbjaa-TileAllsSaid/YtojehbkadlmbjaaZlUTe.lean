/- The plain law of TileAlls, first part: the tiles found by going down, and the rows of a rectangle of tiles: the same list, once sorted. No condition but those stated. -/
import Derived.Test.YtojehbkadlmbjaaZlUTd
import Derived.Test.YtojehbkadlmbjaaZlQf56a
namespace Go.Proofs.Ytojehbkadlmbjaa.U
set_option linter.unusedSimpArgs false
set_option linter.unusedVariables false
open Go.RowKit Go.Proofs.Ytojehbkadlmbjaa.Q Go.Proofs.YtojehbkadlmbjaaW.PrintWords
/-- The tile's side X, of length s, meets lo .. hi. -/
def Mt (s lo hi X : Int) : Prop := X * s - 1048576 ≤ hi ∧ lo ≤ X * s - 1048576 + s
instance (s lo hi X : Int) : Decidable (Mt s lo hi X) := by unfold Mt; infer_instance
/-- The tiles at zoom z that are found by going down d steps from the tile x, y. -/
def T (z : Nat) (lx ly hx hy : Int) : Nat → Nat → Nat → List S34
  | 0, x, y => if Mt (sd z) lx hx x ∧ Mt (sd z) ly hy y then [⟨z, x, y⟩] else []
  | d + 1, x, y => if Mt (sd (z - (d + 1))) lx hx x ∧ Mt (sd (z - (d + 1))) ly hy y then
      T z lx ly hx hy d (2 * x) (2 * y) ++ T z lx ly hx hy d (2 * x + 1) (2 * y) ++ T z lx ly hx hy d (2 * x) (2 * y + 1) ++ T z lx ly hx hy d (2 * x + 1) (2 * y + 1) else []
theorem T_length (z : Nat) (lx ly hx hy : Int) : ∀ d x y, (T z lx ly hx hy d x y).length ≤ 4 ^ d
  | 0, x, y => by
    rw [T]; split
    · simp
    · simp
  | d + 1, x, y => by
    rw [T]; split
    · have h1 := T_length z lx ly hx hy d (2 * x) (2 * y)
      have h2 := T_length z lx ly hx hy d (2 * x + 1) (2 * y)
      have h3 := T_length z lx ly hx hy d (2 * x) (2 * y + 1)
      have h4 := T_length z lx ly hx hy d (2 * x + 1) (2 * y + 1)
      simp only [List.length_append]
      rw [Nat.pow_succ]
      omega
    · simp
theorem sd_up {z d : Nat} (hd : d ≤ z) (hz : z ≤ 10) : sd (z - d) = ((2 ^ d : Nat) : Int) * sd z := by
  unfold sd
  rw [← Int.natCast_mul, ← Nat.pow_add]
  congr 2
  omega
/-- What meets at zoom z, meets above. -/
theorem Mt_up {z d : Nat} (hd : d ≤ z) (hz : z ≤ 10) {lo hi : Int} {X : Nat} (h : Mt (sd z) lo hi X) : Mt (sd (z - d)) lo hi ((X / 2 ^ d : Nat) : Int) := by
  obtain ⟨h1, h2⟩ := h
  have r := sd_rng hz
  rw [sd_up hd hz]
  have hp : 0 < 2 ^ d := Nat.pow_pos (by decide)
  have a1 : X / 2 ^ d * 2 ^ d ≤ X := Nat.div_mul_le_self X _
  have a2 : X + 1 ≤ (X / 2 ^ d + 1) * 2 ^ d := by have := Nat.lt_div_mul_add (a := X) hp; rw [Nat.add_mul]; omega
  have b1 : (((X / 2 ^ d * 2 ^ d : Nat)) : Int) * sd z ≤ (X : Int) * sd z := Int.mul_le_mul_of_nonneg_right (by omega) (by omega)
  have b2 : ((X + 1 : Nat) : Int) * sd z ≤ (((X / 2 ^ d + 1) * 2 ^ d : Nat) : Int) * sd z := Int.mul_le_mul_of_nonneg_right (by omega) (by omega)
  have e1 : (((X / 2 ^ d * 2 ^ d : Nat)) : Int) * sd z = ((X / 2 ^ d : Nat) : Int) * (((2 ^ d : Nat) : Int) * sd z) := by rw [Int.natCast_mul, Int.mul_assoc]
  have e2 : (((X / 2 ^ d + 1) * 2 ^ d : Nat) : Int) * sd z = ((X / 2 ^ d : Nat) : Int) * (((2 ^ d : Nat) : Int) * sd z) + ((2 ^ d : Nat) : Int) * sd z := by rw [Int.natCast_mul, Int.mul_assoc, Int.natCast_add, Int.add_mul]; rw [Int.natCast_one, Int.one_mul]
  have e3 : ((X + 1 : Nat) : Int) * sd z = (X : Int) * sd z + sd z := by rw [Int.natCast_add, Int.add_mul, Int.natCast_one, Int.one_mul]
  constructor <;> omega
/-- The tiles below x, y at zoom z that meet. -/
def InT (z : Nat) (lx ly hx hy : Int) (d x y : Nat) (m : S34) : Prop := ∃ X Y : Nat, m = ⟨z, X, Y⟩ ∧ X / 2 ^ d = x ∧ Y / 2 ^ d = y ∧ Mt (sd z) lx hx X ∧ Mt (sd z) ly hy Y
theorem half_of {X d x : Nat} : X / 2 ^ (d + 1) = x ↔ X / 2 ^ d = 2 * x ∨ X / 2 ^ d = 2 * x + 1 := by
  rw [Nat.pow_succ, ← Nat.div_div_eq_div_mul]
  omega
theorem mem_T (z : Nat) (hz : z ≤ 10) (lx ly hx hy : Int) (m : S34) : ∀ d x y, d ≤ z → (m ∈ T z lx ly hx hy d x y ↔ InT z lx ly hx hy d x y m)
  | 0, x, y, _ => by
    rw [T]
    unfold InT
    by_cases c : Mt (sd z) lx hx x ∧ Mt (sd z) ly hy y
    · rw [if_pos c, List.mem_singleton]
      constructor
      · rintro rfl; exact ⟨x, y, rfl, by simp, by simp, c.1, c.2⟩
      · rintro ⟨X, Y, rfl, h1, h2, -, -⟩
        rw [Nat.pow_zero, Nat.div_one] at h1 h2
        rw [h1, h2]
    · rw [if_neg c]
      constructor
      · intro h; cases h
      · rintro ⟨X, Y, rfl, h1, h2, h3, h4⟩
        rw [Nat.pow_zero, Nat.div_one] at h1 h2
        subst h1 h2
        exact absurd ⟨h3, h4⟩ c
  | d + 1, x, y, hd => by
    have ih := fun x y => mem_T z hz lx ly hx hy m d x y (by omega)
    rw [T]
    by_cases c : Mt (sd (z - (d + 1))) lx hx x ∧ Mt (sd (z - (d + 1))) ly hy y
    · rw [if_pos c, List.mem_append, List.mem_append, List.mem_append, ih, ih, ih, ih]
      unfold InT
      constructor
      · rintro (((⟨X, Y, e, h1, h2, h3⟩ | ⟨X, Y, e, h1, h2, h3⟩) | ⟨X, Y, e, h1, h2, h3⟩) | ⟨X, Y, e, h1, h2, h3⟩)
        · exact ⟨X, Y, e, half_of.2 (.inl h1), half_of.2 (.inl h2), h3⟩
        · exact ⟨X, Y, e, half_of.2 (.inr h1), half_of.2 (.inl h2), h3⟩
        · exact ⟨X, Y, e, half_of.2 (.inl h1), half_of.2 (.inr h2), h3⟩
        · exact ⟨X, Y, e, half_of.2 (.inr h1), half_of.2 (.inr h2), h3⟩
      · rintro ⟨X, Y, e, h1, h2, h3⟩
        rcases half_of.1 h1 with h1 | h1 <;> rcases half_of.1 h2 with h2 | h2
        · exact .inl (.inl (.inl ⟨X, Y, e, h1, h2, h3⟩))
        · exact .inl (.inr ⟨X, Y, e, h1, h2, h3⟩)
        · exact .inl (.inl (.inr ⟨X, Y, e, h1, h2, h3⟩))
        · exact .inr ⟨X, Y, e, h1, h2, h3⟩
    · rw [if_neg c]
      constructor
      · intro h; cases h
      · rintro ⟨X, Y, e, h1, h2, h3, h4⟩
        refine absurd ⟨?_, ?_⟩ c
        · have := Mt_up hd hz h3; rw [h1] at this; exact this
        · have := Mt_up hd hz h4; rw [h2] at this; exact this
theorem InT_inj {z : Nat} {lx ly hx hy : Int} {d x y x' y' : Nat} {m : S34} (h : InT z lx ly hx hy d x y m) (h' : InT z lx ly hx hy d x' y' m) : x = x' ∧ y = y' := by
  obtain ⟨X, Y, rfl, h1, h2, -⟩ := h
  obtain ⟨X', Y', e, h3, h4, -⟩ := h'
  injection e with _ e1 e2
  have e1 : X = X' := by omega
  have e2 : Y = Y' := by omega
  subst e1 e2
  exact ⟨h1.symm.trans h3, h2.symm.trans h4⟩
theorem nodup_T (z : Nat) (hz : z ≤ 10) (lx ly hx hy : Int) : ∀ d x y, d ≤ z → (T z lx ly hx hy d x y).Nodup
  | 0, x, y, _ => by
    rw [T]; split
    · simp
    · simp
  | d + 1, x, y, hd => by
    have ih := fun x y => nodup_T z hz lx ly hx hy d x y (by omega)
    have dis : ∀ x y x' y', (x ≠ x' ∨ y ≠ y') → ∀ a ∈ T z lx ly hx hy d x y, ∀ b ∈ T z lx ly hx hy d x' y', a ≠ b := by
      rintro x y x' y' hne a ha b hb rfl
      have := InT_inj ((mem_T z hz lx ly hx hy a d x y (by omega)).1 ha) ((mem_T z hz lx ly hx hy a d x' y' (by omega)).1 hb)
      omega
    rw [T]; split
    · refine List.nodup_append.2 ⟨List.nodup_append.2 ⟨List.nodup_append.2 ⟨ih _ _, ih _ _, dis _ _ _ _ (by omega)⟩, ih _ _, ?_⟩, ih _ _, ?_⟩
      · intro a ha
        rcases List.mem_append.1 ha with ha | ha
        · exact dis _ _ _ _ (by omega) a ha
        · exact dis _ _ _ _ (by omega) a ha
      · intro a ha
        rcases List.mem_append.1 ha with ha | ha
        · rcases List.mem_append.1 ha with ha | ha
          · exact dis _ _ _ _ (by omega) a ha
          · exact dis _ _ _ _ (by omega) a ha
        · exact dis _ _ _ _ (by omega) a ha
    · exact List.nodup_nil
/-! ### the rectangle -/
theorem cell_lt {z x0 y0 : Int} {w i j : Nat} (hw : 0 < w) (h : i < j) : leT (cellAt z x0 y0 w i) (cellAt z x0 y0 w j) = true ∧ cellAt z x0 y0 w i ≠ cellAt z x0 y0 w j := by
  have h1 : i / w ≤ j / w := Nat.div_le_div_right (by omega)
  have hi := Nat.div_add_mod i w
  have hj := Nat.div_add_mod j w
  have ho : i / w < j / w ∨ (i / w = j / w ∧ i % w < j % w) := by
    by_cases c : i / w = j / w
    · right
      rw [c] at hi
      exact ⟨c, by omega⟩
    · left; omega
  constructor
  · unfold leT cellAt
    dsimp only
    exact decide_eq_true (by omega)
  · intro e
    unfold cellAt at e
    injection e with _ e1 e2
    omega
theorem grid_sorted (z x0 y0 : Int) (w n : Nat) (hw : 0 < w) : (grid z x0 y0 w n).Pairwise (fun a b => leT a b = true) ∧ (grid z x0 y0 w n).Nodup := by
  unfold grid
  constructor
  · exact List.pairwise_map.2 (List.pairwise_lt_range.imp fun h => (cell_lt hw h).1)
  · exact List.pairwise_map.2 (List.pairwise_lt_range.imp fun h => (cell_lt hw h).2)
theorem mem_grid (z x0 y0 : Int) (w h : Nat) (hw : 0 < w) (m : S34) : m ∈ grid z x0 y0 w (h * w) ↔ m.f0 = z ∧ x0 ≤ m.f1 ∧ m.f1 < x0 + w ∧ y0 ≤ m.f2 ∧ m.f2 < y0 + h := by
  unfold grid
  rw [List.mem_map]
  constructor
  · rintro ⟨i, hi, rfl⟩
    rw [List.mem_range] at hi
    have h1 := Nat.mod_lt i hw
    have h2 : i / w < h := (Nat.div_lt_iff_lt_mul hw).2 hi
    unfold cellAt
    dsimp only
    generalize i / w = q at *
    generalize i % w = r at *
    omega
  · rintro ⟨h0, h1, h2, h3, h4⟩
    obtain ⟨a, ha⟩ : ∃ a : Nat, m.f1 = x0 + a := ⟨(m.f1 - x0).toNat, by omega⟩
    obtain ⟨b, hb⟩ : ∃ b : Nat, m.f2 = y0 + b := ⟨(m.f2 - y0).toNat, by omega⟩
    have ha' : a < w := by omega
    have hb' : b < h := by omega
    have hp := place w b a ha'
    refine ⟨b * w + a, List.mem_range.2 ?_, ?_⟩
    · have : (b + 1) * w ≤ h * w := Nat.mul_le_mul_right w hb'
      rw [Nat.add_mul] at this
      omega
    · unfold cellAt
      rw [hp.1, hp.2]
      obtain ⟨m0, m1, m2⟩ := m
      dsimp only at h0 ha hb
      rw [h0, ha, hb]
theorem leT_trans (a b c : S34) (h1 : leT a b = true) (h2 : leT b c = true) : leT a c = true := by
  unfold leT at *
  have h1 := of_decide_eq_true h1
  have h2 := of_decide_eq_true h2
  exact decide_eq_true (by omega)
theorem leT_total (a b : S34) : (leT a b || leT b a) = true := by
  unfold leT
  rw [Bool.or_eq_true, decide_eq_true_iff, decide_eq_true_iff]
  omega
theorem leT_anti {z : Int} (a b : S34) (ha : a.f0 = z) (hb : b.f0 = z) (h1 : leT a b = true) (h2 : leT b a = true) : a = b := by
  unfold leT at *
  have h1 := of_decide_eq_true h1
  have h2 := of_decide_eq_true h2
  obtain ⟨a0, a1, a2⟩ := a
  obtain ⟨b0, b1, b2⟩ := b
  dsimp only at *
  have e1 : a1 = b1 := by omega
  have e2 : a2 = b2 := by omega
  rw [ha, hb, e1, e2]
/-- Sorted, the tiles that are found by going down are the rows of the rectangle. -/
theorem srt_T (z : Nat) (hz : z ≤ 10) (lx ly hx hy x0 x1 y0 y1 : Int) (hX : Col (sd z) (pw z) lx hx x0 x1) (hY : Col (sd z) (pw z) ly hy y0 y1)
    (a0 : -1048576 ≤ lx) (a1 : lx ≤ hx) (a2 : hx ≤ 1048576) (b0 : -1048576 ≤ ly) (b1 : ly ≤ hy) (b2 : hy ≤ 1048576) :
    srt (T z lx ly hx hy z 0 0) = grid z x0 y0 (x1 - x0 + 1).toNat ((y1 - y0 + 1).toNat * (x1 - x0 + 1).toNat) ∧ okL z (T z lx ly hx hy z 0 0) = true := by
  have hs := sides_pw hz
  obtain ⟨i0, i1, i2, -⟩ := col_bounds _ _ _ _ _ _ _ hs hX a0 a1 a2
  obtain ⟨j0, j1, j2, -⟩ := col_bounds _ _ _ _ _ _ _ hs hY b0 b1 b2
  have hr := sd_rng hz
  have hw : 0 < (x1 - x0 + 1).toNat := by omega
  have hmem : ∀ m, m ∈ T z lx ly hx hy z 0 0 ↔ m ∈ grid z x0 y0 (x1 - x0 + 1).toNat ((y1 - y0 + 1).toNat * (x1 - x0 + 1).toNat) := by
    intro m
    rw [mem_T z hz lx ly hx hy m z 0 0 (Nat.le_refl z), mem_grid _ _ _ _ _ hw]
    have hpw : pw z = ((2 ^ z : Nat) : Int) := rfl
    have hpos : 0 < 2 ^ z := Nat.pow_pos (by decide)
    constructor
    · rintro ⟨X, Y, rfl, h1, h2, h3, h4⟩
      have hX1 : X < 2 ^ z := by rcases Nat.div_eq_zero_iff.1 h1 with h | h <;> omega
      have hY1 : Y < 2 ^ z := by rcases Nat.div_eq_zero_iff.1 h2 with h | h <;> omega
      have c1 := (col_meets _ _ _ _ _ _ _ (X : Int) hs hX a0 a1 a2 (by omega) (by omega)).2 h3
      have c2 := (col_meets _ _ _ _ _ _ _ (Y : Int) hs hY b0 b1 b2 (by omega) (by omega)).2 h4
      dsimp only
      omega
    · rintro ⟨h0, h1, h2, h3, h4⟩
      obtain ⟨m0, m1, m2⟩ := m
      dsimp only at *
      obtain ⟨X, rfl⟩ : ∃ X : Nat, m1 = X := ⟨m1.toNat, by omega⟩
      obtain ⟨Y, rfl⟩ : ∃ Y : Nat, m2 = Y := ⟨m2.toNat, by omega⟩
      exact ⟨X, Y, by rw [h0], Nat.div_eq_of_lt (by omega), Nat.div_eq_of_lt (by omega), (col_meets _ _ _ _ _ _ _ (X : Int) hs hX a0 a1 a2 (by omega) (by omega)).1 (by omega), (col_meets _ _ _ _ _ _ _ (Y : Int) hs hY b0 b1 b2 (by omega) (by omega)).1 (by omega)⟩
  obtain ⟨g1, g2⟩ := grid_sorted z x0 y0 (x1 - x0 + 1).toNat ((y1 - y0 + 1).toNat * (x1 - x0 + 1).toNat) hw
  have hperm := (List.perm_ext_iff_of_nodup (nodup_T z hz lx ly hx hy z 0 0 (Nat.le_refl z)) g2).2 hmem
  have hz0 : ∀ m, m ∈ grid z x0 y0 (x1 - x0 + 1).toNat ((y1 - y0 + 1).toNat * (x1 - x0 + 1).toNat) → m.f0 = z := fun m hm => ((mem_grid _ _ _ _ _ hw m).1 hm).1
  have hp2 := (List.mergeSort_perm (T z lx ly hx hy z 0 0) leT).trans hperm
  refine ⟨List.Perm.eq_of_pairwise (le := fun a b => leT a b = true) (fun a b ha hb => leT_anti a b (hz0 a (hp2.subset ha)) (hz0 b hb)) (List.pairwise_mergeSort leT_trans leT_total _) g1 hp2, ?_⟩
  unfold okL
  rw [Bool.and_eq_true, decide_eq_true_iff]
  have hlen := T_length z lx ly hx hy z 0 0
  have h4 : 4 ^ z ≤ 4 ^ 10 := Nat.pow_le_pow_right (by decide) hz
  have h5 : 4 ^ 10 = 1048576 := by decide
  refine ⟨?_, by omega⟩
  rw [List.all_eq_true]
  intro m hm
  obtain ⟨h0, h1, h2, h3, h4⟩ := (mem_grid _ _ _ _ _ hw m).1 ((hmem m).1 hm)
  exact decide_eq_true (by omega)
end Go.Proofs.Ytojehbkadlmbjaa.U

