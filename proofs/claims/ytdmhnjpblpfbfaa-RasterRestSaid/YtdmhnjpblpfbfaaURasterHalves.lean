/- Two triangles cover together what their rectangle covers, and this is as many samples as it has: for all rectangles that begin within the tile. No condition. -/
import Derived.Test.YtdmhnjpblpfbfaaURc
import Derived.Test.YtdmhnjpblpfbfaaQRasterHalves
namespace Go.Proofs.Ytdmhnjpblpfbfaa.Pure
open Go.RowKit Go.Proofs.Ytdmhnjpblpfbfaa.Q Go.Proofs.Ytdmhnjpblpfbfaa.U Go.Proofs.YtdmhnjpblpfbfaaW.PrintWords Go.Proofs.YtdmhnjpblpfbfaaW.PrintLast Go.Proofs.YtdmhnjpblpfbfaaW.PrintMore
set_option linter.unusedSimpArgs false
set_option linter.unusedVariables false

theorem rd_L2_one (r : List S40) : rd_L2 [r] ((0 : Nat) : Int) = r := rfl
theorem c8_in (v : Int) (h0 : 0 ≤ v) (h1 : v ≤ 400) : c8 v = 8 * v := by
  unfold c8 mx mn
  split <;> split <;> omega

/-! ### bitI ring -/
theorem cost_one (r : List S40) : cost [r] 1 = r.length + 2 := by
  show cost [r] 0 + (rd_L2 [r] (([r].length - (0 + 1) : Nat) : Int)).length + 2 = _
  rw [cost]
  show 0 + (rd_L2 [r] ((0 : Nat) : Int)).length + 2 = _
  rw [rd_L2_one, Nat.zero_add]

theorem inside_one (r : List S40) (row i : Nat) : insideA [r] row i = ringX r (2 * (i : Int) + 1) (2 * (row : Int) + 1) r.length := by
  unfold insideA
  show areaX [r] _ _ 1 = _
  rw [areaX, areaX, rd_L2_one, Bool.false_xor]

theorem ring3 (a b c : S40) (x y : Int) : ringX [a, b, c] x y 3 = (((false ^^ pass a b x y) ^^ pass b c x y) ^^ pass c a x y) := by simp [ringX, rd_T40, List.getD]
theorem ring4 (a b c d : S40) (x y : Int) : ringX [a, b, c, d] x y 4 = ((((false ^^ pass a b x y) ^^ pass b c x y) ^^ pass c d x y) ^^ pass d a x y) := by simp [ringX, rd_T40, List.getD]

/-! ### the edges of a rectangle and its diagonal -/
theorem pass_flat (X X2 u x y : Int) : pass ⟨X, u⟩ ⟨X2, u⟩ x y = false ∧ pass ⟨X2, u⟩ ⟨X, u⟩ x y = false := by
  constructor <;> (unfold pass passOne; apply decide_eq_false; dsimp only; omega)

theorem pass_up (Y Y2 : Int) (hY : 0 ≤ Y) (hY2 : Y < Y2) (lY : Y2 ≤ 400) (x y u : Int) (hu : 0 ≤ u) (hu2 : u ≤ 400) : (pass ⟨u, Y⟩ ⟨u, Y2⟩ x y = true ↔ (8 * Y ≤ y ∧ y < 8 * Y2 ∧ x < 8 * u)) ∧ (pass ⟨u, Y2⟩ ⟨u, Y⟩ x y = true ↔ (8 * Y ≤ y ∧ y < 8 * Y2 ∧ x < 8 * u)) := by
  have e1 := c8_in u hu hu2
  have e2 := c8_in Y hY (by omega)
  have e3 := c8_in Y2 (by omega) lY
  have key : (x - 8 * u) * (8 * Y2 - 8 * Y) < (y - 8 * Y) * (8 * u - 8 * u) ↔ x < 8 * u := by
    rw [Int.sub_self, Int.mul_zero]
    constructor
    · intro h
      rcases Int.lt_or_le x (8 * u) with c | c
      · exact c
      · have := Int.mul_nonneg (show 0 ≤ x - 8 * u by omega) (show 0 ≤ 8 * Y2 - 8 * Y by omega); omega
    · intro h
      exact Int.mul_neg_of_neg_of_pos (by omega) (by omega)
  unfold pass passOne
  rw [e1, e2, e3, decide_eq_true_iff, decide_eq_true_iff, key]
  constructor <;> omega

theorem pass_diag (X Y X2 Y2 : Int) (hX : 0 ≤ X) (hY : 0 ≤ Y) (hX2 : X < X2) (hY2 : Y < Y2) (lX : X2 ≤ 400) (lY : Y2 ≤ 400) (x y : Int) : (pass ⟨X, Y⟩ ⟨X2, Y2⟩ x y = true ↔ (8 * Y ≤ y ∧ y < 8 * Y2 ∧ (x - 8 * X) * (8 * Y2 - 8 * Y) < (y - 8 * Y) * (8 * X2 - 8 * X))) ∧ (pass ⟨X2, Y2⟩ ⟨X, Y⟩ x y = true ↔ (8 * Y ≤ y ∧ y < 8 * Y2 ∧ (x - 8 * X) * (8 * Y2 - 8 * Y) < (y - 8 * Y) * (8 * X2 - 8 * X))) := by
  have e1 := c8_in X hX (by omega)
  have e2 := c8_in Y hY (by omega)
  have e3 := c8_in X2 (by omega) lX
  have e4 := c8_in Y2 (by omega) lY
  unfold pass passOne
  rw [e1, e2, e3, e4, decide_eq_true_iff, decide_eq_true_iff]
  constructor <;> omega

theorem diag_between (X Y X2 Y2 : Int) (hX2 : X < X2) (hY2 : Y < Y2) (x y : Int) (hy : 8 * Y ≤ y ∧ y < 8 * Y2) : (x < 8 * X → (x - 8 * X) * (8 * Y2 - 8 * Y) < (y - 8 * Y) * (8 * X2 - 8 * X)) ∧ ((x - 8 * X) * (8 * Y2 - 8 * Y) < (y - 8 * Y) * (8 * X2 - 8 * X) → x < 8 * X2) := by
  constructor
  · intro h
    have h1 := Int.mul_neg_of_neg_of_pos (show x - 8 * X < 0 by omega) (show 0 < 8 * Y2 - 8 * Y by omega)
    have h2 := Int.mul_nonneg (show 0 ≤ y - 8 * Y by omega) (show 0 ≤ 8 * X2 - 8 * X by omega)
    omega
  · intro h
    rcases Int.lt_or_le x (8 * X2) with c | c
    · exact c
    · have h1 : (8 * X2 - 8 * X) * (8 * Y2 - 8 * Y) ≤ (x - 8 * X) * (8 * Y2 - 8 * Y) := Int.mul_le_mul_of_nonneg_right (by omega) (by omega)
      have h2 : (y - 8 * Y) * (8 * X2 - 8 * X) ≤ (8 * Y2 - 8 * Y) * (8 * X2 - 8 * X) := Int.mul_le_mul_of_nonneg_right (by omega) (by omega)
      rw [Int.mul_comm (8 * Y2 - 8 * Y)] at h2
      omega

/-- The three areas at a sample: the two triangles have no sample in common, and the rectangle's samples together. -/
theorem three (X Y X2 Y2 : Int) (hX : 0 ≤ X) (hY : 0 ≤ Y) (hX2 : X < X2) (hY2 : Y < Y2) (lX : X2 ≤ 400) (lY : Y2 ≤ 400) (x y : Int) (row i : Nat) (hx : x = 2 * (i : Int) + 1) (hy : y = 2 * (row : Int) + 1) :
    bitI (insideA [[⟨X, Y⟩, ⟨X2, Y⟩, ⟨X2, Y2⟩]] row i) + bitI (insideA [[⟨X, Y⟩, ⟨X2, Y2⟩, ⟨X, Y2⟩]] row i) = bitI (insideA [[⟨X, Y⟩, ⟨X2, Y⟩, ⟨X2, Y2⟩, ⟨X, Y2⟩]] row i) ∧
    (insideA [[⟨X, Y⟩, ⟨X2, Y⟩, ⟨X2, Y2⟩, ⟨X, Y2⟩]] row i = true ↔ (8 * Y ≤ y ∧ y < 8 * Y2 ∧ 8 * X ≤ x ∧ x < 8 * X2)) ∧
    ((insideA [[⟨X, Y⟩, ⟨X2, Y⟩, ⟨X2, Y2⟩]] row i = true → insideA [[⟨X, Y⟩, ⟨X2, Y⟩, ⟨X2, Y2⟩, ⟨X, Y2⟩]] row i = true)) ∧
    ((insideA [[⟨X, Y⟩, ⟨X2, Y2⟩, ⟨X, Y2⟩]] row i = true → insideA [[⟨X, Y⟩, ⟨X2, Y⟩, ⟨X2, Y2⟩, ⟨X, Y2⟩]] row i = true)) := by
  rw [inside_one, inside_one, inside_one, ← hx, ← hy]
  show bitI (ringX _ x y 3) + bitI (ringX _ x y 3) = bitI (ringX _ x y 4) ∧ (ringX _ x y 4 = true ↔ _) ∧ (ringX _ x y 3 = true → ringX _ x y 4 = true) ∧ (ringX _ x y 3 = true → ringX _ x y 4 = true)
  rw [ring3, ring3, ring4]
  have f1 := (pass_flat X X2 Y x y).1
  have f2 := (pass_flat X X2 Y2 x y).2
  have v1 := (pass_up Y Y2 hY hY2 lY x y X hX (by omega)).2
  have v2 := (pass_up Y Y2 hY hY2 lY x y X2 (by omega) lX).1
  obtain ⟨d1, d2⟩ := pass_diag X Y X2 Y2 hX hY hX2 hY2 lX lY x y
  have bt := diag_between X Y X2 Y2 hX2 hY2 x y
  rw [f1, f2]
  generalize pass ⟨X2, Y⟩ ⟨X2, Y2⟩ x y = V2 at *
  generalize pass ⟨X, Y2⟩ ⟨X, Y⟩ x y = V1 at *
  generalize pass ⟨X, Y⟩ ⟨X2, Y2⟩ x y = D at *
  generalize pass ⟨X2, Y2⟩ ⟨X, Y⟩ x y = D' at *
  by_cases hy' : 8 * Y ≤ y ∧ y < 8 * Y2
  · have b1 := (bt hy').1
    have b2 := (bt hy').2
    have ed : D' = D := by
      rw [Bool.eq_iff_iff, d1, d2]
    have m1 : V1 = true ↔ x < 8 * X := by rw [v1]; exact ⟨fun h => h.2.2, fun h => ⟨hy'.1, hy'.2, h⟩⟩
    have m2 : V2 = true ↔ x < 8 * X2 := by rw [v2]; exact ⟨fun h => h.2.2, fun h => ⟨hy'.1, hy'.2, h⟩⟩
    have i1 : V1 = true → D = true := fun h => d1.mpr ⟨hy'.1, hy'.2, b1 (m1.mp h)⟩
    have i2 : D = true → V2 = true := fun h => m2.mpr (b2 (d1.mp h).2.2)
    subst ed
    have ex : (8 * Y ≤ y ∧ y < 8 * Y2 ∧ 8 * X ≤ x ∧ x < 8 * X2) ↔ (V1 = false ∧ V2 = true) := by
      rw [m2]
      constructor
      · intro h
        refine ⟨?_, h.2.2.2⟩
        rw [Bool.eq_false_iff]
        intro k
        have := m1.mp k
        omega
      · intro h
        refine ⟨hy'.1, hy'.2, ?_, h.2⟩
        rcases Int.lt_or_le x (8 * X) with k | k
        · have := m1.mpr k; rw [h.1] at this; cases this
        · exact k
    rw [ex]
    clear v1 v2 d1 d2 bt b1 b2 m1 m2 ex hy'
    revert i1 i2
    cases V1 <;> cases V2 <;> cases D' <;> simp [bitI]
  · have k1 : V1 = false := by cases V1 with | false => rfl | true => exact absurd (v1.mp rfl) (by omega)
    have k2 : V2 = false := by cases V2 with | false => rfl | true => exact absurd (v2.mp rfl) (by omega)
    have k3 : D = false := by cases D with | false => rfl | true => exact absurd (d1.mp rfl) (fun h => hy' ⟨h.1, h.2.1⟩)
    have k4 : D' = false := by cases D' with | false => rfl | true => exact absurd (d2.mp rfl) (fun h => hy' ⟨h.1, h.2.1⟩)
    rw [k1, k2, k3, k4]
    refine ⟨rfl, ?_, fun h => h, fun h => h⟩
    constructor
    · intro h; exact absurd h (by decide)
    · intro h; exact absurd ⟨h.1, h.2.1⟩ hy'

/-! ### sums over pixels -/
theorem pixels_add (p q r : List (List S40)) (h : ∀ row i, bitI (insideA p row i) + bitI (insideA q row i) = bitI (insideA r row i)) (x : Nat) : pixels p x + pixels q x = pixels r x := by
  unfold pixels cnt
  have e : ∀ row i, ofPix (insideA p) x row i + ofPix (insideA q) x row i = ofPix (insideA r) x row i := by
    intro row i
    unfold ofPix
    have := h row i
    cases decide (row / 16 * 64 + i / 16 = x) with
    | true => rw [Bool.and_true, Bool.and_true, Bool.and_true]; exact this
    | false => rw [Bool.and_false, Bool.and_false, Bool.and_false]; rfl
  have e1 : sumN (fun row => sumN (ofPix (insideA p) x row) 1024) 1024 + sumN (fun row => sumN (ofPix (insideA q) x row) 1024) 1024 = sumN (fun row => sumN (ofPix (insideA r) x row) 1024) 1024 := by
    rw [← sumN_add]
    apply sumN_congr
    intro row _
    rw [← sumN_add]
    apply sumN_congr
    intro i _
    exact e row i
  have z : ∀ S : Nat → Nat → Bool, sumN (ofPix S x 1024) 0 = 0 := fun _ => rfl
  rw [z, z, z]
  omega

theorem sum_ind (m n : Nat) (v : Int) (h : m < n) : sumN (fun p => if m = p then v else 0) n = v := by
  have key : ∀ n : Nat, sumN (fun p => if m = p then v else 0) n = if m < n then v else 0 := by
    intro n
    induction n with
    | zero => rfl
    | succ n ih =>
      rw [sumN, ih]
      by_cases c : m < n
      · rw [if_pos c, if_neg (by omega), if_pos (by omega)]; omega
      · by_cases d : m = n
        · rw [if_neg c, if_pos d, if_pos (by omega)]; omega
        · rw [if_neg c, if_neg d, if_neg (by omega)]; rfl
  rw [key n, if_pos h]

theorem total_pixels (a : List (List S40)) (N : Nat) (hN : N = 4096) : sumN (pixels a) N = sumN (fun row => sumN (fun i => bitI (insideA a row i)) 1024) 1024 := by
  have e : ∀ p, pixels a p = sumN (fun row => sumN (ofPix (insideA a) p row) 1024) 1024 := by
    intro p
    unfold pixels cnt
    rw [show sumN (ofPix (insideA a) p 1024) 0 = 0 from rfl]
    omega
  rw [sumN_congr _ _ N (fun p _ => e p), sumN_swap]
  apply sumN_congr
  intro row hrow
  rw [sumN_swap]
  apply sumN_congr
  intro i hi
  have e2 : ∀ p, ofPix (insideA a) p row i = if row / 16 * 64 + i / 16 = p then bitI (insideA a row i) else 0 := by
    intro p
    unfold ofPix
    by_cases c : row / 16 * 64 + i / 16 = p
    · rw [if_pos c, decide_eq_true c, Bool.and_true]
    · rw [if_neg c, decide_eq_false c, Bool.and_false]; rfl
  rw [sumN_congr _ _ N (fun p _ => e2 p)]
  exact sum_ind _ N _ (by omega)

theorem span_count (A B : Int) (hA : 0 ≤ A) (hB : A ≤ B) (n : Nat) : sumN (fun i => bitI (decide (8 * A ≤ 2 * (i : Int) + 1 ∧ 2 * (i : Int) + 1 < 8 * B))) n = min (n : Int) (4 * B) - min (n : Int) (4 * A) := by
  induction n with
  | zero => rw [sumN]; omega
  | succ n ih =>
    rw [sumN, ih]
    unfold bitI
    by_cases c : 8 * A ≤ 2 * (n : Int) + 1 ∧ 2 * (n : Int) + 1 < 8 * B
    · rw [if_pos (decide_eq_true c)]; omega
    · rw [if_neg (by rw [decide_eq_true_iff]; exact c)]; omega

theorem total_in (N : Nat) (hN : N = 4096) (f : Nat → Int) (hf : ∀ p, 0 ≤ f p ∧ f p ≤ 2000000) : ∀ (d k i : Nat), i + d = N → d < k →
    raster_Total.l0 k (sumN f i) (tab N f) (N : Int) (i : Int) = some (sumN f N) := by
  intro d
  induction d with
  | zero =>
    intro k i hi hk
    obtain ⟨k, rfl⟩ : ∃ m, k = m + 1 := ⟨k - 1, by omega⟩
    obtain rfl : i = N := by omega
    rw [raster_Total.l0, if_neg (by omega)]
  | succ d ih =>
    intro k i hi hk
    obtain ⟨k, rfl, hk1⟩ := lt_one hk
    have hlt : i < N := by omega
    have b := sumN_bd2 2000000 f i (fun j _ => hf j)
    have b2 := hf i
    have c1 : (i : Int) < (N : Int) := by omega
    have w1 : wrap64 ((i : Int) + 1) = ((i + 1 : Nat) : Int) := by rw [wrap_id (by omega) (by omega)]; omega
    have w2 : wrap64 (sumN f i + f i) = sumN f (i + 1) := by rw [wrap_id (by omega) (by omega)]; rfl
    rw [raster_Total.l0, if_pos c1, if_pos (Int.natCast_nonneg _), if_pos (by rw [tab_length]; exact c1), tab_rd N f i hlt, w1, w2]
    exact ih k (i + 1) (by omega) hk1

theorem halves_loop (N : Nat) (hN : N = 4096) (f g h : Nat → Int) (hfg : ∀ p, f p + g p = h p) (hb : ∀ p, 0 ≤ h p ∧ h p ≤ 2000000) (x y u v : Int) (R : Nat)
    (rest : ∀ k, R ≤ k → ((raster_Total.f k (tab N h)).bind fun t306 => (some (t306 == (wrap64 ((wrap64 (16 * (wrap64 ((mn u 256) - x)))) * (wrap64 ((mn v 256) - y))))))) = some true) : ∀ (d k i : Nat), i + d = N → R + d < k →
    terrkeep5_RasterHalves.l0 k (tab N f) (tab N g) (tab N h) (N : Int) (i : Int) x y u v = some true := by
  intro d
  induction d with
  | zero =>
    intro k i hi hk
    obtain ⟨k, rfl⟩ : ∃ m, k = m + 1 := ⟨k - 1, by omega⟩
    obtain rfl : i = N := by omega
    rw [terrkeep5_RasterHalves.l0, if_neg (by omega)]
    exact rest k (by omega)
  | succ d ih =>
    intro k i hi hk
    obtain ⟨k, rfl, hk1⟩ : ∃ m, k = m + 1 ∧ R + d < m := ⟨k - 1, by omega, by omega⟩
    have hlt : i < N := by omega
    have c1 : (i : Int) < (N : Int) := by omega
    have w1 : wrap64 ((i : Int) + 1) = ((i + 1 : Nat) : Int) := by rw [wrap_id (by omega) (by omega)]; omega
    have e := hfg i
    have b := hb i
    rw [terrkeep5_RasterHalves.l0, if_pos c1, if_pos (Int.natCast_nonneg _), if_pos (by rw [tab_length]; exact c1), if_pos (by rw [tab_length]; exact c1), if_pos (by rw [tab_length]; exact c1), tab_rd N f i hlt, tab_rd N g i hlt, tab_rd N h i hlt, e, wrap_id (x := h i) (by omega) (by omega), if_pos rfl, w1]
    exact ih k (i + 1) (by omega) hk1

theorem cover_one (N : Nat) (hN : N = 4096) (r : List S40) (hr : r.length ≤ 4) : ∃ K, ∀ k, K ≤ k → raster_Cover.f k [r] = some (tab N (pixels [r])) := by
  refine cover_in N hN [r] (by show (1 : Nat) ≤ _; omega) ?_ ?_
  · intro j hj
    obtain rfl : j = 0 := by simp at hj; omega
    rw [rd_L2_one]
    omega
  · show cost [r] 1 < _
    rw [cost_one]
    omega

theorem covered_in : ∃ K, ∀ k, K ≤ k → terrkeep5_covered.f k = some true := by
  obtain ⟨n, hn⟩ : ∃ n : Nat, n = 1024 := ⟨_, rfl⟩
  obtain ⟨F, hF⟩ : ∃ F : Nat, F = 4000 := ⟨_, rfl⟩
  have hr := row_in n hn [[⟨0, 0⟩, ⟨256, 0⟩, ⟨256, 256⟩, ⟨0, 256⟩]] (by show (1 : Nat) ≤ _; omega) (by
    intro j hj
    obtain rfl : j = 0 := by simp at hj; omega
    show (4 : Nat) ≤ _
    omega) (by
    show cost [[⟨0, 0⟩, ⟨256, 0⟩, ⟨256, 256⟩, ⟨0, 256⟩]] 1 < _
    rw [cost_one]
    show (6 : Nat) < _
    omega) 0 (by omega) F hF
  have t := (three 0 0 256 256 (by decide) (by decide) (by decide) (by decide) (by decide) (by decide) 19 1 0 9 (by decide) (by decide)).2.1.mpr (by decide)
  obtain ⟨K, hK⟩ : ∃ K : Nat, 2 * cost [[⟨0, 0⟩, ⟨256, 0⟩, ⟨256, 256⟩, ⟨0, 256⟩]] ([[⟨0, 0⟩, ⟨256, 0⟩, ⟨256, 256⟩, ⟨0, 256⟩]] : List (List S40)).length + F = K := ⟨_, rfl⟩
  refine ⟨K, fun k hk => ?_⟩
  have h1 := hr k (by rw [hK]; exact hk)
  unfold terrkeep5_covered.f terrkeep5_whole.f
  have h2 : raster_Row.f k [[⟨0, 0⟩, ⟨256, 0⟩, ⟨256, 256⟩, ⟨0, 256⟩]] 0 = some (tb n (insideA [[⟨0, 0⟩, ⟨256, 0⟩, ⟨256, 256⟩, ⟨0, 256⟩]] 0)) := h1
  have h9 : rdOf false (tb n (insideA [[⟨0, 0⟩, ⟨256, 0⟩, ⟨256, 256⟩, ⟨0, 256⟩]] 0)) 9 = true := by
    have := tb_rd n (insideA [[⟨0, 0⟩, ⟨256, 0⟩, ⟨256, 256⟩, ⟨0, 256⟩]] 0) 9 (by omega)
    rw [t] at this
    exact this
  rw [Option.bind_some, h2, Option.bind_some, tb_length, if_pos (by omega), if_pos (by omega), h9]

theorem RasterHalves : terrkeep5_RasterHalves.Pure := by
  intro a0 a1 a2 a3 _ _ _ _
  obtain ⟨N, hN⟩ : ∃ N : Nat, N = 4096 := ⟨_, rfl⟩
  obtain ⟨X, eX, X0, X1⟩ := below_spec a0 200 (by decide) (by decide)
  obtain ⟨Y, eY, Y0, Y1⟩ := below_spec a1 200 (by decide) (by decide)
  obtain ⟨u, eu, u0, u1⟩ := below_spec a2 100 (by decide) (by decide)
  obtain ⟨v, ev, v0, v1⟩ := below_spec a3 100 (by decide) (by decide)
  obtain ⟨X2, hX2⟩ : ∃ X2, X2 = X + 1 + u := ⟨_, rfl⟩
  obtain ⟨Y2, hY2⟩ : ∃ Y2, Y2 = Y + 1 + v := ⟨_, rfl⟩
  have wX : wrap64 (wrap64 (X + 1) + u) = X2 := by rw [wrap_id (x := X + 1) (by omega) (by omega), wrap_id (by omega) (by omega)]; omega
  have wY : wrap64 (wrap64 (Y + 1) + v) = Y2 := by rw [wrap_id (x := Y + 1) (by omega) (by omega), wrap_id (by omega) (by omega)]; omega
  have th := fun (row i : Nat) => three X Y X2 Y2 X0 Y0 (by omega) (by omega) (by omega) (by omega) (2 * (i : Int) + 1) (2 * (row : Int) + 1) row i rfl rfl
  obtain ⟨K0, h0⟩ := covered_in
  obtain ⟨K1, h1⟩ := cover_one N hN [⟨X, Y⟩, ⟨X2, Y⟩, ⟨X2, Y2⟩] (by show (3 : Nat) ≤ 4; omega)
  obtain ⟨K2, h2⟩ := cover_one N hN [⟨X, Y⟩, ⟨X2, Y2⟩, ⟨X, Y2⟩] (by show (3 : Nat) ≤ 4; omega)
  obtain ⟨K3, h3⟩ := cover_one N hN [⟨X, Y⟩, ⟨X2, Y⟩, ⟨X2, Y2⟩, ⟨X, Y2⟩] (by show (4 : Nat) ≤ 4; omega)
  have hadd := pixels_add _ _ _ (fun row i => (th row i).1)
  have hin : ∀ row i, insideA [[⟨X, Y⟩, ⟨X2, Y⟩, ⟨X2, Y2⟩, ⟨X, Y2⟩]] row i = (decide (8 * Y ≤ 2 * (row : Int) + 1 ∧ 2 * (row : Int) + 1 < 8 * Y2) && decide (8 * X ≤ 2 * (i : Int) + 1 ∧ 2 * (i : Int) + 1 < 8 * X2)) := by
    intro row i
    rw [Bool.eq_iff_iff, (th row i).2.1, Bool.and_eq_true, decide_eq_true_iff, decide_eq_true_iff]
    constructor
    · intro h; exact ⟨⟨h.1, h.2.1⟩, h.2.2⟩
    · intro h; exact ⟨h.1.1, h.1.2, h.2⟩
  have hb : ∀ p, 0 ≤ pixels [[⟨X, Y⟩, ⟨X2, Y⟩, ⟨X2, Y2⟩, ⟨X, Y2⟩]] p ∧ pixels [[⟨X, Y⟩, ⟨X2, Y⟩, ⟨X2, Y2⟩, ⟨X, Y2⟩]] p ≤ 2000000 := fun p => cnt_bd _ p 1024 0 (by omega) (by omega)
  have tot : sumN (pixels [[⟨X, Y⟩, ⟨X2, Y⟩, ⟨X2, Y2⟩, ⟨X, Y2⟩]]) N = (4 * (min Y2 256 - Y)) * (4 * (min X2 256 - X)) := by
    rw [total_pixels _ N hN]
    have e : ∀ row, sumN (fun i => bitI (insideA [[⟨X, Y⟩, ⟨X2, Y⟩, ⟨X2, Y2⟩, ⟨X, Y2⟩]] row i)) 1024 = (4 * (min X2 256 - X)) * bitI (decide (8 * Y ≤ 2 * (row : Int) + 1 ∧ 2 * (row : Int) + 1 < 8 * Y2)) := by
      intro row
      have e1 : ∀ i, bitI (insideA [[⟨X, Y⟩, ⟨X2, Y⟩, ⟨X2, Y2⟩, ⟨X, Y2⟩]] row i) = bitI (decide (8 * Y ≤ 2 * (row : Int) + 1 ∧ 2 * (row : Int) + 1 < 8 * Y2)) * bitI (decide (8 * X ≤ 2 * (i : Int) + 1 ∧ 2 * (i : Int) + 1 < 8 * X2)) := by
        intro i
        rw [hin]
        generalize decide (8 * Y ≤ 2 * (row : Int) + 1 ∧ 2 * (row : Int) + 1 < 8 * Y2) = P
        generalize decide (8 * X ≤ 2 * (i : Int) + 1 ∧ 2 * (i : Int) + 1 < 8 * X2) = Q
        cases P <;> cases Q <;> rfl
      rw [sumN_congr _ _ 1024 (fun i _ => e1 i), sumN_mul, span_count X X2 X0 (by omega) 1024, Int.mul_comm]
      congr 1
      omega
    rw [sumN_congr _ _ 1024 (fun row _ => e row), sumN_mul, span_count Y Y2 Y0 (by omega) 1024, Int.mul_comm]
    congr 1
    omega
  generalize pixels [[⟨X, Y⟩, ⟨X2, Y⟩, ⟨X2, Y2⟩]] = f1 at *
  generalize pixels [[⟨X, Y⟩, ⟨X2, Y2⟩, ⟨X, Y2⟩]] = f2 at *
  generalize pixels [[⟨X, Y⟩, ⟨X2, Y⟩, ⟨X2, Y2⟩, ⟨X, Y2⟩]] = f3 at *
  have rest : ∀ k, N + 1 ≤ k → ((raster_Total.f k (tab N f3)).bind fun t306 => (some (t306 == (wrap64 ((wrap64 (16 * (wrap64 ((mn X2 256) - X)))) * (wrap64 ((mn Y2 256) - Y))))))) = some true := by
    intro k hk
    have t := total_in N hN f3 hb N k 0 (by omega) (by omega)
    have t' : raster_Total.f k (tab N f3) = some (sumN f3 N) := by
      unfold raster_Total.f
      rw [tab_length]
      exact t
    have m1 : mn X2 256 = min X2 256 := by unfold mn; split <;> omega
    have m2 : mn Y2 256 = min Y2 256 := by unfold mn; split <;> omega
    have bA : 0 ≤ min X2 256 - X ∧ min X2 256 - X ≤ 256 := by omega
    have bB : 0 ≤ min Y2 256 - Y ∧ min Y2 256 - Y ≤ 256 := by omega
    rw [t', Option.bind_some, tot, m1, m2]
    generalize min X2 256 - X = A at *
    generalize min Y2 256 - Y = B at *
    have pr := mul_bd2 (a := 16 * A) (b := B) (by omega) (by omega) (by omega) (by omega)
    rw [wrap_id (x := A) (by omega) (by omega), wrap_id (x := B) (by omega) (by omega), wrap_id (x := 16 * A) (by omega) (by omega), wrap_id (x := 16 * A * B) (by omega) (by omega)]
    congr 1
    rw [beq_iff_eq, Int.mul_comm (4 * B) (4 * A), Int.mul_assoc, Int.mul_assoc, Int.mul_left_comm A 4 B, ← Int.mul_assoc]
    rfl
  obtain ⟨K, hK0, hK1, hK2, hK3, hK4⟩ : ∃ K, K0 ≤ K ∧ K1 ≤ K ∧ K2 ≤ K ∧ K3 ≤ K ∧ N + 1 + N + 2 ≤ K := ⟨K0 + K1 + K2 + K3 + (N + 1 + N + 2), by omega, by omega, by omega, by omega, by omega⟩
  obtain ⟨k, rfl⟩ : ∃ k, K = k + 1 := ⟨K - 1, by omega⟩
  refine ⟨k + 1, ?_⟩
  have len : ∀ f : Nat → Int, ((tab N f).length : Int) = 4096 := by intro f; rw [tab_length]; omega
  unfold terrkeep5_RasterHalves.f
  rw [h0 _ hK0, Option.bind_some, if_pos rfl, eX, Option.bind_some, eY, Option.bind_some, eu, Option.bind_some, ev, Option.bind_some, wX, wY, h1 _ hK1, Option.bind_some, h2 _ hK2, Option.bind_some, h3 _ hK3, Option.bind_some, if_pos (len _), if_pos (len _), len f3, terrkeep5_RasterHalves.j0, if_neg (by decide), tab_length]
  exact halves_loop N hN f1 f2 f3 hadd hb X Y X2 Y2 (N + 1) rest N k 0 (by omega) (by omega)

end Go.Proofs.Ytdmhnjpblpfbfaa.Pure
