/- The pixels of a row of pixels are covered as each sample alone says: for all areas of less than 17592186044416 edges, and all rows. -/
import Derived.Test.YtdmhnjpblpfbfaaURc
import Derived.Test.YtdmhnjpblpfbfaaURd
import Derived.Test.YtdmhnjpblpfbfaaQRasterCovers
namespace Go.Proofs.Ytdmhnjpblpfbfaa.Pure
open Go.RowKit Go.Proofs.Ytdmhnjpblpfbfaa.Q Go.Proofs.Ytdmhnjpblpfbfaa.U Go.Proofs.YtdmhnjpblpfbfaaW.PrintWords Go.Proofs.YtdmhnjpblpfbfaaW.PrintLast Go.Proofs.YtdmhnjpblpfbfaaW.PrintMore
set_option linter.unusedSimpArgs false
set_option linter.unusedVariables false

theorem rd_L2_one' (r : List S40) : rd_L2 [r] ((0 : Nat) : Int) = r := rfl

/-- The whole tile covers each sample of the row 5. -/
theorem whole_area (x y : Int) (hx : 0 ≤ x) (hx2 : x < 2048) (hy : 0 ≤ y) (hy2 : y < 2048) : areaX [[⟨0, 0⟩, ⟨256, 0⟩, ⟨256, 256⟩, ⟨0, 256⟩]] x y 1 = true := by
  have e0 : c8 0 = 0 := by decide
  have e1 : c8 256 = 2048 := by decide
  have p1 : pass ⟨0, 0⟩ ⟨256, 0⟩ x y = false := by
    unfold pass; apply decide_eq_false; unfold passOne; dsimp only; omega
  have p2 : pass ⟨256, 0⟩ ⟨256, 256⟩ x y = true := by
    unfold pass; apply decide_eq_true; left; unfold passOne; dsimp only; rw [e0, e1]; exact ⟨hy, hy2, by omega⟩
  have p3 : pass ⟨256, 256⟩ ⟨0, 256⟩ x y = false := by
    unfold pass; apply decide_eq_false; unfold passOne; dsimp only; omega
  have p4 : pass ⟨0, 256⟩ ⟨0, 0⟩ x y = false := by
    unfold pass; apply decide_eq_false; unfold passOne; dsimp only; rw [e0, e1]; omega
  rw [areaX, areaX, rd_L2_one', Bool.false_xor]
  show ringX _ x y 4 = true
  have e : ringX [⟨0, 0⟩, ⟨256, 0⟩, ⟨256, 256⟩, ⟨0, 256⟩] x y 4 = ((((false ^^ pass ⟨0, 0⟩ ⟨256, 0⟩ x y) ^^ pass ⟨256, 0⟩ ⟨256, 256⟩ x y) ^^ pass ⟨256, 256⟩ ⟨0, 256⟩ x y) ^^ pass ⟨0, 256⟩ ⟨0, 0⟩ x y) := by simp [ringX, rd_T40, List.getD]
  rw [e, p1, p2, p3, p4]
  rfl

theorem cost_whole : cost [[⟨0, 0⟩, ⟨256, 0⟩, ⟨256, 256⟩, ⟨0, 256⟩]] 1 = 6 := rfl

theorem whole_row (n : Nat) (hn : n = 1024) (row : Nat) (hrow : row < n) (F : Nat) (hF : F = 4000) (k : Nat) (hk : 12 + F ≤ k) : raster_Row.f k [[⟨0, 0⟩, ⟨256, 0⟩, ⟨256, 256⟩, ⟨0, 256⟩]] (row : Int) = some (tb n (fun _ => true)) := by
  have hr := row_in n hn [[⟨0, 0⟩, ⟨256, 0⟩, ⟨256, 256⟩, ⟨0, 256⟩]] (by show (1 : Nat) ≤ _; omega) (by
    intro j hj
    obtain rfl : j = 0 := by simp at hj; omega
    show (4 : Nat) ≤ _
    omega) (by
    show cost [[⟨0, 0⟩, ⟨256, 0⟩, ⟨256, 256⟩, ⟨0, 256⟩]] 1 < _
    rw [cost_whole]
    omega) row hrow F hF k (by
    show 2 * cost [[⟨0, 0⟩, ⟨256, 0⟩, ⟨256, 256⟩, ⟨0, 256⟩]] 1 + F ≤ k
    rw [cost_whole]
    exact hk)
  rw [hr]
  refine congrArg some ?_
  apply List.ext_getElem
  · simp [tb]
  · intro i h1 h2
    rw [tb_length] at h1
    simp only [tb, List.getElem_map, List.getElem_range]
    exact whole_area _ _ (by omega) (by omega) (by omega) (by omega)

theorem covers_in (F : Nat) (hF : F = 4000) (k : Nat) (hk : 12 + F ≤ k) : terrlaw5_covers.f k = some true := by
  obtain ⟨n, hn⟩ : ∃ n : Nat, n = 1024 := ⟨_, rfl⟩
  obtain ⟨j5, h5⟩ : ∃ j : Nat, (j : Int) = 5 := ⟨5, by decide⟩
  obtain ⟨jl, hl⟩ : ∃ j : Nat, (j : Int) = 1023 := ⟨1023, by decide⟩
  have h2 : raster_Row.f k [[⟨0, 0⟩, ⟨256, 0⟩, ⟨256, 256⟩, ⟨0, 256⟩]] 5 = some (tb n (fun _ => true)) := by rw [← h5]; exact whole_row n hn j5 (by omega) F hF k hk
  have r0 : rdOf false (tb n (fun _ => true)) 0 = true := tb_rd n (fun _ => true) 0 (by omega)
  have r1 : rdOf false (tb n (fun _ => true)) 1023 = true := by rw [← hl]; exact tb_rd n (fun _ => true) jl (by omega)
  unfold terrlaw5_covers.f terrlaw5_square.f
  rw [Option.bind_some, h2, Option.bind_some, tb_length, if_pos (by omega), if_pos (by omega), r0, if_pos rfl, if_pos (by omega), r1]


/-! ### only the sixteen rows of samples of a row of pixels count for it -/
theorem away_row (S : Nat → Nat → Bool) (y c row : Nat) (hc : c < 64) (h : row / 16 ≠ y) : ∀ n, n ≤ 1024 → sumN (ofPix S (64 * y + c) row) n = 0 := by
  intro n
  induction n with
  | zero => intro _; rfl
  | succ n ih =>
    intro hn
    have e : decide (row / 16 * 64 + n / 16 = 64 * y + c) = false := decide_eq_false (by omega)
    rw [sumN, ih (by omega)]
    unfold ofPix bitI
    rw [e, Bool.and_false, if_neg (by decide)]
    rfl
theorem before_zero (S : Nat → Nat → Bool) (y c : Nat) (hc : c < 64) : ∀ R, R ≤ 16 * y → cnt S (64 * y + c) R 0 = 0 := by
  intro R
  induction R with
  | zero => intro _; rfl
  | succ R ih =>
    intro h
    rw [← cnt_row]
    have e := ih (by omega)
    unfold cnt at e ⊢
    rw [away_row S y c R hc (by omega) 1024 (Nat.le_refl _)]
    have z : sumN (ofPix S (64 * y + c) R) 0 = 0 := rfl
    rw [z] at e
    exact e
theorem after_same (S : Nat → Nat → Bool) (y c : Nat) (hc : c < 64) : ∀ d, cnt S (64 * y + c) (16 * y + 16 + d) 0 = cnt S (64 * y + c) (16 * y + 16) 0 := by
  intro d
  induction d with
  | zero => rfl
  | succ d ih =>
    rw [← ih, show 16 * y + 16 + (d + 1) = (16 * y + 16 + d) + 1 from rfl, ← cnt_row]
    unfold cnt
    rw [away_row S y c (16 * y + 16 + d) hc (by omega) 1024 (Nat.le_refl _)]
    rfl
theorem many_pixels (a : List (List S40)) (y c : Nat) (hy : y < 64) (hc : c < 64) : cnt (insideA a) (64 * y + c) (16 * y + 16) 0 = pixels a (64 * y + c) := by
  have := after_same (insideA a) y c hc (1024 - (16 * y + 16))
  rw [show 16 * y + 16 + (1024 - (16 * y + 16)) = 1024 from by omega] at this
  exact this.symm

/-! ### sums -/
theorem sumN_head (f : Nat → Int) (n : Nat) : sumN f (n + 1) = f 0 + sumN (fun i => f (i + 1)) n := by
  induction n with
  | zero => show sumN f 0 + f 0 = f 0 + 0; show (0 : Int) + f 0 = f 0 + 0; omega
  | succ n ih =>
    rw [show sumN f (n + 1 + 1) = sumN f (n + 1) + f (n + 1) from rfl, ih, show sumN (fun i => f (i + 1)) (n + 1) = sumN (fun i => f (i + 1)) n + f (n + 1) from rfl]
    omega
theorem sumN_back (f : Nat → Int) (n : Nat) : sumN (fun i => f (n - 1 - i)) n = sumN f n := by
  induction n with
  | zero => rfl
  | succ n ih =>
    rw [sumN_head, show sumN f (n + 1) = sumN f n + f n from rfl, ← ih]
    have e : sumN (fun i => f (n + 1 - 1 - (i + 1))) n = sumN (fun i => f (n - 1 - i)) n := sumN_congr _ _ n (fun i _ => by rw [show n + 1 - 1 - (i + 1) = n - 1 - i from by omega])
    rw [e]
    show f (n + 1 - 1 - 0) + _ = _
    rw [show n + 1 - 1 - 0 = n from rfl]
    omega

theorem total_of (N : Nat) (hN : N = 64) (f : Nat → Int) (hf : ∀ p, 0 ≤ f p ∧ f p ≤ 2000000) : ∀ (d k i : Nat), i + d = N → d < k →
    raster_Total.l0 k (sumN f i) (tab N f) (N : Int) (i : Int) = some (sumN f N) := by
  intro d
  induction d with
  | zero =>
    intro k i hi hk
    obtain ⟨k, rfl⟩ : ∃ m, k = m + 1 := ⟨k - 1, by omega⟩
    obtain rfl : i = N := by omega
    rw [raster_Total.l0, if_neg (by omega)]
  | succ d ih =>
    intro k i hi hk
    obtain ⟨k, rfl, hk1⟩ := lt_one hk
    have hlt : i < N := by omega
    have b := sumN_bd2 2000000 f i (fun j _ => hf j)
    have b2 := hf i
    have c1 : (i : Int) < (N : Int) := by omega
    have w1 : wrap64 ((i : Int) + 1) = ((i + 1 : Nat) : Int) := by rw [wrap_id (by omega) (by omega)]; omega
    have w2 : wrap64 (sumN f i + f i) = sumN f (i + 1) := by rw [wrap_id (by omega) (by omega)]; rfl
    rw [raster_Total.l0, if_pos c1, if_pos (Int.natCast_nonneg _), if_pos (by rw [tab_length]; exact c1), tab_rd N f i hlt, w1, w2]
    exact ih k (i + 1) (by omega) hk1

theorem sum_of (N : Nat) (hN : N = 64) (f : Nat → Int) (hf : ∀ p, 0 ≤ f p ∧ f p ≤ 2000000) : ∀ (d k i : Nat), i + d = N → d < k →
    terrlaw5_sum.l0 k (tab N f) (sumN (fun j => f (N - 1 - j)) i) (N : Int) (i : Int) = some (sumN (fun j => f (N - 1 - j)) N) := by
  intro d
  induction d with
  | zero =>
    intro k i hi hk
    obtain ⟨k, rfl⟩ : ∃ m, k = m + 1 := ⟨k - 1, by omega⟩
    obtain rfl : i = N := by omega
    rw [terrlaw5_sum.l0, if_neg (by omega)]
  | succ d ih =>
    intro k i hi hk
    obtain ⟨k, rfl, hk1⟩ := lt_one hk
    have hlt : i < N := by omega
    have b := sumN_bd2 2000000 (fun j => f (N - 1 - j)) i (fun j _ => hf _)
    have b2 := hf (N - 1 - i)
    have c1 : (i : Int) < (N : Int) := by omega
    have w0 : wrap64 (wrap64 ((N : Int) - 1) - (i : Int)) = ((N - 1 - i : Nat) : Int) := by rw [wrap_id (x := (N : Int) - 1) (by omega) (by omega), wrap_id (by omega) (by omega)]; omega
    have w1 : wrap64 ((i : Int) + 1) = ((i + 1 : Nat) : Int) := by rw [wrap_id (by omega) (by omega)]; omega
    have w2 : wrap64 (sumN (fun j => f (N - 1 - j)) i + f (N - 1 - i)) = sumN (fun j => f (N - 1 - j)) (i + 1) := by rw [wrap_id (by omega) (by omega)]; rfl
    have hlt2 : N - 1 - i < N := by omega
    rw [terrlaw5_sum.l0, if_pos c1, tab_length, w0, if_pos (Int.natCast_nonneg _), if_pos (Int.ofNat_lt.mpr hlt2), tab_rd N f _ hlt2, w1, w2]
    exact ih k (i + 1) (by omega) hk1

theorem ints_equal (N : Nat) (hN : N = 64) (f : Nat → Int) : ∀ (d k i : Nat), i + d = N → d < k → slices_Equal_int_int.l0 k (tab N f) (tab N f) (N : Int) (i : Int) = some true := by
  intro d
  induction d with
  | zero =>
    intro k i hi hk
    obtain ⟨k, rfl⟩ : ∃ m, k = m + 1 := ⟨k - 1, by omega⟩
    rw [slices_Equal_int_int.l0, if_neg (by omega)]
  | succ d ih =>
    intro k i hi hk
    obtain ⟨k, rfl, hk1⟩ := lt_one hk
    have c1 : (i : Int) < (N : Int) := by omega
    have w1 : wrap64 ((i : Int) + 1) = ((i + 1 : Nat) : Int) := by rw [wrap_id (by omega) (by omega)]; omega
    rw [slices_Equal_int_int.l0, if_pos c1, if_pos (Int.natCast_nonneg _), tab_length, if_pos c1, if_pos c1, if_pos rfl, w1]
    exact ih k (i + 1) (by omega) hk1

/-! ### the law's own loops -/
theorem tab_congr (n : Nat) (f g : Nat → Int) (h : ∀ i, i < n → f i = g i) : tab n f = tab n g := by
  apply List.ext_getElem
  · simp [tab]
  · intro i h1 h2
    rw [tab_length] at h1
    simp only [tab, List.getElem_map, List.getElem_range]
    exact h i h1

theorem tab_cut (N y : Nat) (hN : N = 4096) (n : Nat) (hn : n = 64) (hy : y < 64) (f : Nat → Int) (m : Nat) (hm : m = 64 * y) (m2 : Nat) (hm2 : m2 = 64 * y + 64) : ((tab N f).take m2).drop m = tab n (fun c => f (64 * y + c)) := by
  apply List.ext_getElem
  · simp [tab]; omega
  · intro i h1 h2
    rw [tab_length] at h2
    simp only [tab, List.getElem_map, List.getElem_range, List.getElem_drop, List.getElem_take]
    rw [hm]

theorem many_row (n : Nat) (hn : n = 1024) (M : Nat) (hM : M = 64) (a : List (List S40)) (S : Nat → Nat → Bool) (Y : Int) (y : Nat) (cov : List Int) (row : Nat) (hrow : row / 16 = y) (hlt : row < n) (B : Nat)
    (hS : ∀ (i k : Nat), i < n → B ≤ k → terrref5_Sampled.f k a (i : Int) (row : Int) = some (S row i)) : ∀ (d k i : Nat), i + d = n → d + B < k →
    terrlaw5_RasterCovers.l1 k a Y cov (tab M (fun c => cnt S (64 * y + c) row i)) (row : Int) (i : Int) = terrlaw5_RasterCovers.l0 (k - d - 1) a Y cov (tab M (fun c => cnt S (64 * y + c) (row + 1) 0)) ((row + 1 : Nat) : Int) := by
  intro d
  induction d with
  | zero =>
    intro k i hi hk
    obtain ⟨k, rfl⟩ : ∃ m, k = m + 1 := ⟨k - 1, by omega⟩
    obtain rfl : i = n := by omega
    have w := (pix_nums (row := row) (i := row) (by omega) (by omega)).2.2.2
    rw [terrlaw5_RasterCovers.l1, if_neg (by omega), w]
    have e : (fun c => cnt S (64 * y + c) row i) = (fun c => cnt S (64 * y + c) (row + 1) 0) := by
      funext c
      rw [hn]
      exact cnt_row S _ row
    rw [e]
    rfl
  | succ d ih =>
    intro k i hi hk
    obtain ⟨k, rfl, hk1, hkB⟩ : ∃ m, k = m + 1 ∧ d + B < m ∧ B ≤ m := ⟨k - 1, by omega, by omega, by omega⟩
    have hin : i < n := by omega
    have h1 : i < 1024 := by omega
    have c1 : (i : Int) < 1024 := by omega
    have w3 : wrap64 ((i : Int) + 1) = ((i + 1 : Nat) : Int) := (pix_nums (row := row) (i := i) (by omega) h1).2.2.1
    have wq : wrap64 (Int.tdiv (i : Int) 16) = ((i / 16 : Nat) : Int) := by
      rw [Int.tdiv_eq_ediv_of_nonneg (by omega), wrap_id (by omega) (by omega)]; omega
    have hp : i / 16 < M := by omega
    have hk2 : k + 1 - (d + 1) - 1 = k - d - 1 := by omega
    have hi1 : i + 1 + d = n := by omega
    have c3 : ((i / 16 : Nat) : Int) < ((tab M (fun c => cnt S (64 * y + c) row i)).length : Int) := by rw [tab_length]; exact Int.ofNat_lt.mpr hp
    rw [terrlaw5_RasterCovers.l1, if_pos c1, hS i k hin hkB, Option.bind_some, w3, hk2, wq]
    by_cases s : S row i = true
    · rw [if_pos s, if_pos (Int.natCast_nonneg _), if_pos c3, tab_rd M _ _ hp, Int.toNat_natCast, tab_set]
      have e : (fun j => if j = i / 16 then wrap64 (cnt S (64 * y + i / 16) row i + 1) else cnt S (64 * y + j) row i) = (fun c => cnt S (64 * y + c) row (i + 1)) := by
        funext j
        have bd := cnt_bd S (64 * y + j) row i (by omega) (by omega)
        rw [cnt_step]
        unfold ofPix bitI
        rw [s, Bool.true_and]
        by_cases c : j = i / 16
        · subst c
          rw [if_pos rfl, wrap_id (by omega) (by omega), if_pos (decide_eq_true (by omega))]
        · rw [if_neg c, if_neg (by rw [decide_eq_true_iff]; omega)]
          omega
      rw [e]
      exact ih k (i + 1) hi1 hk1
    · rw [if_neg s]
      have e : (fun c => cnt S (64 * y + c) row i) = (fun c => cnt S (64 * y + c) row (i + 1)) := by
        funext j
        rw [cnt_step]
        unfold ofPix bitI
        rw [Bool.eq_false_iff.mpr s, Bool.false_and, if_neg (by decide)]
        omega
      rw [e]
      exact ih k (i + 1) hi1 hk1

theorem many_rows (n : Nat) (hn : n = 1024) (M : Nat) (hM : M = 64) (a : List (List S40)) (S : Nat → Nat → Bool) (Y : Int) (y : Nat) (hY : Y = (y : Int)) (hy : y < 64) (cov : List Int) (B : Nat)
    (hS : ∀ (row i k : Nat), row < n → i < n → B ≤ k → terrref5_Sampled.f k a (i : Int) (row : Int) = some (S row i)) (r : Option Bool) (X : Nat)
    (hend : ∀ k, X ≤ k → terrlaw5_RasterCovers.l0 k a Y cov (tab M (fun c => cnt S (64 * y + c) (16 * y + 16) 0)) ((16 * y + 16 : Nat) : Int) = r) : ∀ (d k row : Nat), row + d = 16 * y + 16 → 16 * y ≤ row → d * (n + 2) + B + X < k →
    terrlaw5_RasterCovers.l0 k a Y cov (tab M (fun c => cnt S (64 * y + c) row 0)) (row : Int) = r := by
  intro d
  induction d with
  | zero =>
    intro k row hr _ hk
    obtain rfl : row = 16 * y + 16 := by omega
    exact hend k (by omega)
  | succ d ih =>
    intro k row hr hlo hk
    rw [Nat.add_mul, Nat.one_mul] at hk
    obtain ⟨k, rfl⟩ : ∃ m, k = m + 1 := ⟨k - 1, by omega⟩
    have w1 : wrap64 (16 * Y) = 16 * (y : Int) := by rw [hY, wrap_id (by omega) (by omega)]
    have w2 : wrap64 (16 * (y : Int) + 16) = 16 * (y : Int) + 16 := wrap_id (by omega) (by omega)
    rw [terrlaw5_RasterCovers.l0, w1, w2, if_pos (by omega)]
    have := many_row n hn M hM a S Y y cov row (by omega) (by omega) B (fun i k hi hk => hS row i k (by omega) hi hk) n k 0 (by omega) (by omega)
    have z : ((0 : Nat) : Int) = 0 := rfl
    rw [z] at this
    rw [this]
    exact ih _ (row + 1) (by omega) (by omega) (by omega)

theorem covers_end (M : Nat) (hM : M = 64) (N : Nat) (hN : N = 4096) (a : List (List S40)) (Y : Int) (y : Nat) (hY : Y = (y : Int)) (hy : y < 64) (k : Nat) (hk : M + 2 ≤ k) :
    terrlaw5_RasterCovers.l0 k a Y (tab N (pixels a)) (tab M (fun c => cnt (insideA a) (64 * y + c) (16 * y + 16) 0)) ((16 * y + 16 : Nat) : Int) = some true := by
  obtain ⟨k, rfl⟩ : ∃ m, k = m + 1 := ⟨k - 1, by omega⟩
  have w1 : wrap64 (16 * Y) = 16 * (y : Int) := by rw [hY, wrap_id (by omega) (by omega)]
  have w2 : wrap64 (16 * (y : Int) + 16) = 16 * (y : Int) + 16 := wrap_id (by omega) (by omega)
  have w3 : wrap64 (64 * Y) = 64 * (y : Int) := by rw [hY, wrap_id (by omega) (by omega)]
  have w4 : wrap64 (64 * (y : Int) + 64) = 64 * (y : Int) + 64 := wrap_id (by omega) (by omega)
  have e1 : tab M (fun c => cnt (insideA a) (64 * y + c) (16 * y + 16) 0) = tab M (fun c => pixels a (64 * y + c)) := tab_congr M _ _ (fun i hi => many_pixels a y i hy (by omega))
  have e2 := tab_cut N y hN M hM hy (pixels a) (64 * (y : Int)).toNat (by omega) (64 * (y : Int) + 64).toNat (by omega)
  have bd : ∀ p, 0 ≤ pixels a p ∧ pixels a p ≤ 2000000 := fun p => cnt_bd _ _ _ _ (by omega) (by omega)
  rw [terrlaw5_RasterCovers.l0, w1, w2, if_neg (by omega), w3, w4, if_pos (by omega), if_pos (by omega), if_pos (by rw [tab_length]; omega), e1, e2]
  generalize hg : (fun c => pixels a (64 * y + c)) = g
  have bg : ∀ p, 0 ≤ g p ∧ g p ≤ 2000000 := by intro p; rw [← hg]; exact bd _
  have q1 := ints_equal M hM g M k 0 (by omega) (by omega)
  have q2 := total_of M hM g bg M k 0 (by omega) (by omega)
  have q3 := sum_of M hM g bg M k 0 (by omega) (by omega)
  rw [sumN_back] at q3
  have z : ((0 : Nat) : Int) = 0 := rfl
  have z1 : sumN g 0 = 0 := rfl
  have z2 : sumN (fun j => g (M - 1 - j)) 0 = 0 := rfl
  rw [z] at q1 q2 q3
  rw [z1] at q2
  rw [z2] at q3
  unfold slices_Equal_int_int.f raster_Total.f terrlaw5_sum.f
  rw [if_pos rfl, tab_length, q1, Option.bind_some, if_pos rfl, q2, Option.bind_some, q3, Option.bind_some]
  simp

theorem zeros_tab (M : Nat) (hM : M = 64) (S : Nat → Nat → Bool) (y : Nat) : List.replicate 64 (0 : Int) = tab M (fun c => cnt S (64 * y + c) (16 * y) 0) := by
  have h64 : List.replicate 64 (0 : Int) = List.replicate M 0 := congrArg (fun n => List.replicate n (0 : Int)) hM.symm
  refine h64.trans ((tab_zero M).trans ?_)
  apply tab_congr
  intro i hi
  have h2 : i < 64 := by omega
  have e := before_zero S y i h2 (16 * y) (Nat.le_refl _)
  show (0 : Int) = cnt S (64 * y + i) (16 * y) 0
  rw [e]

theorem RasterCovers (a : List (List S40)) (ha : a.length ≤ 9000000000000000) (hr : ∀ j, j < a.length → (rd_L2 a (j : Int)).length ≤ 9000000000000000) (hc : cost a a.length < 17592186044416) (a1 : Int) : ∃ k, terrlaw5_RasterCovers.f k a a1 = some true := by
  obtain ⟨n, hn⟩ : ∃ n : Nat, n = 1024 := ⟨_, rfl⟩
  obtain ⟨N, hN⟩ : ∃ N : Nat, N = 4096 := ⟨_, rfl⟩
  obtain ⟨M, hM⟩ : ∃ M : Nat, M = 64 := ⟨_, rfl⟩
  obtain ⟨F, hF⟩ : ∃ F : Nat, F = 4000 := ⟨_, rfl⟩
  obtain ⟨K0, h0⟩ := cover_in N hN a ha hr hc
  obtain ⟨y, hy, hY⟩ : ∃ y : Nat, y < 64 ∧ Int.tmod (wrap64 (Int.tmod a1 64 + 64)) 64 = (y : Int) := by
    have b1 := Int.tmod_lt_of_pos a1 (show (0 : Int) < 64 by decide)
    have b2 := Int.lt_tmod_of_pos a1 (show (0 : Int) < 64 by decide)
    rw [wrap_id (by omega) (by omega), Int.tmod_eq_emod_of_nonneg (by omega)]
    exact ⟨((Int.tmod a1 64 + 64) % 64).toNat, by omega, by omega⟩
  obtain ⟨B, hB⟩ : ∃ B : Nat, B = 2 * cost a a.length + 1 := ⟨_, rfl⟩
  have hmain := many_rows n hn M hM a (insideA a) _ y hY hy (tab N (pixels a)) B (fun row i k h1 h2 h3 => sampled_in a ha hr row i (by omega) (by omega) k (by omega)) (some true) (M + 2) (fun k hk => covers_end M hM N hN a _ y hY hy k hk) 16
  obtain ⟨K, hK1, hK2, hK3⟩ : ∃ K : Nat, 12 + F ≤ K ∧ K0 ≤ K ∧ 16 * (n + 2) + B + (M + 2) < K := ⟨12 + F + K0 + (16 * (n + 2) + B + (M + 2)) + 1, by omega, by omega, by omega⟩
  refine ⟨K, ?_⟩
  unfold terrlaw5_RasterCovers.f
  rw [covers_in F hF K hK1, Option.bind_some, if_pos rfl, h0 K hK2, Option.bind_some, if_pos (by rw [tab_length]; omega), if_pos (by decide), hY]
  have hz := zeros_tab M hM (insideA a) y
  have w1 : wrap64 (16 * (y : Int)) = ((16 * y : Nat) : Int) := by rw [wrap_id (by omega) (by omega)]; omega
  rw [hz, w1]
  rw [hY] at hmain
  exact hmain K (16 * y) rfl (Nat.le_refl _) hK3

end Go.Proofs.Ytdmhnjpblpfbfaa.Pure
