/- Plain facts on covered pixels: how many samples of each pixel an area covers, as sums. Conditions: stated at each. -/
import Derived.Test.YtdmhnjpblpfbfaaURb
import Derived.Test.YtdmhnjpblpfbfaaQf43
namespace Go.Proofs.Ytdmhnjpblpfbfaa.U
open Go.RowKit Go.Proofs.Ytdmhnjpblpfbfaa.Q Go.Proofs.YtdmhnjpblpfbfaaW.PrintWords Go.Proofs.YtdmhnjpblpfbfaaW.PrintLast Go.Proofs.YtdmhnjpblpfbfaaW.PrintMore
set_option linter.unusedSimpArgs false
set_option linter.unusedVariables false

/-! ### sums -/
def sumN (f : Nat → Int) : Nat → Int
  | 0 => 0
  | n + 1 => sumN f n + f n
theorem sumN_congr (f g : Nat → Int) (n : Nat) (h : ∀ i, i < n → f i = g i) : sumN f n = sumN g n := by
  induction n with
  | zero => rfl
  | succ n ih => rw [sumN, sumN, ih (fun i hi => h i (by omega)), h n (by omega)]
theorem sumN_add (f g : Nat → Int) (n : Nat) : sumN (fun i => f i + g i) n = sumN f n + sumN g n := by
  induction n with
  | zero => rfl
  | succ n ih => rw [sumN, sumN, sumN, ih]; omega
theorem sumN_zero (n : Nat) : sumN (fun _ => 0) n = 0 := by
  induction n with
  | zero => rfl
  | succ n ih => rw [sumN, ih]; rfl
theorem sumN_mul (c : Int) (f : Nat → Int) (n : Nat) : sumN (fun i => c * f i) n = c * sumN f n := by
  induction n with
  | zero => simp [sumN]
  | succ n ih => rw [sumN, sumN, ih, Int.mul_add]
theorem sumN_swap (f : Nat → Nat → Int) (n m : Nat) : sumN (fun i => sumN (f i) m) n = sumN (fun j => sumN (fun i => f i j) n) m := by
  induction n with
  | zero => rw [sumN]; exact (sumN_zero m).symm
  | succ n ih => rw [sumN, ih, ← sumN_add]; rfl
theorem sumN_bd (f : Nat → Int) (n : Nat) (h : ∀ i, i < n → 0 ≤ f i ∧ f i ≤ 1) : 0 ≤ sumN f n ∧ sumN f n ≤ n := by
  induction n with
  | zero => exact ⟨Int.le_refl _, Int.le_refl _⟩
  | succ n ih =>
    have h1 := ih (fun i hi => h i (by omega))
    have h2 := h n (by omega)
    rw [sumN]
    omega
theorem sumN_bd2 (B : Int) (f : Nat → Int) (n : Nat) (h : ∀ i, i < n → 0 ≤ f i ∧ f i ≤ B) : 0 ≤ sumN f n ∧ sumN f n ≤ B * n := by
  induction n with
  | zero => exact ⟨Int.le_refl _, by simp [sumN]⟩
  | succ n ih =>
    have h1 := ih (fun i hi => h i (by omega))
    have h2 := h n (by omega)
    have e : B * ((n + 1 : Nat) : Int) = B * n + B := by rw [show ((n + 1 : Nat) : Int) = (n : Int) + 1 by omega, Int.mul_add, Int.mul_one]
    rw [sumN, e]
    omega

def bitI (b : Bool) : Int := if b = true then 1 else 0
theorem bitI_bd (b : Bool) : 0 ≤ bitI b ∧ bitI b ≤ 1 := by unfold bitI; split <;> omega

/-- Sample i of a row counts for the pixel p. -/
def ofPix (S : Nat → Nat → Bool) (p row i : Nat) : Int := bitI (S row i && decide (row / 16 * 64 + i / 16 = p))
theorem ofPix_bd (S : Nat → Nat → Bool) (p row i : Nat) : 0 ≤ ofPix S p row i ∧ ofPix S p row i ≤ 1 := bitI_bd _
/-- How many samples of the pixel p belong to S, of the first R rows and C samples of the next row. -/
def cnt (S : Nat → Nat → Bool) (p R C : Nat) : Int := sumN (fun row => sumN (ofPix S p row) 1024) R + sumN (ofPix S p R) C

theorem cnt_bd (S : Nat → Nat → Bool) (p R C : Nat) (hR : R ≤ 1024) (hC : C ≤ 1024) : 0 ≤ cnt S p R C ∧ cnt S p R C ≤ 2000000 := by
  have h1 := sumN_bd2 1024 (fun row => sumN (ofPix S p row) 1024) R (fun i _ => by
    have := sumN_bd (ofPix S p i) 1024 (fun j _ => ofPix_bd S p i j)
    exact ⟨this.1, this.2⟩)
  have h2 := sumN_bd (ofPix S p R) C (fun j _ => ofPix_bd S p R j)
  unfold cnt
  omega

theorem cnt_step (S : Nat → Nat → Bool) (p R C : Nat) : cnt S p R (C + 1) = cnt S p R C + ofPix S p R C := by
  unfold cnt
  rw [sumN]
  omega
theorem cnt_row (S : Nat → Nat → Bool) (p R : Nat) : cnt S p R 1024 = cnt S p (R + 1) 0 := by
  unfold cnt
  rw [show sumN (fun row => sumN (ofPix S p row) 1024) (R + 1) = sumN (fun row => sumN (ofPix S p row) 1024) R + sumN (ofPix S p R) 1024 from rfl, show sumN (ofPix S p (R + 1)) 0 = 0 from rfl]
  omega

/-! ### Cover -/
theorem pix_nums {row i : Nat} (hr : row < 1024) (hi : i < 1024) : wrap64 (wrap64 (wrap64 (Int.tdiv (row : Int) 16) * 64) + wrap64 (Int.tdiv (i : Int) 16)) = ((row / 16 * 64 + i / 16 : Nat) : Int) ∧ row / 16 * 64 + i / 16 < 4096 ∧ wrap64 ((i : Int) + 1) = ((i + 1 : Nat) : Int) ∧ wrap64 ((row : Int) + 1) = ((row + 1 : Nat) : Int) := by
  rw [Int.tdiv_eq_ediv_of_nonneg (by omega), Int.tdiv_eq_ediv_of_nonneg (by omega), wrap_id (x := (row : Int) / 16) (by omega) (by omega), wrap_id (x := (i : Int) / 16) (by omega) (by omega), wrap_id (x := (row : Int) / 16 * 64) (by omega) (by omega), wrap_id (x := (row : Int) / 16 * 64 + (i : Int) / 16) (by omega) (by omega), wrap_id (x := (i : Int) + 1) (by omega) (by omega), wrap_id (x := (row : Int) + 1) (by omega) (by omega)]
  omega

theorem lt_one {d k : Nat} (h : d + 1 < k) : ∃ m, k = m + 1 ∧ d < m := ⟨k - 1, by omega, by omega⟩
theorem pos_one {d k : Nat} (h : d < k) : ∃ m, k = m + 1 ∧ d ≤ m := ⟨k - 1, by omega, by omega⟩

theorem cover_row (n N : Nat) (hn : n = 1024) (hN : N = 4096) (a : List (List S40)) (S : Nat → Nat → Bool) (row : Nat) (hr : row < 1024) : ∀ (d k i : Nat), i + d = n → d < k →
    raster_Cover.l1 k a (tab N (fun p => cnt S p row i)) (row : Int) (row : Int) (tb n (S row)) (n : Int) (i : Int) = raster_Cover.l0 (k - d - 1) a (tab N (fun p => cnt S p (row + 1) 0)) ((row + 1 : Nat) : Int) := by
  intro d
  induction d with
  | zero =>
    intro k i hi hk
    obtain ⟨k, rfl, -⟩ := pos_one hk
    obtain rfl : i = n := by omega
    have w := (pix_nums hr hr).2.2.2
    rw [raster_Cover.l1, if_neg (Int.lt_irrefl _), w]
    have e : (fun p => cnt S p row i) = (fun p => cnt S p (row + 1) 0) := by
      funext p
      rw [hn]
      exact cnt_row S p row
    rw [e]
    rfl
  | succ d ih =>
    intro k i hi hk
    obtain ⟨k, rfl, hk1⟩ := lt_one hk
    have hlt : i < n := by omega
    have h1 : i < 1024 := by omega
    obtain ⟨w1, w2, w3, -⟩ := pix_nums hr h1
    have c1 : (i : Int) < (n : Int) := by omega
    have c2 : (i : Int) < ((tb n (S row)).length : Int) := by rw [tb_length]; exact c1
    have hp : row / 16 * 64 + i / 16 < N := by omega
    have c3 : ((row / 16 * 64 + i / 16 : Nat) : Int) < ((tab N (fun p => cnt S p row i)).length : Int) := by rw [tab_length]; exact Int.ofNat_lt.mpr hp
    have hk2 : k + 1 - (d + 1) - 1 = k - d - 1 := by omega
    have hi1 : i + 1 + d = n := by omega
    rw [raster_Cover.l1, if_pos c1, if_pos (Int.natCast_nonneg _), if_pos c2, tb_rd n _ i hlt, w3, hk2]
    by_cases s : S row i = true
    · rw [if_pos s, w1, if_pos (Int.natCast_nonneg _), if_pos c3, tab_rd N _ _ hp, Int.toNat_natCast, tab_set]
      have e : (fun j => if j = row / 16 * 64 + i / 16 then wrap64 (cnt S (row / 16 * 64 + i / 16) row i + 1) else cnt S j row i) = (fun p => cnt S p row (i + 1)) := by
        funext j
        have bd := cnt_bd S j row i (by omega) (by omega)
        rw [cnt_step]
        unfold ofPix bitI
        rw [s, Bool.true_and]
        by_cases c : j = row / 16 * 64 + i / 16
        · subst c
          rw [if_pos rfl, wrap_id (by omega) (by omega), if_pos (decide_eq_true rfl)]
        · rw [if_neg c, if_neg (by rw [decide_eq_true_iff]; exact fun h => c h.symm)]
          omega
      rw [e]
      exact ih k (i + 1) hi1 hk1
    · rw [if_neg s]
      have e : (fun p => cnt S p row i) = (fun p => cnt S p row (i + 1)) := by
        funext j
        rw [cnt_step]
        unfold ofPix bitI
        rw [Bool.eq_false_iff.mpr s, Bool.false_and, if_neg (by decide)]
        omega
      rw [e]
      exact ih k (i + 1) hi1 hk1

theorem cover_rows (n N : Nat) (hn : n = 1024) (hN : N = 4096) (a : List (List S40)) (S : Nat → Nat → Bool) (B : Nat) (hB : n ≤ B) (hrow : ∀ (row k : Nat), row < n → B ≤ k → raster_Row.f k a (row : Int) = some (tb n (S row))) : ∀ (d k row : Nat), row + d = n → d * (n + 2) + B < k →
    raster_Cover.l0 k a (tab N (fun p => cnt S p row 0)) (row : Int) = some (tab N (fun p => cnt S p n 0)) := by
  intro d
  induction d with
  | zero =>
    intro k row hr hk
    obtain ⟨k, rfl⟩ : ∃ m, k = m + 1 := ⟨k - 1, by omega⟩
    obtain rfl : row = n := by omega
    rw [raster_Cover.l0, if_neg (by omega)]
  | succ d ih =>
    intro k row hr hk
    rw [Nat.add_mul, Nat.one_mul] at hk
    obtain ⟨k, rfl⟩ : ∃ m, k = m + 1 := ⟨k - 1, by omega⟩
    have hlt : row < n := by omega
    have c1 : (row : Int) < 1024 := by omega
    rw [raster_Cover.l0, if_pos c1, hrow row k hlt (by omega), Option.bind_some, tb_length]
    have := cover_row n N hn hN a S row (by omega) n k 0 (by omega) (by omega)
    have z : ((0 : Nat) : Int) = 0 := rfl
    rw [z] at this
    rw [this]
    exact ih _ (row + 1) (by omega) (by omega)

/-- The samples that an area covers. -/
def insideA (a : List (List S40)) (row i : Nat) : Bool := areaX a (2 * (i : Int) + 1) (2 * (row : Int) + 1) a.length
def pixels (a : List (List S40)) (p : Nat) : Int := cnt (insideA a) p 1024 0

theorem cover_in (N : Nat) (hN : N = 4096) (a : List (List S40)) (ha : a.length ≤ 9000000000000000) (hr : ∀ j, j < a.length → (rd_L2 a (j : Int)).length ≤ 9000000000000000) (hc : cost a a.length < 17592186044416) : ∃ K, ∀ k, K ≤ k → raster_Cover.f k a = some (tab N (pixels a)) := by
  obtain ⟨n, hn⟩ : ∃ n : Nat, n = 1024 := ⟨_, rfl⟩
  obtain ⟨F, hF⟩ : ∃ F : Nat, F = 4000 := ⟨_, rfl⟩
  obtain ⟨B, hB⟩ : ∃ B : Nat, B = 2 * cost a a.length + F := ⟨_, rfl⟩
  refine ⟨n * (n + 2) + B + 1, fun k hk => ?_⟩
  have := cover_rows n N hn hN a (insideA a) B (by omega) (fun row k hrow hk => row_in n hn a ha hr hc row hrow F hF k (by omega)) n k 0 (by omega) (by omega)
  unfold raster_Cover.f
  rw [if_pos (by decide), ← hN, tab_zero]
  have e : (fun _ => 0 : Nat → Int) = (fun p => cnt (insideA a) p 0 0) := by funext p; rfl
  rw [e, hN]
  rw [hN] at this
  have z : ((0 : Nat) : Int) = 0 := rfl
  rw [z] at this
  rw [this]
  have e2 : (fun p => cnt (insideA a) p n 0) = pixels a := by funext p; unfold pixels; rw [hn]
  rw [e2]

end Go.Proofs.Ytdmhnjpblpfbfaa.U
