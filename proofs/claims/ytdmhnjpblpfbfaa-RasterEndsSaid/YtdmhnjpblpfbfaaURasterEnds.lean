/- A line meets the pixels of its points, and each dot belongs to one pixel: for all points within the tile. No condition. -/
import Derived.Test.YtdmhnjpblpfbfaaURa
import Derived.Test.YtdmhnjpblpfbfaaQRasterEnds
namespace Go.Proofs.Ytdmhnjpblpfbfaa.Pure
open Go.RowKit Go.Proofs.Ytdmhnjpblpfbfaa.Q Go.Proofs.Ytdmhnjpblpfbfaa.U Go.Proofs.YtdmhnjpblpfbfaaW.PrintWords Go.Proofs.YtdmhnjpblpfbfaaW.PrintLast Go.Proofs.YtdmhnjpblpfbfaaW.PrintMore
set_option linter.unusedSimpArgs false
set_option linter.unusedVariables false

/-! ### it does not matter from which end -/
theorem cr_swap (ax ay cx cy px py : Int) : cr cx cy ax ay px py = - cr ax ay cx cy px py := by
  unfold cr
  have e1 : (ax - cx) * (py - cy) = -((cx - ax) * (py - ay)) + (cx - ax) * (cy - ay) := by
    rw [show py - cy = (py - ay) - (cy - ay) by omega, show ax - cx = -(cx - ax) by omega, Int.neg_mul, Int.mul_sub]
    omega
  have e2 : (ay - cy) * (px - cx) = -((cy - ay) * (px - ax)) + (cx - ax) * (cy - ay) := by
    rw [show px - cx = (px - ax) - (cx - ax) by omega, show ay - cy = -(cy - ay) by omega, Int.neg_mul, Int.mul_sub, Int.mul_comm (cy - ay) (cx - ax)]
    omega
  rw [e1, e2]
  omega

theorem mx_comm (a b : Int) : mx a b = mx b a := by unfold mx; split <;> split <;> omega
theorem mn_comm (a b : Int) : mn a b = mn b a := by unfold mn; split <;> split <;> omega

theorem hit_swap (ax ay cx cy x y : Int) : hitB cx cy ax ay x y = hitB ax ay cx cy x y := by
  unfold hitB
  rw [mx_comm cx ax, mx_comm cy ay, mn_comm cx ax, mn_comm cy ay, cr_swap ax ay cx cy, cr_swap ax ay cx cy, cr_swap ax ay cx cy, cr_swap ax ay cx cy]
  generalize cr ax ay cx cy (4 * x) (4 * y) = C0
  generalize cr ax ay cx cy (4 * x + 4) (4 * y) = C1
  generalize cr ax ay cx cy (4 * x + 4) (4 * y + 4) = C2
  generalize cr ax ay cx cy (4 * x) (4 * y + 4) = C3
  congr 1
  rw [Bool.and_comm]
  congr 1
  · rw [decide_eq_decide]; omega
  · rw [decide_eq_decide]; omega

theorem hitP_swap (ax ay cx cy : Int) : hitP cx cy ax ay = hitP ax ay cx cy := by
  funext x y
  exact hit_swap ax ay cx cy x y

/-- A pixel that holds an end of the segment meets it. -/
theorem hit_end (ax ay cx cy x y : Int) (h0 : 4 * x ≤ ax) (h1 : ax ≤ 4 * x + 4) (h2 : 4 * y ≤ ay) (h3 : ay ≤ 4 * y + 4) : hitB ax ay cx cy x y = true := by
  have m1 : ax ≤ mx ax cx ∧ mn ax cx ≤ ax := by unfold mx mn; constructor <;> split <;> omega
  have m2 : ay ≤ mx ay cy ∧ mn ay cy ≤ ay := by unfold mx mn; constructor <;> split <;> omega
  unfold hitB
  rw [decide_eq_true (by omega), Bool.true_and, Bool.and_eq_true, decide_eq_true_iff, decide_eq_true_iff]
  unfold cr
  generalize cx - ax = dx
  generalize cy - ay = dy
  have up : 0 ≤ dx ∨ dx ≤ 0 := by omega
  have rt : 0 ≤ dy ∨ dy ≤ 0 := by omega
  have pp : ∀ a b : Int, 0 ≤ a → 0 ≤ b → 0 ≤ a * b := fun a b h k => Int.mul_nonneg h k
  have nn : ∀ a b : Int, a ≤ 0 → b ≤ 0 → 0 ≤ a * b := fun a b h k => by rw [← Int.neg_mul_neg]; exact Int.mul_nonneg (by omega) (by omega)
  have pn : ∀ a b : Int, 0 ≤ a → b ≤ 0 → a * b ≤ 0 := fun a b h k => Int.mul_nonpos_of_nonneg_of_nonpos h k
  have np : ∀ a b : Int, a ≤ 0 → 0 ≤ b → a * b ≤ 0 := fun a b h k => Int.mul_nonpos_of_nonpos_of_nonneg h k
  have u0 : 4 * y - ay ≤ 0 := by omega
  have u1 : 0 ≤ 4 * y + 4 - ay := by omega
  have v0 : 4 * x - ax ≤ 0 := by omega
  have v1 : 0 ≤ 4 * x + 4 - ax := by omega
  rcases up with up | up <;> rcases rt with rt | rt
  · have a1 := pp _ _ up u1
    have a2 := pn _ _ up u0
    have b1 := pp _ _ rt v1
    have b2 := pn _ _ rt v0
    omega
  · have a1 := pp _ _ up u1
    have a2 := pn _ _ up u0
    have b1 := np _ _ rt v1
    have b2 := nn _ _ rt v0
    omega
  · have a1 := np _ _ up u1
    have a2 := nn _ _ up u0
    have b1 := pp _ _ rt v1
    have b2 := pn _ _ rt v0
    omega
  · have a1 := np _ _ up u1
    have a2 := nn _ _ up u0
    have b1 := np _ _ rt v1
    have b2 := nn _ _ rt v0
    omega

theorem first_le (a c : Int) (h0 : 0 ≤ a) (h1 : 0 ≤ c) (h2 : a ≤ 255) (h3 : c ≤ 255) : (firstP a c).toNat ≤ a.toNat / 4 ∧ ((a.toNat / 4 : Nat) : Int) ≤ lastP a c := by
  have m : mn a c ≤ a ∧ a ≤ mx a c ∧ 0 ≤ mn a c ∧ mx a c ≤ 255 := by unfold mn mx; refine ⟨?_, ?_, ?_, ?_⟩ <;> split <;> omega
  have q : Int.tdiv (mn a c - 4) 4 ≤ a / 4 := by
    rw [Int.tdiv_eq_ediv]
    by_cases q : 0 ≤ mn a c - 4 ∨ (4 : Int) ∣ mn a c - 4
    · rw [if_pos q]; omega
    · rw [if_neg q, show Int.sign 4 = 1 from rfl]; omega
  have q2 : Int.tdiv (mx a c) 4 = mx a c / 4 := tdiv_pos (by omega)
  unfold firstP lastP
  rw [q2]
  constructor
  · have : mx 0 (Int.tdiv (mn a c - 4) 4) ≤ a / 4 := by
      rw [mx]; split <;> omega
    omega
  · rw [mn]; split <;> omega

theorem first_comm (a c : Int) : firstP c a = firstP a c := by unfold firstP; rw [mn_comm]
theorem last_comm (a c : Int) : lastP c a = lastP a c := by unfold lastP; rw [mx_comm]

/-! ### one line of two points -/
theorem clamp_pix (a : Int) (h0 : 0 ≤ a) (h1 : a ≤ 255) : raster_clamp.f a = some a := by
  unfold raster_clamp.f mx mn
  congr 1
  split <;> split <;> omega

def lineF (ax ay cx cy : Int) : Nat → Int := rowsAdd (hitP ax ay cx cy) (firstP ax cx).toNat (lastP ax cx) (lastP ay cy) (firstP ay cy).toNat (fun _ => 0)

theorem lines_two (n : Nat) (hn : n = 4096) (ax ay cx cy : Int) (h0 : 0 ≤ ax) (h1 : ax ≤ 255) (h2 : 0 ≤ ay) (h3 : ay ≤ 255) (h4 : 0 ≤ cx) (h5 : cx ≤ 255) (h6 : 0 ≤ cy) (h7 : cy ≤ 255) (k : Nat) (hk : 6000 ≤ k) :
    raster_Lines.f k [[⟨ax, ay⟩, ⟨cx, cy⟩]] = some (tab n (lineF ax ay cx cy)) := by
  obtain ⟨k, rfl⟩ : ∃ m, k = m + 4 := ⟨k - 4, by omega⟩
  have st := stroke_in n hn ax ay cx cy (by omega) (by omega) (by omega) (by omega) (by omega) (by omega) (by omega) (by omega) (fun _ => 0) (k + 2) (by omega)
  have g : ∀ l : List S40, ∀ a b, l = [a, b] → rd_T40 l 0 = a ∧ rd_T40 l 1 = b ∧ (l.length : Int) = 2 := by
    intro l a b h; subst h; exact ⟨rfl, rfl, rfl⟩
  obtain ⟨g0, g1, g2⟩ := g _ _ _ (rfl : ([⟨ax, ay⟩, ⟨cx, cy⟩] : List S40) = _)
  generalize ([⟨ax, ay⟩, ⟨cx, cy⟩] : List S40) = Z at *
  have G : ∀ l : List (List S40), ∀ a, l = [a] → rd_L2 l 0 = a ∧ (l.length : Int) = 1 := by
    intro l a h; subst h; exact ⟨rfl, rfl⟩
  obtain ⟨G0, G1⟩ := G _ _ (rfl : ([Z] : List (List S40)) = _)
  generalize ([Z] : List (List S40)) = Y at *
  have w0 : wrap64 (0 + 1) = 1 := wrap_id (by decide) (by decide)
  have w1 : wrap64 (1 + 1) = 2 := wrap_id (by decide) (by decide)
  have w2 : wrap64 (1 - 1) = 0 := wrap_id (by decide) (by decide)
  unfold raster_Lines.f
  rw [if_pos (by decide), ← hn, tab_zero n, G1, show k + 4 = (k + 3) + 1 from rfl, raster_Lines.l0, if_pos (by decide), if_pos (by decide), if_pos (by omega), G0, show k + 3 = (k + 2) + 1 from rfl, raster_Lines.l1, g2, if_pos (by decide), w2, if_pos (by decide), if_pos (by decide), g0, g1]
  dsimp only
  rw [clamp_pix ax h0 h1, Option.bind_some, clamp_pix ay h2 h3, Option.bind_some, if_pos (by decide), clamp_pix cx h4 h5, Option.bind_some, clamp_pix cy h6 h7, Option.bind_some, st, Option.bind_some, w1, show k + 2 = (k + 1) + 1 from rfl, raster_Lines.l1, g2, if_neg (by decide), w0, raster_Lines.l0, if_neg (by decide)]
  rfl

theorem line_at (n : Nat) (hn : n = 4096) (ax ay cx cy : Int) (h0 : 0 ≤ ax) (h1 : ax ≤ 255) (h2 : 0 ≤ ay) (h3 : ay ≤ 255) (h4 : 0 ≤ cx) (h5 : cx ≤ 255) (h6 : 0 ≤ cy) (h7 : cy ≤ 255) :
    lineF ax ay cx cy (ay.toNat / 4 * 64 + ax.toNat / 4) = 1 := by
  obtain ⟨fx, lx⟩ := first_le ax cx h0 h4 h1 h5
  obtain ⟨fy, ly⟩ := first_le ay cy h2 h6 h3 h7
  have d1 : (ay.toNat / 4 * 64 + ax.toNat / 4) / 64 = ay.toNat / 4 := by omega
  have d2 : (ay.toNat / 4 * 64 + ax.toNat / 4) % 64 = ax.toNat / 4 := by omega
  unfold lineF rowsAdd
  rw [d1, d2, if_pos ⟨fy, ly, fx, lx, by unfold hitP; exact hit_end ax ay cx cy _ _ (by omega) (by omega) (by omega) (by omega)⟩]
  exact wrap_id (x := 0 + 1) (by decide) (by decide)

theorem line_swap (ax ay cx cy : Int) : lineF cx cy ax ay = lineF ax ay cx cy := by
  unfold lineF
  rw [hitP_swap, first_comm, last_comm, first_comm ay cy, last_comm ay cy]

/-! ### dots -/
def ind (a : Nat) : Nat → Int := fun i => if i = a then 1 else 0

theorem dots_two (n : Nat) (hn : n = 4096) (ax ay cx cy : Int) (h0 : 0 ≤ ax) (h1 : ax ≤ 255) (h2 : 0 ≤ ay) (h3 : ay ≤ 255) (h4 : 0 ≤ cx) (h5 : cx ≤ 255) (h6 : 0 ≤ cy) (h7 : cy ≤ 255) (k : Nat) :
    raster_Dots.f (k + 3) [⟨ax, ay⟩, ⟨cx, cy⟩] = some (tab n (fun i => ind (ay.toNat / 4 * 64 + ax.toNat / 4) i + ind (cy.toNat / 4 * 64 + cx.toNat / 4) i)) := by
  have g : ∀ l : List S40, ∀ a b, l = [a, b] → rd_T40 l 0 = a ∧ rd_T40 l 1 = b ∧ (l.length : Int) = 2 := by
    intro l a b h; subst h; exact ⟨rfl, rfl, rfl⟩
  obtain ⟨g0, g1, g2⟩ := g _ _ _ (rfl : ([⟨ax, ay⟩, ⟨cx, cy⟩] : List S40) = _)
  generalize ([⟨ax, ay⟩, ⟨cx, cy⟩] : List S40) = Z at *
  have w0 : wrap64 (0 + 1) = 1 := wrap_id (by decide) (by decide)
  have w1 : wrap64 (1 + 1) = 2 := wrap_id (by decide) (by decide)
  have pl : ∀ x y : Int, 0 ≤ x → x ≤ 255 → 0 ≤ y → y ≤ 255 → wrap64 (wrap64 (wrap64 (Int.tdiv y 4) * 64) + wrap64 (Int.tdiv x 4)) = ((y.toNat / 4 * 64 + x.toNat / 4 : Nat) : Int) ∧ y.toNat / 4 * 64 + x.toNat / 4 < n ∧ mn x y ≥ 0 ∧ mx x y < 256 := by
    intro x y x0 x1 y0 y1
    refine ⟨?_, by omega, by unfold mn; split <;> omega, by unfold mx; split <;> omega⟩
    rw [tdiv_pos x0, tdiv_pos y0, wrap_id (x := y / 4) (by omega) (by omega), wrap_id (x := x / 4) (by omega) (by omega), wrap_id (x := y / 4 * 64) (by omega) (by omega), wrap_id (by omega) (by omega)]
    omega
  obtain ⟨p1, p2, p3, p4⟩ := pl ax ay h0 h1 h2 h3
  obtain ⟨q1, q2, q3, q4⟩ := pl cx cy h4 h5 h6 h7
  generalize ay.toNat / 4 * 64 + ax.toNat / 4 = A at *
  generalize cy.toNat / 4 * 64 + cx.toNat / 4 = C at *
  have la : (A : Int) < ((tab n (fun _ => 0)).length : Int) := by rw [tab_length]; exact Int.ofNat_lt.mpr p2
  unfold raster_Dots.f
  rw [if_pos (by decide), ← hn, tab_zero n, g2, raster_Dots.l0, if_pos (by decide), if_pos (by decide), if_pos (by omega), g0]
  dsimp only
  rw [if_pos p3, if_pos p4, p1, if_pos (Int.natCast_nonneg _), if_pos la, tab_rd n _ _ p2, Int.toNat_natCast, tab_set, w0, raster_Dots.l0, if_pos (by decide), if_pos (by decide), if_pos (by omega), g1]
  dsimp only
  rw [if_pos q3, if_pos q4, q1, if_pos (Int.natCast_nonneg _), if_pos (by rw [tab_length]; exact Int.ofNat_lt.mpr q2), tab_rd n _ _ q2, Int.toNat_natCast, tab_set, w1, raster_Dots.l0, if_neg (by decide)]
  congr 2
  funext i
  unfold ind
  by_cases e : i = C
  · rw [if_pos e]
    by_cases e2 : C = A
    · rw [if_pos e2, wrap_id (by decide) (by decide), if_pos (by omega), if_pos e]; try rfl
    · rw [if_neg e2, wrap_id (by decide) (by decide), if_neg (by omega), if_pos e]; try rfl
  · rw [if_neg e]
    by_cases e2 : i = A
    · subst e2; simp [e]
    · simp [e, e2]

def upto (a i : Nat) : Int := if a < i then 1 else 0
theorem upto_succ (a i : Nat) : upto a (i + 1) = upto a i + ind a i := by
  unfold upto ind
  by_cases h : a < i
  · rw [if_pos h, if_pos (by omega), if_neg (by omega)]; rfl
  · by_cases e : i = a
    · rw [if_neg h, if_pos (by omega), if_pos e]; rfl
    · rw [if_neg h, if_neg (by omega), if_neg e]; rfl
theorem upto_bd (a i : Nat) : 0 ≤ upto a i ∧ upto a i ≤ 1 := by unfold upto; split <;> omega

theorem total_two (n : Nat) (hn : n = 4096) (A C : Nat) (hA : A < n) (hC : C < n) : ∀ (d k i : Nat), i + d = n → d < k →
    raster_Total.l0 k (upto A i + upto C i) (tab n (fun i => ind A i + ind C i)) (n : Int) (i : Int) = some 2 := by
  intro d
  induction d with
  | zero =>
    intro k i hi hk
    obtain ⟨k, rfl⟩ : ∃ m, k = m + 1 := ⟨k - 1, by omega⟩
    obtain rfl : i = n := by omega
    rw [raster_Total.l0, if_neg (by omega)]
    unfold upto
    rw [if_pos hA, if_pos hC]
    rfl
  | succ d ih =>
    intro k i hi hk
    obtain ⟨k, rfl⟩ : ∃ m, k = m + 1 := ⟨k - 1, by omega⟩
    have b1 := upto_bd A i
    have b2 := upto_bd C i
    have c1 := upto_bd A (i + 1)
    have c2 := upto_bd C (i + 1)
    have s1 := upto_succ A i
    have s2 := upto_succ C i
    rw [raster_Total.l0, if_pos (by omega), if_pos (by omega), if_pos (by rw [tab_length]; omega), tab_rd n _ i (by omega), wrap_id (x := upto A i + upto C i + (ind A i + ind C i)) (by omega) (by omega), wrap_id (x := (i : Int) + 1) (by omega) (by omega), show upto A i + upto C i + (ind A i + ind C i) = upto A (i + 1) + upto C (i + 1) by omega, show (i : Int) + 1 = ((i + 1 : Nat) : Int) by omega]
    exact ih k (i + 1) (by omega) (by omega)

theorem equal_self (n : Nat) (hn : n = 4096) (l : List Int) (hl : l.length = n) : ∀ (d k i : Nat), i + d = n → d < k → slices_Equal_int_int.l0 k l l (n : Int) (i : Int) = some true := by
  intro d
  induction d with
  | zero =>
    intro k i hi hk
    obtain ⟨k, rfl⟩ : ∃ m, k = m + 1 := ⟨k - 1, by omega⟩
    rw [slices_Equal_int_int.l0, if_neg (by omega)]
  | succ d ih =>
    intro k i hi hk
    obtain ⟨k, rfl⟩ : ∃ m, k = m + 1 := ⟨k - 1, by omega⟩
    rw [slices_Equal_int_int.l0, if_pos (by omega), if_pos (by omega), if_pos (by omega), if_pos (by omega), if_pos rfl, wrap_id (x := (i : Int) + 1) (by omega) (by omega), show (i : Int) + 1 = ((i + 1 : Nat) : Int) by omega]
    exact ih k (i + 1) (by omega) (by omega)

theorem RasterEnds : terrkeep5_RasterEnds.Pure := by
  intro a0 a1 a2 a3 _ _ _ _
  obtain ⟨ax, e0, x0, x1⟩ := below_spec a0 256 (by decide) (by decide)
  obtain ⟨ay, e1, y0, y1⟩ := below_spec a1 256 (by decide) (by decide)
  obtain ⟨cx, e2, u0, u1⟩ := below_spec a2 256 (by decide) (by decide)
  obtain ⟨cy, e3, v0, v1⟩ := below_spec a3 256 (by decide) (by decide)
  obtain ⟨n, hn⟩ : ∃ n : Nat, n = 4096 := ⟨_, rfl⟩
  obtain ⟨K, hK⟩ : ∃ K : Nat, 7000 ≤ K := ⟨7000, Nat.le_refl _⟩
  refine ⟨K + 4, ?_⟩
  have L1 := lines_two n hn ax ay cx cy x0 (by omega) y0 (by omega) u0 (by omega) v0 (by omega)
  have L2 := lines_two n hn cx cy ax ay u0 (by omega) v0 (by omega) x0 (by omega) y0 (by omega)
  rw [line_swap] at L2
  have D := dots_two n hn ax ay cx cy x0 (by omega) y0 (by omega) u0 (by omega) v0 (by omega) (K + 1)
  have A1 := line_at n hn ax ay cx cy x0 (by omega) y0 (by omega) u0 (by omega) v0 (by omega)
  have A2 := line_at n hn cx cy ax ay u0 (by omega) v0 (by omega) x0 (by omega) y0 (by omega)
  rw [line_swap] at A2
  have pl : ∀ x y : Int, 0 ≤ x → x < 256 → 0 ≤ y → y < 256 → wrap64 (wrap64 (wrap64 (Int.tdiv y 4) * 64) + wrap64 (Int.tdiv x 4)) = ((y.toNat / 4 * 64 + x.toNat / 4 : Nat) : Int) ∧ y.toNat / 4 * 64 + x.toNat / 4 < n := by
    intro x y x0 x1 y0 y1
    refine ⟨?_, by omega⟩
    rw [tdiv_pos x0, tdiv_pos y0, wrap_id (x := y / 4) (by omega) (by omega), wrap_id (x := x / 4) (by omega) (by omega), wrap_id (x := y / 4 * 64) (by omega) (by omega), wrap_id (by omega) (by omega)]
    omega
  obtain ⟨p1, p2⟩ := pl ax ay x0 x1 y0 y1
  obtain ⟨q1, q2⟩ := pl cx cy u0 u1 v0 v1
  generalize ay.toNat / 4 * 64 + ax.toNat / 4 = A at *
  generalize cy.toNat / 4 * 64 + cx.toNat / 4 = C at *
  have len : ((tab n (lineF ax ay cx cy)).length : Int) = 4096 := by rw [tab_length]; omega
  have lenD : ((tab n (fun i => ind A i + ind C i)).length : Int) = 4096 := by rw [tab_length]; omega
  unfold terrkeep5_RasterEnds.f
  rw [e0, Option.bind_some, e1, Option.bind_some, e2, Option.bind_some, e3, Option.bind_some, L1 (K + 4) (by omega), Option.bind_some, D, Option.bind_some, if_pos len, lenD]
  have rdA : rd (tab n (lineF ax ay cx cy)) (A : Int) = 1 := by rw [tab_rd n _ _ p2]; exact A1
  have rdC : rd (tab n (lineF ax ay cx cy)) (C : Int) = 1 := by rw [tab_rd n _ _ q2]; exact A2
  have i0 : ∀ a i : Nat, 0 ≤ ind a i := by intro a i; unfold ind; split <;> omega
  have i1 : ∀ a : Nat, ind a a = 1 := by intro a; unfold ind; rw [if_pos rfl]
  have dA : ¬ rd (tab n (fun i => ind A i + ind C i)) (A : Int) < 1 := by rw [tab_rd n _ _ p2]; have := i0 C A; have := i1 A; omega
  have dC : ¬ rd (tab n (fun i => ind A i + ind C i)) (C : Int) < 1 := by rw [tab_rd n _ _ q2]; have := i0 A C; have := i1 C; omega
  have T := total_two n hn A C p2 q2 n (K) 0 (by omega) (by omega)
  have E := equal_self n hn (tab n (lineF ax ay cx cy)) (tab_length _ _) n K 0 (by omega) (by omega)
  have T' : raster_Total.f K (tab n (fun i => ind A i + ind C i)) = some 2 := by
    unfold raster_Total.f
    rw [tab_length]
    exact T
  have E' : slices_Equal_int_int.f K (tab n (lineF ax ay cx cy)) (tab n (lineF ax ay cx cy)) = some true := by
    unfold slices_Equal_int_int.f
    rw [if_pos rfl, tab_length]
    exact E
  have L2' := L2 K (by omega)
  have ltA : (A : Int) < ((tab n (lineF ax ay cx cy)).length : Int) := by rw [len]; omega
  have ltC : (C : Int) < ((tab n (lineF ax ay cx cy)).length : Int) := by rw [len]; omega
  have ltA' : (A : Int) < ((tab n (fun i => ind A i + ind C i)).length : Int) := by rw [lenD]; omega
  have ltC' : (C : Int) < ((tab n (fun i => ind A i + ind C i)).length : Int) := by rw [lenD]; omega
  generalize tab n (lineF ax ay cx cy) = L at *
  generalize tab n (fun i => ind A i + ind C i) = DD at *
  have g : ∀ l : List S40, ∀ a b, l = [a, b] → rd_T40 l 0 = a ∧ rd_T40 l 1 = b ∧ (l.length : Int) = 2 := by
    intro l a b h; subst h; exact ⟨rfl, rfl, rfl⟩
  obtain ⟨g0, g1, g2⟩ := g _ _ _ (rfl : ([⟨ax, ay⟩, ⟨cx, cy⟩] : List S40) = _)
  have w0 : wrap64 (0 + 1) = 1 := wrap_id (by decide) (by decide)
  have w1 : wrap64 (1 + 1) = 2 := wrap_id (by decide) (by decide)
  rw [show K + 4 = (K + 3) + 1 from rfl, terrkeep5_RasterEnds.j0, if_neg (by decide), Option.bind_some, g2, show K + 3 = (K + 2) + 1 from rfl, terrkeep5_RasterEnds.l0, if_pos (by decide), if_pos (by decide), if_pos (by omega), g0]
  dsimp only
  rw [p1, if_pos (Int.natCast_nonneg _), if_pos ltA, if_pos rdA, if_pos ltA', if_neg dA, w0, show K + 2 = (K + 1) + 1 from rfl, terrkeep5_RasterEnds.l0, if_pos (by decide), if_pos (by decide), if_pos (by omega), g1]
  dsimp only
  rw [q1, if_pos (Int.natCast_nonneg _), if_pos ltC, if_pos rdC, if_pos ltC', if_neg dC, w1, terrkeep5_RasterEnds.l0, if_neg (by decide), L2', Option.bind_some, T', Option.bind_some, if_pos rfl, E', Option.bind_some]

end Go.Proofs.Ytdmhnjpblpfbfaa.Pure
