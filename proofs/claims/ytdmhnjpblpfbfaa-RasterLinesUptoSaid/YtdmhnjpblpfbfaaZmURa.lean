/- Plain facts on pixels: which segments meet a pixel, what a stroke adds to a table of pixels. Conditions: stated at each. -/
import Derived.Test.YtdmhnjpblpfbfaaZmUB
import Derived.Test.YtdmhnjpblpfbfaaZmQf35
import Derived.Test.YtdmhnjpblpfbfaaZmQf36
import Derived.Test.YtdmhnjpblpfbfaaZmQf37
import Derived.OpenShut
namespace Go.Proofs.Ytdmhnjpblpfbfaa.U
open Go.RowKit Go.Proofs.Ytdmhnjpblpfbfaa.Q Go.Proofs.YtdmhnjpblpfbfaaW.PrintWords Go.Proofs.YtdmhnjpblpfbfaaW.PrintLast Go.Proofs.YtdmhnjpblpfbfaaW.PrintMore
set_option linter.unusedSimpArgs false

theorem limit_in (x : Int) (h0 : -1048576 ≤ x) (h1 : x ≤ 1048576) : point_limit.f x 1048576 = some x := by
  unfold point_limit.f mx mn
  rw [wrap_id (by omega) (by omega)]
  congr 1
  split <;> split <;> omega
theorem clamp_in (x y : Int) (h0 : -1048576 ≤ x) (h1 : x ≤ 1048576) (h2 : -1048576 ≤ y) (h3 : y ≤ 1048576) : point_Clamp.f x y = some (x, y) := by
  unfold point_Clamp.f
  rw [limit_in x h0 h1, Option.bind_some, limit_in y h2 h3, Option.bind_some]
theorem ok_in (x y : Int) (h0 : -1048576 ≤ x) (h1 : x ≤ 1048576) (h2 : -1048576 ≤ y) (h3 : y ≤ 1048576) : point_Ok.f x y = some true := by
  unfold point_Ok.f
  rw [clamp_in x y h0 h1 h2 h3, Option.bind_some]
  simp
theorem has_eq (a b c d x y : Int) : box_Has.f a b c d x y = some (decide (a ≤ x ∧ x ≤ c ∧ b ≤ y ∧ y ≤ d)) := by
  unfold box_Has.f
  by_cases h1 : a ≤ x
  · rw [if_pos h1]
    by_cases h2 : x ≤ c
    · rw [if_pos h2]
      by_cases h3 : b ≤ y
      · rw [if_pos h3]; simp [h1, h2, h3]
      · rw [if_neg h3]; simp [h3]
    · rw [if_neg h2]; simp [h2]
  · rw [if_neg h1]; simp [h1]
theorem meet_eq (a b c d e f g h : Int) (h0 : a ≤ c) (h1 : b ≤ d) (h2 : e ≤ g) (h3 : f ≤ h) : box_Meet.f a b c d e f g h = some (decide (a ≤ g ∧ e ≤ c ∧ b ≤ h ∧ f ≤ d)) := by
  have m1 : (mx a e = a ∧ e ≤ a) ∨ (mx a e = e ∧ a ≤ e) := by unfold mx; split <;> omega
  have m2 : (mx b f = b ∧ f ≤ b) ∨ (mx b f = f ∧ b ≤ f) := by unfold mx; split <;> omega
  unfold box_Meet.f
  rw [has_eq, Option.bind_some]
  by_cases c1 : a ≤ mx a e ∧ mx a e ≤ c ∧ b ≤ mx b f ∧ mx b f ≤ d
  · rw [decide_eq_true c1, if_pos rfl, has_eq, Option.bind_some]
    congr 1
    rw [decide_eq_decide]
    omega
  · rw [decide_eq_false c1, if_neg (by decide)]
    congr 1
    symm
    rw [decide_eq_false_iff_not]
    omega
/-! ### which segments meet a pixel -/
def cr (ax ay cx cy px py : Int) : Int := (cx - ax) * (py - ay) - (cy - ay) * (px - ax)
def sg (c : Int) : Int := if c < 0 then -1 else if c > 0 then 1 else 0
theorem sg_pos (c : Int) : decide (sg c ≥ 0) = decide (c ≥ 0) := by unfold sg; rw [decide_eq_decide]; split <;> (try split) <;> omega
theorem sg_neg (c : Int) : decide (sg c ≤ 0) = decide (c ≤ 0) := by unfold sg; rw [decide_eq_decide]; split <;> (try split) <;> omega
theorem mul_bd {a b : Int} (h0 : -10000 ≤ a) (h1 : a ≤ 10000) (h2 : -10000 ≤ b) (h3 : b ≤ 10000) : -100000000 ≤ a * b ∧ a * b ≤ 100000000 := by
  have h : (a * b).natAbs ≤ 10000 * 10000 := by
    rw [Int.natAbs_mul]
    exact Nat.mul_le_mul (by omega) (by omega)
  omega
theorem turn_in (ax ay cx cy px py : Int) (h0 : -4200 ≤ ax) (h1 : ax ≤ 4200) (h2 : -4200 ≤ ay) (h3 : ay ≤ 4200) (h4 : -4200 ≤ cx) (h5 : cx ≤ 4200) (h6 : -4200 ≤ cy) (h7 : cy ≤ 4200) (h8 : -4200 ≤ px) (h9 : px ≤ 4200) (h10 : -4200 ≤ py) (h11 : py ≤ 4200) :
    point_Turn.f ax ay cx cy px py = some (sg (cr ax ay cx cy px py)) := by
  have way : ∀ x y : Int, -4200 ≤ x → x ≤ 4200 → -4200 ≤ y → y ≤ 4200 → point_way.f ax ay x y = some (x - ax, y - ay) := by
    intro x y x0 x1 y0 y1
    unfold point_way.f
    rw [clamp_in ax ay (by omega) (by omega) (by omega) (by omega), Option.bind_some, clamp_in x y (by omega) (by omega) (by omega) (by omega), Option.bind_some]
    dsimp only
    rw [wrap_id (by omega) (by omega), wrap_id (by omega) (by omega)]
  have b1 := mul_bd (a := cx - ax) (b := py - ay) (by omega) (by omega) (by omega) (by omega)
  have b2 := mul_bd (a := cy - ay) (b := px - ax) (by omega) (by omega) (by omega) (by omega)
  have nan : ∀ x : Int, cmp_isNaN_int.f x = some false := by intro x; unfold cmp_isNaN_int.f; simp
  unfold point_Turn.f point_Cross.f
  rw [way cx cy h4 h5 h6 h7, Option.bind_some, way px py h8 h9 h10 h11, Option.bind_some]
  dsimp only
  rw [wrap_id (x := (cx - ax) * (py - ay)) (by omega) (by omega), wrap_id (x := (cy - ay) * (px - ax)) (by omega) (by omega), wrap_id (by omega) (by omega), Option.bind_some]
  unfold cmp_Compare_int.f
  rw [nan, Option.bind_some, nan, Option.bind_some, if_neg (by decide), if_neg (by decide)]
  unfold sg cr
  split
  · rfl
  · split <;> rfl
/-- Does the pixel (x, y) meet the segment from a to c? -/
def hitB (ax ay cx cy x y : Int) : Bool :=
  decide (4 * x ≤ mx ax cx ∧ mn ax cx ≤ 4 * x + 4 ∧ 4 * y ≤ mx ay cy ∧ mn ay cy ≤ 4 * y + 4) &&
    (decide (cr ax ay cx cy (4 * x) (4 * y) ≥ 0 ∨ cr ax ay cx cy (4 * x + 4) (4 * y) ≥ 0 ∨ cr ax ay cx cy (4 * x + 4) (4 * y + 4) ≥ 0 ∨ cr ax ay cx cy (4 * x) (4 * y + 4) ≥ 0) &&
     decide (cr ax ay cx cy (4 * x) (4 * y) ≤ 0 ∨ cr ax ay cx cy (4 * x + 4) (4 * y) ≤ 0 ∨ cr ax ay cx cy (4 * x + 4) (4 * y + 4) ≤ 0 ∨ cr ax ay cx cy (4 * x) (4 * y + 4) ≤ 0))
theorem of_two (k : Nat) (ax ay cx cy : Int) (h0 : -4200 ≤ ax) (h1 : ax ≤ 4200) (h2 : -4200 ≤ ay) (h3 : ay ≤ 4200) (h4 : -4200 ≤ cx) (h5 : cx ≤ 4200) (h6 : -4200 ≤ cy) (h7 : cy ≤ 4200) :
    box_Of.f (k + 3) [⟨ax, ay⟩, ⟨cx, cy⟩] = some (mn ax cx, mn ay cy, mx ax cx, mx ay cy) := by
  have c1 := clamp_in ax ay (by omega) (by omega) (by omega) (by omega)
  have c2 := clamp_in cx cy (by omega) (by omega) (by omega) (by omega)
  have g : ∀ l : List S40, ∀ a b, l = [a, b] → rd_T40 l 0 = a ∧ rd_T40 l 1 = b ∧ (l.length : Int) = 2 := by
    intro l a b h; subst h; exact ⟨rfl, rfl, rfl⟩
  obtain ⟨g0, g1, g2⟩ := g _ _ _ (rfl : ([⟨ax, ay⟩, ⟨cx, cy⟩] : List S40) = _)
  generalize ([⟨ax, ay⟩, ⟨cx, cy⟩] : List S40) = Z at *
  have w0 : wrap64 (0 + 1) = 1 := wrap_id (by decide) (by decide)
  have w1 : wrap64 (1 + 1) = 2 := wrap_id (by decide) (by decide)
  have m0 : ∀ a : Int, mn a a = a ∧ mx a a = a := by intro a; unfold mn mx; exact ⟨by split <;> rfl, by split <;> rfl⟩
  unfold box_Of.f
  rw [g2, box_Of.l0, if_pos (by decide), if_pos (by decide), if_pos (by omega), g0, c1, Option.bind_some, if_pos rfl]
  unfold box_Join.f
  rw [Option.bind_some]
  dsimp only
  rw [(m0 ax).1, (m0 ax).2, (m0 ay).1, (m0 ay).2, w0, box_Of.l0, if_pos (by decide), if_pos (by decide), if_pos (by omega), g1, c2, Option.bind_some, if_neg (by decide)]
  unfold box_Join.f
  rw [Option.bind_some]
  dsimp only
  rw [w1, box_Of.l0, if_neg (by decide)]
theorem mn_le (a b : Int) : mn a b ≤ mx a b := by unfold mn mx; split <;> split <;> omega
theorem hit_in (k : Nat) (ax ay cx cy x y : Int) (h0 : -4096 ≤ ax) (h1 : ax ≤ 4096) (h2 : -4096 ≤ ay) (h3 : ay ≤ 4096) (h4 : -4096 ≤ cx) (h5 : cx ≤ 4096) (h6 : -4096 ≤ cy) (h7 : cy ≤ 4096) (x0 : 0 ≤ x) (x1 : x ≤ 63) (y0 : 0 ≤ y) (y1 : y ≤ 63) :
    box_Hit.f (k + 6) (4 * x) (4 * y) (4 * x + 4) (4 * y + 4) ax ay cx cy = some (hitB ax ay cx cy x y) := by
  have hok : box_Ok.f (4 * x) (4 * y) (4 * x + 4) (4 * y + 4) = some true := by
    unfold box_Ok.f
    rw [ok_in _ _ (by omega) (by omega) (by omega) (by omega), Option.bind_some, if_pos rfl, ok_in _ _ (by omega) (by omega) (by omega) (by omega), Option.bind_some, if_pos rfl, if_pos (by omega), decide_eq_true (by omega)]
  have c1 := clamp_in ax ay (by omega) (by omega) (by omega) (by omega)
  have c2 := clamp_in cx cy (by omega) (by omega) (by omega) (by omega)
  unfold box_Hit.f
  rw [hok, Option.bind_some, if_pos rfl, show k + 6 = k + 3 + 3 from rfl, of_two (k + 3) ax ay cx cy (by omega) (by omega) (by omega) (by omega) (by omega) (by omega) (by omega) (by omega), Option.bind_some, meet_eq _ _ _ _ _ _ _ _ (by omega) (by omega) (mn_le _ _) (mn_le _ _), Option.bind_some]
  unfold hitB
  generalize decide (4 * x ≤ mx ax cx ∧ mn ax cx ≤ 4 * x + 4 ∧ 4 * y ≤ mx ay cy ∧ mn ay cy ≤ 4 * y + 4) = M
  cases M with
  | false => rw [show k + 3 + 3 = (k + 5) + 1 from rfl, box_Hit.j0]; simp
  | true =>
    rw [show k + 3 + 3 = (k + 5) + 1 from rfl, box_Hit.j0, if_neg (by decide), c1, Option.bind_some, c2, Option.bind_some, Option.bind_some]
    dsimp only
    have t0 := turn_in ax ay cx cy (4 * x) (4 * y) (by omega) (by omega) (by omega) (by omega) (by omega) (by omega) (by omega) (by omega) (by omega) (by omega) (by omega) (by omega)
    have t1 := turn_in ax ay cx cy (4 * x + 4) (4 * y) (by omega) (by omega) (by omega) (by omega) (by omega) (by omega) (by omega) (by omega) (by omega) (by omega) (by omega) (by omega)
    have t2 := turn_in ax ay cx cy (4 * x + 4) (4 * y + 4) (by omega) (by omega) (by omega) (by omega) (by omega) (by omega) (by omega) (by omega) (by omega) (by omega) (by omega) (by omega)
    have t3 := turn_in ax ay cx cy (4 * x) (4 * y + 4) (by omega) (by omega) (by omega) (by omega) (by omega) (by omega) (by omega) (by omega) (by omega) (by omega) (by omega) (by omega)
    generalize cr ax ay cx cy (4 * x) (4 * y) = C0 at *
    generalize cr ax ay cx cy (4 * x + 4) (4 * y) = C1 at *
    generalize cr ax ay cx cy (4 * x + 4) (4 * y + 4) = C2 at *
    generalize cr ax ay cx cy (4 * x) (4 * y + 4) = C3 at *
    have g : ∀ l : List S40, ∀ a b c d, l = [a, b, c, d] → rd_T40 l 0 = a ∧ rd_T40 l 1 = b ∧ rd_T40 l 2 = c ∧ rd_T40 l 3 = d ∧ (l.length : Int) = 4 := by
      intro l a b c d h; subst h; exact ⟨rfl, rfl, rfl, rfl, rfl⟩
    obtain ⟨g0, g1, g2, g3, g4⟩ := g _ _ _ _ _ (rfl : ([⟨4 * x, 4 * y⟩, ⟨4 * x + 4, 4 * y⟩, ⟨4 * x + 4, 4 * y + 4⟩, ⟨4 * x, 4 * y + 4⟩] : List S40) = _)
    generalize ([⟨4 * x, 4 * y⟩, ⟨4 * x + 4, 4 * y⟩, ⟨4 * x + 4, 4 * y + 4⟩, ⟨4 * x, 4 * y + 4⟩] : List S40) = Z at *
    have w0 : wrap64 (0 + 1) = 1 := wrap_id (by decide) (by decide)
    have w1 : wrap64 (1 + 1) = 2 := wrap_id (by decide) (by decide)
    have w2 : wrap64 (2 + 1) = 3 := wrap_id (by decide) (by decide)
    have w3 : wrap64 (3 + 1) = 4 := wrap_id (by decide) (by decide)
    /- one corner: what was left of it or right of it stays, and the corner's own side is added -/
    have step : ∀ (j : Nat) (L R : Bool) (i i' : Int) (px py C : Int), 0 ≤ i → i < 4 → wrap64 (i + 1) = i' → rd_T40 Z i = ⟨px, py⟩ → point_Turn.f ax ay cx cy px py = some (sg C) →
        box_Hit.l0 (j + 1) L R Z 4 i ax ay cx cy = box_Hit.l0 j (L || decide (C ≥ 0)) (R || decide (C ≤ 0)) Z 4 i' ax ay cx cy := by
      intro j L R i i' px py C i0 i1 wi gi ti
      rw [box_Hit.l0, if_pos i1, if_pos i0, if_pos (by omega), gi, ti, Option.bind_some, wi, sg_pos, sg_neg]
      cases L <;> cases R <;> simp
    rw [g4, show k + 5 = (k + 4) + 1 from rfl, step (k + 4) false false 0 1 _ _ C0 (by decide) (by decide) w0 g0 t0, show k + 4 = (k + 3) + 1 from rfl, step (k + 3) _ _ 1 2 _ _ C1 (by decide) (by decide) w1 g1 t1,
      show k + 3 = (k + 2) + 1 from rfl, step (k + 2) _ _ 2 3 _ _ C2 (by decide) (by decide) w2 g2 t2, show k + 2 = (k + 1) + 1 from rfl, step (k + 1) _ _ 3 4 _ _ C3 (by decide) (by decide) w3 g3 t3, box_Hit.l0, if_neg (by decide)]
    simp only [Bool.false_or, Bool.true_and, ge_iff_le]
    by_cases e : (decide (0 ≤ C0) || decide (0 ≤ C1) || decide (0 ≤ C2) || decide (0 ≤ C3)) = true
    · rw [if_pos e]
      have e2 : (0 ≤ C0 ∨ 0 ≤ C1 ∨ 0 ≤ C2 ∨ 0 ≤ C3) := by simpa [or_assoc] using e
      rw [decide_eq_true e2, Bool.true_and]
      congr 1
      rw [Bool.eq_iff_iff]
      simp [or_assoc]
    · rw [if_neg e]
      have e2 : ¬ (0 ≤ C0 ∨ 0 ≤ C1 ∨ 0 ≤ C2 ∨ 0 ≤ C3) := by simpa [or_assoc] using e
      rw [decide_eq_false e2, Bool.false_and]
/-- The pixel (x, y) as a place in the table. -/
theorem at_pixel (x y : Nat) (hx : x < 64) (i : Nat) : i = y * 64 + x ↔ i / 64 = y ∧ i % 64 = x := by omega
def rowAdd (P : Nat → Nat → Bool) (x1 : Int) (y x : Nat) (f : Nat → Int) : Nat → Int :=
  fun i => if i / 64 = y ∧ x ≤ i % 64 ∧ ((i % 64 : Nat) : Int) ≤ x1 ∧ P (i % 64) (i / 64) = true then wrap64 (f i + 1) else f i
theorem rowAdd_end (P : Nat → Nat → Bool) (x1 : Int) (y x : Nat) (f : Nat → Int) (h : x1 < x) : rowAdd P x1 y x f = f := by
  funext i
  unfold rowAdd
  rw [if_neg (by omega)]
theorem rowAdd_step (P : Nat → Nat → Bool) (x1 : Int) (y x : Nat) (f : Nat → Int) (hx : x < 64) (h : (x : Int) ≤ x1) :
    rowAdd P x1 y (x + 1) (if P x y = true then (fun i => if i = y * 64 + x then wrap64 (f (y * 64 + x) + 1) else f i) else f) = rowAdd P x1 y x f := by
  funext i
  have ha := at_pixel x y hx i
  unfold rowAdd
  by_cases e : i = y * 64 + x
  · obtain ⟨e1, e2⟩ := ha.mp e
    rw [if_neg (by omega)]
    by_cases p : P x y = true
    · rw [if_pos p, if_pos e, if_pos ⟨e1, by omega, by omega, by rw [e1, e2]; exact p⟩, e]
    · rw [if_neg p, if_neg (by rw [e1, e2]; exact fun h => p h.2.2.2)]
  · have ne : ¬ (i / 64 = y ∧ i % 64 = x) := fun h => e (ha.mpr h)
    have ef : (if P x y = true then (fun i => if i = y * 64 + x then wrap64 (f (y * 64 + x) + 1) else f i) else f) i = f i := by
      split
      · dsimp only; rw [if_neg e]
      · rfl
    rw [ef]
    by_cases q : i / 64 = y ∧ x ≤ i % 64 ∧ ((i % 64 : Nat) : Int) ≤ x1 ∧ P (i % 64) (i / 64) = true
    · rw [if_pos q, if_pos ⟨q.1, by omega, q.2.2⟩]
    · rw [if_neg q, if_neg (fun h => q ⟨h.1, by omega, h.2.2⟩)]
def rowsAdd (P : Nat → Nat → Bool) (x0 : Nat) (x1 y1 : Int) (y : Nat) (f : Nat → Int) : Nat → Int :=
  fun i => if y ≤ i / 64 ∧ ((i / 64 : Nat) : Int) ≤ y1 ∧ x0 ≤ i % 64 ∧ ((i % 64 : Nat) : Int) ≤ x1 ∧ P (i % 64) (i / 64) = true then wrap64 (f i + 1) else f i
theorem rowsAdd_end (P : Nat → Nat → Bool) (x0 : Nat) (x1 y1 : Int) (y : Nat) (f : Nat → Int) (h : y1 < y) : rowsAdd P x0 x1 y1 y f = f := by
  funext i
  unfold rowsAdd
  rw [if_neg (by omega)]
theorem rowsAdd_step (P : Nat → Nat → Bool) (x0 : Nat) (x1 y1 : Int) (y : Nat) (f : Nat → Int) (h : (y : Int) ≤ y1) :
    rowsAdd P x0 x1 y1 (y + 1) (rowAdd P x1 y x0 f) = rowsAdd P x0 x1 y1 y f := by
  funext i
  unfold rowsAdd rowAdd
  by_cases e : i / 64 = y
  · rw [if_neg (by omega)]
    by_cases q : i / 64 = y ∧ x0 ≤ i % 64 ∧ ((i % 64 : Nat) : Int) ≤ x1 ∧ P (i % 64) (i / 64) = true
    · rw [if_pos q, if_pos ⟨by omega, by omega, q.2⟩]
    · rw [if_neg q, if_neg (fun h => q ⟨e, h.2.2⟩)]
  · rw [if_neg (c := i / 64 = y ∧ x0 ≤ i % 64 ∧ ((i % 64 : Nat) : Int) ≤ x1 ∧ P (i % 64) (i / 64) = true) (fun h => e h.1)]
    by_cases q : y ≤ i / 64 ∧ ((i / 64 : Nat) : Int) ≤ y1 ∧ x0 ≤ i % 64 ∧ ((i % 64 : Nat) : Int) ≤ x1 ∧ P (i % 64) (i / 64) = true
    · rw [if_pos q, if_pos ⟨by omega, q.2⟩]
    · rw [if_neg q, if_neg (fun h => q ⟨by omega, h.2⟩)]
theorem square_in (x y : Int) (x0 : 0 ≤ x) (x1 : x ≤ 63) (y0 : 0 ≤ y) (y1 : y ≤ 63) : raster_Square.f x y = some (4 * x, 4 * y, 4 * x + 4, 4 * y + 4) := by
  have c : ∀ a : Int, 0 ≤ a → a ≤ 63 → raster_clamp.f a = some a := by
    intro a h0 h1
    unfold raster_clamp.f mx mn
    congr 1
    split <;> split <;> omega
  unfold raster_Square.f
  rw [c x x0 x1, Option.bind_some, c y y0 y1, Option.bind_some, wrap_id (x := 4 * x) (by omega) (by omega), wrap_id (x := 4 * y) (by omega) (by omega), wrap_id (x := 4 * x + 4) (by omega) (by omega), wrap_id (x := 4 * y + 4) (by omega) (by omega)]
def hitP (ax ay cx cy : Int) (x y : Nat) : Bool := hitB ax ay cx cy (x : Int) (y : Int)
theorem fuel_row {d k : Nat} (h : d + 1 + 8 ≤ k) : ∃ m, k = m + 7 ∧ d + 8 ≤ m + 6 ∧ m + 6 - d - 1 = m + 7 - (d + 1) - 1 := ⟨k - 7, by omega, by omega, by omega⟩
theorem fuel_one {d k : Nat} (h : d + 8 ≤ k) : ∃ m, k = m + 1 ∧ m + 1 - 0 - 1 = m := ⟨k - 1, by omega, by omega⟩
theorem row_left {x1 : Int} {x d : Nat} (h : (x1 + 1 - x).toNat = d + 1) (h1 : x1 ≤ 63) : (x : Int) ≤ x1 ∧ x < 64 ∧ (x1 + 1 - ((x + 1 : Nat) : Int)).toNat = d := by omega
theorem row_done {x1 : Int} {x : Nat} (h : (x1 + 1 - x).toNat = 0) : ¬ (x : Int) ≤ x1 ∧ x1 < (x : Int) := by omega
theorem pixel_nums {x y n : Nat} (hn : n = 4096) (hx : x < 64) (hy : y ≤ 63) : wrap64 ((y : Int) * 64) = (y : Int) * 64 ∧ wrap64 ((y : Int) * 64 + x) = ((y * 64 + x : Nat) : Int) ∧ wrap64 ((x : Int) + 1) = ((x + 1 : Nat) : Int) ∧ y * 64 + x < n ∧ wrap64 ((y : Int) + 1) = ((y + 1 : Nat) : Int) := by
  refine ⟨wrap_id (by omega) (by omega), ?_, ?_, by omega, ?_⟩ <;> (rw [wrap_id (by omega) (by omega)]; omega)
theorem stroke_row (n : Nat) (hn : n = 4096) (ax ay cx cy : Int) (h0 : -4096 ≤ ax) (h1 : ax ≤ 4096) (h2 : -4096 ≤ ay) (h3 : ay ≤ 4096) (h4 : -4096 ≤ cx) (h5 : cx ≤ 4096) (h6 : -4096 ≤ cy) (h7 : cy ≤ 4096)
    (x0 x1 y1 : Int) (hx1 : x1 ≤ 63) (y : Nat) (hy : y ≤ 63) : ∀ (d k x : Nat) (f : Nat → Int), ((x1 + 1 - x).toNat = d) → d + 8 ≤ k →
    raster_stroke.l1 k (tab n f) x0 x1 y1 (y : Int) (x : Int) ax ay cx cy = raster_stroke.l0 (k - d - 1) (tab n (rowAdd (hitP ax ay cx cy) x1 y x f)) x0 x1 y1 ((y + 1 : Nat) : Int) ax ay cx cy := by
  intro d
  induction d with
  | zero =>
    intro k x f hd hk
    obtain ⟨m, rfl, ek⟩ := fuel_one hk
    obtain ⟨l1, l2⟩ := row_done hd
    rw [raster_stroke.l1, if_neg l1, rowAdd_end _ _ _ _ _ l2, (pixel_nums (x := 0) hn (by decide) hy).2.2.2.2, ek]
  | succ d ih =>
    intro k x f hd hk
    obtain ⟨k, rfl, hk6, ek⟩ := fuel_row hk
    obtain ⟨hx, hx2, hd'⟩ := row_left hd hx1
    obtain ⟨e1, e2, e3, hlt, -⟩ := pixel_nums hn hx2 hy
    have xs : (0 : Int) ≤ x ∧ (x : Int) ≤ 63 ∧ (0 : Int) ≤ y ∧ (y : Int) ≤ 63 := by clear ih hk hd hk6 ek hd' e1 e2 e3 hlt h0 h1 h2 h3 h4 h5 h6 h7; omega
    have hset : (((y * 64 + x : Nat) : Int) < ((tab n f).length : Int)) := by rw [tab_length]; exact Int.ofNat_lt.mpr hlt
    rw [raster_stroke.l1, if_pos hx, square_in _ _ xs.1 xs.2.1 xs.2.2.1 xs.2.2.2, Option.bind_some]
    dsimp only
    rw [hit_in k ax ay cx cy x y h0 h1 h2 h3 h4 h5 h6 h7 xs.1 xs.2.1 xs.2.2.1 xs.2.2.2, Option.bind_some, e1, e2, e3]
    have hs := rowAdd_step (hitP ax ay cx cy) x1 y x f hx2 hx
    have ep : hitB ax ay cx cy (x : Int) (y : Int) = hitP ax ay cx cy x y := rfl
    rw [ep, ← hs]
    by_cases p : hitP ax ay cx cy x y = true
    · rw [if_pos p, if_pos p, if_pos (Int.natCast_nonneg _), if_pos hset, tab_rd n f _ hlt, Int.toNat_natCast, tab_set]
      rw [ih (k + 6) (x + 1) _ hd' hk6, ek]
    · rw [if_neg p, if_neg p]
      rw [ih (k + 6) (x + 1) _ hd' hk6, ek]
theorem stroke_rows (n : Nat) (hn : n = 4096) (ax ay cx cy : Int) (h0 : -4096 ≤ ax) (h1 : ax ≤ 4096) (h2 : -4096 ≤ ay) (h3 : ay ≤ 4096) (h4 : -4096 ≤ cx) (h5 : cx ≤ 4096) (h6 : -4096 ≤ cy) (h7 : cy ≤ 4096)
    (x0 : Nat) (x1 y1 : Int) (hx1 : x1 ≤ 63) (hy1 : y1 ≤ 63) : ∀ (d k y : Nat) (f : Nat → Int), ((y1 + 1 - y).toNat = d) → d * 80 + 1 ≤ k →
    raster_stroke.l0 k (tab n f) (x0 : Int) x1 y1 (y : Int) ax ay cx cy = some (tab n (rowsAdd (hitP ax ay cx cy) x0 x1 y1 y f)) := by
  intro d
  induction d with
  | zero =>
    intro k y f hd hk
    obtain ⟨k, rfl⟩ : ∃ m, k = m + 1 := ⟨k - 1, by omega⟩
    rw [raster_stroke.l0, if_neg (by omega), rowsAdd_end _ _ _ _ _ _ (by omega)]
  | succ d ih =>
    intro k y f hd hk
    obtain ⟨k, rfl⟩ : ∃ m, k = m + 1 := ⟨k - 1, by omega⟩
    rw [raster_stroke.l0, if_pos (by omega), stroke_row n hn ax ay cx cy h0 h1 h2 h3 h4 h5 h6 h7 (x0 : Int) x1 y1 hx1 y (by omega) _ k x0 f rfl (by omega), ← rowsAdd_step _ _ _ _ _ _ (by omega)]
    exact ih _ (y + 1) _ (by omega) (by omega)
/-- The first and the last pixel in a direction. -/
def firstP (a c : Int) : Int := mx 0 (Int.tdiv (mn a c - 4) 4)
def lastP (a c : Int) : Int := mn 63 (Int.tdiv (mx a c) 4)
theorem stroke_in (n : Nat) (hn : n = 4096) (ax ay cx cy : Int) (h0 : -4096 ≤ ax) (h1 : ax ≤ 4096) (h2 : -4096 ≤ ay) (h3 : ay ≤ 4096) (h4 : -4096 ≤ cx) (h5 : cx ≤ 4096) (h6 : -4096 ≤ cy) (h7 : cy ≤ 4096) (f : Nat → Int) (k : Nat) (hk : 5200 ≤ k) :
    raster_stroke.f k (tab n f) ax ay cx cy = some (tab n (rowsAdd (hitP ax ay cx cy) (firstP ax cx).toNat (lastP ax cx) (lastP ay cy) (firstP ay cy).toNat f)) := by
  have bd : ∀ a c : Int, -4096 ≤ a → a ≤ 4096 → -4096 ≤ c → c ≤ 4096 → -4096 ≤ mn a c ∧ mn a c ≤ 4096 ∧ -4096 ≤ mx a c ∧ mx a c ≤ 4096 := by
    intro a c _ _ _ _
    unfold mn mx
    refine ⟨?_, ?_, ?_, ?_⟩ <;> split <;> omega
  have qd : ∀ a : Int, -5000 ≤ a → a ≤ 5000 → -1250 ≤ Int.tdiv a 4 ∧ Int.tdiv a 4 ≤ 1250 := by
    intro a l r
    rw [Int.tdiv_eq_ediv]
    by_cases q : 0 ≤ a ∨ (4 : Int) ∣ a
    · rw [if_pos q]; omega
    · rw [if_neg q, show Int.sign 4 = 1 from rfl]; omega
  obtain ⟨a1, a2, a3, a4⟩ := bd ax cx h0 h1 h4 h5
  obtain ⟨b1, b2, b3, b4⟩ := bd ay cy h2 h3 h6 h7
  have q1 := qd (mn ax cx - 4) (by omega) (by omega)
  have q2 := qd (mn ay cy - 4) (by omega) (by omega)
  have q3 := qd (mx ax cx) (by omega) (by omega)
  have q4 := qd (mx ay cy) (by omega) (by omega)
  have f1 : 0 ≤ firstP ax cx ∧ firstP ax cx ≤ 1250 := by unfold firstP; rw [mx]; split <;> omega
  have f2 : 0 ≤ firstP ay cy ∧ firstP ay cy ≤ 1250 := by unfold firstP; rw [mx]; split <;> omega
  have l1 : lastP ax cx ≤ 63 := by unfold lastP; rw [mn]; split <;> omega
  have l2 : lastP ay cy ≤ 63 := by unfold lastP; rw [mn]; split <;> omega
  have := stroke_rows n hn ax ay cx cy h0 h1 h2 h3 h4 h5 h6 h7 (firstP ax cx).toNat (lastP ax cx) (lastP ay cy) l1 l2 _ k (firstP ay cy).toNat f rfl (by omega)
  rw [Int.toNat_of_nonneg f1.1, Int.toNat_of_nonneg f2.1] at this
  unfold raster_stroke.f
  rw [wrap_id (x := mn ax cx - 4) (by omega) (by omega), wrap_id (x := mn ay cy - 4) (by omega) (by omega), wrap_id (x := Int.tdiv (mn ax cx - 4) 4) (by omega) (by omega), wrap_id (x := Int.tdiv (mn ay cy - 4) 4) (by omega) (by omega), wrap_id (x := Int.tdiv (mx ax cx) 4) (by omega) (by omega), wrap_id (x := Int.tdiv (mx ay cy) 4) (by omega) (by omega)]
  exact this
end Go.Proofs.Ytdmhnjpblpfbfaa.U

