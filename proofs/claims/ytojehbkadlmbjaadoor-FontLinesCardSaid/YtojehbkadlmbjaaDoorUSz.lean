/- Sizes of texts: both implementations, for all texts and sizes. No condition beyond those stated. -/
import Derived.Test.YtojehbkadlmbjaaDoorQf12
import Derived.Test.YtojehbkadlmbjaaDoorQf6
import Derived.OpenShut
namespace Go.Proofs.YtojehbkadlmbjaaDoor.U
open Go.RowKit Go.Proofs.YtojehbkadlmbjaaDoor.Q Go.Proofs.YtojehbkadlmbjaaDoorW.PrintWords Go.Proofs.YtojehbkadlmbjaaDoorW.PrintLast Go.Proofs.YtojehbkadlmbjaaDoorW.PrintMore
set_option linter.unusedSimpArgs false
set_option linter.unusedVariables false

theorem wrapF {x : Int} (h0 : -9223372036854775808 ≤ x) (h1 : x ≤ 9223372036854775807) : wrap64 x = x := by
  unfold wrap64
  omega

/-- A text that has a width: at most 40 bytes, each of them from the space to the tilde. -/
def Plain (s : ByteArray) : Prop := s.size ≤ 40 ∧ ∀ i : Nat, i < s.size → 32 ≤ bt s (i : Int) ∧ bt s (i : Int) ≤ 126

def sumF (f : Nat → Int) : Nat → Int
  | 0 => 0
  | n + 1 => sumF f n + f n
theorem sumF_congr (f g : Nat → Int) (n : Nat) (h : ∀ i, i < n → f i = g i) : sumF f n = sumF g n := by
  induction n with
  | zero => rfl
  | succ n ih => rw [sumF, sumF, ih (fun i hi => h i (by omega)), h n (by omega)]
theorem sumF_split (f : Nat → Int) (k m : Nat) : sumF f (k + m) = sumF f k + sumF (fun i => f (k + i)) m := by
  induction m with
  | zero => rw [sumF]; exact (Int.add_zero _).symm
  | succ m ih => rw [show k + (m + 1) = (k + m) + 1 from rfl, sumF, sumF, ih]; omega
theorem sumF_bd (f : Nat → Int) (n : Nat) (h : ∀ i, i < n → 1 ≤ f i ∧ f i ≤ 6) : 0 ≤ sumF f n ∧ sumF f n ≤ 6 * n := by
  induction n with
  | zero => exact ⟨Int.le_refl _, Int.le_refl _⟩
  | succ n ih =>
    have h1 := ih (fun i hi => h i (by omega))
    have h2 := h n (by omega)
    rw [sumF]
    omega

/-! ### one character -/
def ww (c : Int) : Int := (font_Width.f 2 c).getD 0
theorem wide_table : ∀ n : Fin 256, font_Width.f 2 (n.val : Int) = some (ww (n.val : Int)) ∧ terrref5_Wide.f 70 (n.val : Int) = some (ww (n.val : Int)) ∧ 0 ≤ ww (n.val : Int) ∧ ww (n.val : Int) ≤ 6 := by decide +kernel
theorem wide_in (c : Int) (h0 : 0 ≤ c) (h1 : c ≤ 255) (k : Nat) (hk : 70 ≤ k) : font_Width.f k c = some (ww c) ∧ terrref5_Wide.f k c = some (ww c) ∧ 0 ≤ ww c ∧ ww c ≤ 6 := by
  obtain ⟨n, hn⟩ : ∃ n : Nat, c = (n : Int) := ⟨c.toNat, by omega⟩
  subst hn
  obtain ⟨a, b, d, e⟩ := wide_table ⟨n, by omega⟩
  exact ⟨at_rounds (font_Width.mono _) (by omega) a, at_rounds (terrref5_Wide.mono _) hk b, d, e⟩


theorem ww_pos : ∀ n : Fin 256, (32 ≤ n.val ∧ n.val ≤ 126) ↔ ww (n.val : Int) ≠ 0 := by decide +kernel
theorem ww_in (c : Int) (h0 : 0 ≤ c) (h1 : c ≤ 255) : (32 ≤ c ∧ c ≤ 126) ↔ ww c ≠ 0 := by
  obtain ⟨n, hn⟩ : ∃ n : Nat, c = (n : Int) := ⟨c.toNat, by omega⟩
  subst hn
  have := ww_pos ⟨n, by omega⟩
  rw [← this]
  show (32 ≤ (n : Int) ∧ (n : Int) ≤ 126) ↔ (32 ≤ n ∧ n ≤ 126)
  omega

def widthOf (s : ByteArray) : Int := sumF (fun i => ww (bt s (i : Int))) s.size


theorem good_loop (s : ByteArray) (hs : Plain s) (size : Int) (z1 : 1 ≤ size) (z8 : size ≤ 8) : ∀ (d k i : Nat) (acc : Int), i + d = s.size → d + 72 ≤ k → acc = sumF (fun i => ww (bt s (i : Int))) i → 0 ≤ acc → acc ≤ 6 * i →
    font_Size.l0 k s size acc (s.size : Int) (i : Int) = some (size * widthOf s, 6 * size, 0) ∧ terrref5_TextSize.l0 k size (size * acc) s (s.size : Int) (i : Int) = some (size * widthOf s, 6 * size, 0) := by
  have h40 := hs.1
  intro d
  induction d with
  | zero =>
    intro k i acc hi hk ha a0 a1
    obtain ⟨k, rfl⟩ : ∃ m, k = m + 1 := ⟨k - 1, by omega⟩
    have m1 := Int.mul_nonneg (show 0 ≤ size by omega) a0
    have m2 := Int.mul_le_mul z8 (show acc ≤ 240 by omega) a0 (show (0 : Int) ≤ 8 by decide)
    have e : acc = widthOf s := by rw [ha, show i = s.size by omega]; rfl
    rw [← e]
    constructor
    · rw [font_Size.l0, if_neg (by omega), Int.mul_comm acc size, wrapF (x := size * acc) (by omega) (by omega), wrapF (x := 6 * size) (by omega) (by omega)]
    · rw [terrref5_TextSize.l0, if_neg (by omega), wrapF (x := 6 * size) (by omega) (by omega)]
  | succ d ih =>
    intro k i acc hi hk ha a0 a1
    obtain ⟨k, rfl, hk1⟩ : ∃ m, k = m + 1 ∧ d + 72 ≤ m := ⟨k - 1, by omega, by omega⟩
    have c1 : (i : Int) < (s.size : Int) := by omega
    have br := bt_range s (i : Int)
    obtain ⟨w1, w2, w3, w4⟩ := wide_in (bt s (i : Int)) br.1 br.2 k (by omega)
    have c : ww (bt s (i : Int)) ≠ 0 := (ww_in _ br.1 br.2).1 (hs.2 i (by omega))
    have e2 : wrap64 ((i : Int) + 1) = ((i + 1 : Nat) : Int) := by rw [wrapF (by omega) (by omega)]; omega
    have e1 : wrap64 (acc + ww (bt s (i : Int))) = acc + ww (bt s (i : Int)) := wrapF (by omega) (by omega)
    have m1 := Int.mul_nonneg (show 0 ≤ size by omega) w3
    have m2 := Int.mul_le_mul z8 w4 w3 (show (0 : Int) ≤ 8 by decide)
    have m3 := Int.mul_nonneg (show 0 ≤ size by omega) a0
    have m4 := Int.mul_le_mul z8 (show acc ≤ 240 by omega) a0 (show (0 : Int) ≤ 8 by decide)
    have e3 : wrap64 (size * acc + wrap64 (size * ww (bt s (i : Int)))) = size * (acc + ww (bt s (i : Int))) := by rw [wrapF (x := size * ww (bt s (i : Int))) (by omega) (by omega), wrapF (by omega) (by omega), Int.mul_add]
    obtain ⟨q1, q2⟩ := ih k (i + 1) (acc + ww (bt s (i : Int))) (by omega) (by omega) (by rw [ha]; rfl) (by omega) (by omega)
    constructor
    · rw [font_Size.l0, if_pos c1, if_pos (Int.natCast_nonneg _), if_pos c1, w1, Option.bind_some, if_neg c, e1, e2]
      exact q1
    · rw [terrref5_TextSize.l0, if_pos c1, if_pos (Int.natCast_nonneg _), if_pos c1, w2, Option.bind_some, if_neg c, Option.bind_some, e3, e2]
      exact q2

def Bad (s : ByteArray) (i : Nat) : Prop := ∃ j, i ≤ j ∧ j < s.size ∧ ¬ (32 ≤ bt s (j : Int) ∧ bt s (j : Int) ≤ 126)
theorem Bad.next {s : ByteArray} {i : Nat} (hb : Bad s i) (c : ww (bt s (i : Int)) ≠ 0) : Bad s (i + 1) := by
  obtain ⟨j, j0, j1, j2⟩ := hb
  rcases Nat.lt_or_ge i j with h | h
  · exact ⟨j, h, j1, j2⟩
  · have e : j = i := Nat.le_antisymm h j0
    subst e
    exact absurd ((ww_in _ (bt_range s _).1 (bt_range s _).2).2 c) j2

theorem bad_loop (s : ByteArray) (hs : s.size ≤ 40) (size : Int) (z1 : 1 ≤ size) (z8 : size ≤ 8) : ∀ (d k i : Nat) (acc : Int), i + d = s.size → d + 72 ≤ k → 0 ≤ acc → acc ≤ 6 * i → Bad s i →
    font_Size.l0 k s size acc (s.size : Int) (i : Int) = some (0, 0, 3) ∧ terrref5_TextSize.l0 k size (size * acc) s (s.size : Int) (i : Int) = some (0, 0, 3) := by
  intro d
  induction d with
  | zero =>
    intro k i acc hi hk a0 a1 hb
    obtain ⟨j, j0, j1, -⟩ := hb
    omega
  | succ d ih =>
    intro k i acc hi hk a0 a1 hb
    obtain ⟨k, rfl, hk1⟩ : ∃ m, k = m + 1 ∧ d + 72 ≤ m := ⟨k - 1, by omega, by omega⟩
    have c1 : (i : Int) < (s.size : Int) := by omega
    have br := bt_range s (i : Int)
    obtain ⟨w1, w2, w3, w4⟩ := wide_in (bt s (i : Int)) br.1 br.2 k (by omega)
    by_cases c : ww (bt s (i : Int)) = 0
    · constructor
      · rw [font_Size.l0, if_pos c1, if_pos (Int.natCast_nonneg _), if_pos c1, w1, Option.bind_some, if_pos c]
      · rw [terrref5_TextSize.l0, if_pos c1, if_pos (Int.natCast_nonneg _), if_pos c1, w2, Option.bind_some, if_pos c]
    · have hb' : Bad s (i + 1) := hb.next c
      have e2 : wrap64 ((i : Int) + 1) = ((i + 1 : Nat) : Int) := by rw [wrapF (by omega) (by omega)]; omega
      have e1 : wrap64 (acc + ww (bt s (i : Int))) = acc + ww (bt s (i : Int)) := wrapF (by omega) (by omega)
      have m1 := Int.mul_nonneg (show 0 ≤ size by omega) w3
      have m2 := Int.mul_le_mul z8 w4 w3 (show (0 : Int) ≤ 8 by decide)
      have m3 := Int.mul_nonneg (show 0 ≤ size by omega) a0
      have m4 := Int.mul_le_mul z8 (show acc ≤ 240 by omega) a0 (show (0 : Int) ≤ 8 by decide)
      have e3 : wrap64 (size * acc + wrap64 (size * ww (bt s (i : Int)))) = size * (acc + ww (bt s (i : Int))) := by rw [wrapF (x := size * ww (bt s (i : Int))) (by omega) (by omega), wrapF (by omega) (by omega), Int.mul_add]
      obtain ⟨q1, q2⟩ := ih k (i + 1) (acc + ww (bt s (i : Int))) (by omega) (by omega) (by omega) (by omega) hb'
      constructor
      · rw [font_Size.l0, if_pos c1, if_pos (Int.natCast_nonneg _), if_pos c1, w1, Option.bind_some, if_neg c, e1, e2]
        exact q1
      · rw [terrref5_TextSize.l0, if_pos c1, if_pos (Int.natCast_nonneg _), if_pos c1, w2, Option.bind_some, if_neg c, Option.bind_some, e3, e2]
        exact q2

/-- What both sizes answer. -/
theorem both_good (s : ByteArray) (hs : Plain s) (size : Int) (z1 : 1 ≤ size) (z8 : size ≤ 8) (k : Nat) (hk : 120 ≤ k) : font_Size.f k s size = some (size * widthOf s, 6 * size, 0) ∧ terrref5_TextSize.f k s size = some (size * widthOf s, 6 * size, 0) := by
  obtain ⟨k, rfl⟩ : ∃ m, k = m + 1 := ⟨k - 1, by omega⟩
  have h40 := hs.1
  unfold font_Size.f terrref5_TextSize.f
  rw [if_neg (by omega), if_neg (by omega), decide_eq_false (by omega), font_Size.j0, if_neg (show ¬ (false = true) by decide), terrref5_TextSize.j0, if_neg (show ¬ (false = true) by decide), if_neg (by omega), if_neg (by omega)]
  obtain ⟨q1, q2⟩ := good_loop s hs size z1 z8 s.size k 0 0 (by omega) (by omega) rfl (Int.le_refl _) (by omega)
  rw [Int.mul_zero] at q2
  exact ⟨q1, q2⟩

theorem both_bad (s : ByteArray) (size : Int) (hn : ¬ (1 ≤ size ∧ size ≤ 8 ∧ Plain s)) (k : Nat) (hk : 120 ≤ k) : ∃ e, e ≠ 0 ∧ font_Size.f k s size = some (0, 0, e) ∧ terrref5_TextSize.f k s size = some (0, 0, e) := by
  obtain ⟨k, rfl⟩ : ∃ m, k = m + 1 := ⟨k - 1, by omega⟩
  unfold font_Size.f terrref5_TextSize.f
  by_cases c : size < 1
  · refine ⟨1, by decide, ?_, ?_⟩
    · rw [if_pos c, font_Size.j0, if_pos rfl]
    · rw [if_pos c, terrref5_TextSize.j0, if_pos rfl]
  · rw [if_neg c, if_neg c]
    by_cases c8 : size > 8
    · refine ⟨1, by decide, ?_, ?_⟩
      · rw [decide_eq_true c8, font_Size.j0, if_pos rfl]
      · rw [decide_eq_true c8, terrref5_TextSize.j0, if_pos rfl]
    · rw [decide_eq_false c8, font_Size.j0, if_neg (show ¬ (false = true) by decide), terrref5_TextSize.j0, if_neg (show ¬ (false = true) by decide)]
      by_cases c4 : (s.size : Int) > 40
      · exact ⟨2, by decide, by rw [if_pos c4], by rw [if_pos c4]⟩
      · rw [if_neg c4, if_neg c4]
        have hb : Bad s 0 := by
          refine Classical.byContradiction fun hc => hn ⟨by omega, by omega, by omega, fun i hi => ?_⟩
          exact Classical.byContradiction fun h => hc ⟨i, Nat.zero_le _, hi, h⟩
        obtain ⟨q1, q2⟩ := bad_loop s (by omega) size (by omega) (by omega) s.size k 0 0 (by omega) (by omega) (Int.le_refl _) (by omega) hb
        rw [Int.mul_zero] at q2
        exact ⟨3, by decide, q1, q2⟩

end Go.Proofs.YtojehbkadlmbjaaDoor.U
