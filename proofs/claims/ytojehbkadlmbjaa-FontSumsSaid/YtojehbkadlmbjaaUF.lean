/- Plain facts on fonts: widths of characters and texts. Conditions: stated at each. -/
import Derived.Test.YtojehbkadlmbjaaQf12
import Derived.Test.YtojehbkadlmbjaaQf14
import Derived.OpenShut
namespace Go.Proofs.Ytojehbkadlmbjaa.U
open Go.RowKit Go.Proofs.Ytojehbkadlmbjaa.Q Go.Proofs.YtojehbkadlmbjaaW.PrintWords Go.Proofs.YtojehbkadlmbjaaW.PrintLast Go.Proofs.YtojehbkadlmbjaaW.PrintMore
set_option linter.unusedSimpArgs false
set_option linter.unusedVariables false

theorem wrapF {x : Int} (h0 : -9223372036854775808 ≤ x) (h1 : x ≤ 9223372036854775807) : wrap64 x = x := by
  unfold wrap64
  omega

theorem belowF (x n : Int) (hn : 0 < n) (hb : n ≤ 4611686018427387904) : ∃ r, terrmake_Below.f x n = some r ∧ 0 ≤ r ∧ r < n := by
  unfold terrmake_Below.f
  rw [if_neg (by omega)]
  have h0 := Int.emod_nonneg x (show n ≠ 0 by omega)
  have h1 := Int.emod_lt_of_pos x hn
  have e : Int.tmod x n = x % n ∨ (Int.tmod x n = x % n - n) ∧ x % n ≠ 0 := by
    rw [Int.tmod_eq_emod]
    by_cases c : 0 ≤ x ∨ n ∣ x
    · rw [if_pos c]; left; simp
    · rw [if_neg c]; right
      refine ⟨by omega, fun h => c (Or.inr (Int.dvd_of_emod_eq_zero h))⟩
  rcases e with e | ⟨e, e2⟩
  · rw [if_neg (by omega)]
    exact ⟨_, rfl, by omega, by omega⟩
  · rw [if_pos (by omega), wrapF (by omega) (by omega)]
    exact ⟨_, rfl, by omega, by omega⟩

/-! ### widths -/
def wd (c : Int) : Int := (font_Width.f 2 c).getD 0
theorem width_table : ∀ n : Fin 127, 32 ≤ n.val → font_Width.f 2 (n.val : Int) = some (wd (n.val : Int)) ∧ 1 ≤ wd (n.val : Int) ∧ wd (n.val : Int) ≤ 6 := by decide +kernel
theorem width_in (c : Int) (h0 : 32 ≤ c) (h1 : c ≤ 126) (k : Nat) (hk : 2 ≤ k) : font_Width.f k c = some (wd c) ∧ 1 ≤ wd c ∧ wd c ≤ 6 := by
  obtain ⟨n, hn⟩ : ∃ n : Nat, c = (n : Int) := ⟨c.toNat, by omega⟩
  subst hn
  obtain ⟨a, b, d⟩ := width_table ⟨n, by omega⟩ (by show 32 ≤ n; omega)
  exact ⟨at_rounds (font_Width.mono _) hk a, b, d⟩

/-- A text that has a width: at most 40 bytes, each of them from the space to the tilde. -/
def Plain (s : ByteArray) : Prop := s.size ≤ 40 ∧ ∀ i : Nat, i < s.size → 32 ≤ bt s (i : Int) ∧ bt s (i : Int) ≤ 126

def sumF (f : Nat → Int) : Nat → Int
  | 0 => 0
  | n + 1 => sumF f n + f n
theorem sumF_congr (f g : Nat → Int) (n : Nat) (h : ∀ i, i < n → f i = g i) : sumF f n = sumF g n := by
  induction n with
  | zero => rfl
  | succ n ih => rw [sumF, sumF, ih (fun i hi => h i (by omega)), h n (by omega)]
theorem sumF_split (f : Nat → Int) (k m : Nat) : sumF f (k + m) = sumF f k + sumF (fun i => f (k + i)) m := by
  induction m with
  | zero => rw [sumF]; exact (Int.add_zero _).symm
  | succ m ih => rw [show k + (m + 1) = (k + m) + 1 from rfl, sumF, sumF, ih]; omega
theorem sumF_bd (f : Nat → Int) (n : Nat) (h : ∀ i, i < n → 1 ≤ f i ∧ f i ≤ 6) : 0 ≤ sumF f n ∧ sumF f n ≤ 6 * n := by
  induction n with
  | zero => exact ⟨Int.le_refl _, Int.le_refl _⟩
  | succ n ih =>
    have h1 := ih (fun i hi => h i (by omega))
    have h2 := h n (by omega)
    rw [sumF]
    omega

def widthOf (s : ByteArray) : Int := sumF (fun i => wd (bt s (i : Int))) s.size
theorem widthOf_bd (s : ByteArray) (h : Plain s) : 0 ≤ widthOf s ∧ widthOf s ≤ 240 := by
  have := sumF_bd (fun i => wd (bt s (i : Int))) s.size (fun i hi => by
    have b := h.2 i hi
    have := width_in (bt s (i : Int)) b.1 b.2 2 (Nat.le_refl _)
    exact ⟨this.2.1, this.2.2⟩)
  have h1 := h.1
  unfold widthOf
  omega

theorem size_loop (s : ByteArray) (hs : Plain s) (size : Int) : ∀ (d k i : Nat), i + d = s.size → d + 3 ≤ k →
    font_Size.l0 k s size (sumF (fun i => wd (bt s (i : Int))) i) (s.size : Int) (i : Int) = some (wrap64 (widthOf s * size), wrap64 (6 * size), 0) := by
  intro d
  induction d with
  | zero =>
    intro k i hi hk
    obtain ⟨k, rfl⟩ : ∃ m, k = m + 1 := ⟨k - 1, by omega⟩
    obtain rfl : i = s.size := by omega
    rw [font_Size.l0, if_neg (Int.lt_irrefl _)]
    rfl
  | succ d ih =>
    intro k i hi hk
    obtain ⟨k, rfl, hk1⟩ : ∃ m, k = m + 1 ∧ d + 3 ≤ m := ⟨k - 1, by omega, by omega⟩
    have hlt : i < s.size := by omega
    have c1 : (i : Int) < (s.size : Int) := Int.ofNat_lt.mpr hlt
    have b := hs.2 i hlt
    obtain ⟨w1, w2, w3⟩ := width_in (bt s (i : Int)) b.1 b.2 k (by omega)
    have bd := sumF_bd (fun i => wd (bt s (i : Int))) i (fun j hj => by
      have b := hs.2 j (by omega)
      have := width_in (bt s (j : Int)) b.1 b.2 2 (Nat.le_refl _)
      exact ⟨this.2.1, this.2.2⟩)
    have h40 := hs.1
    have e1 : wrap64 (sumF (fun i => wd (bt s (i : Int))) i + wd (bt s (i : Int))) = sumF (fun i => wd (bt s (i : Int))) (i + 1) := by rw [wrapF (by omega) (by omega)]; rfl
    have e2 : wrap64 ((i : Int) + 1) = ((i + 1 : Nat) : Int) := by rw [wrapF (by omega) (by omega)]; omega
    rw [font_Size.l0, if_pos c1, if_pos (Int.natCast_nonneg _), if_pos c1, w1, Option.bind_some, if_neg (by omega), e1, e2]
    exact ih k (i + 1) (by omega) hk1

/-- SIZE of a plain text. -/
theorem size_in (s : ByteArray) (hs : Plain s) (size : Int) (h1 : 1 ≤ size) (h8 : size ≤ 8) (k : Nat) (hk : 50 ≤ k) : font_Size.f k s size = some (widthOf s * size, 6 * size, 0) := by
  obtain ⟨k, rfl⟩ : ∃ m, k = m + 1 := ⟨k - 1, by omega⟩
  have h40 := hs.1
  have b := widthOf_bd s hs
  have m1 := Int.mul_nonneg b.1 (show 0 ≤ size by omega)
  have m2 := Int.mul_le_mul b.2 h8 (show 0 ≤ size by omega) (show (0 : Int) ≤ 240 by decide)
  have := size_loop s hs size s.size k 0 (by omega) (by omega)
  have z : ((0 : Nat) : Int) = 0 := rfl
  rw [z] at this
  have z2 : sumF (fun i => wd (bt s (i : Int))) 0 = 0 := rfl
  rw [z2, wrapF (x := widthOf s * size) (by omega) (by omega), wrapF (x := 6 * size) (by omega) (by omega)] at this
  unfold font_Size.f
  rw [if_neg (by omega), decide_eq_false (by omega), font_Size.j0, if_neg (by decide), if_neg (by omega)]
  exact this

/-! ### texts that are made -/
theorem num_byte (l : List Int) (i : Nat) (h : i < l.length) (hb : ∀ x ∈ l, 0 ≤ x ∧ x ≤ 255) : bt (strOfNums l) (i : Int) = l[i] ∧ (strOfNums l).size = l.length := by
  have hm := hb l[i] (List.getElem_mem h)
  have hs : (strOfNums l).size = l.length := by simp [strOfNums, ByteArray.size]
  refine ⟨?_, hs⟩
  unfold bt
  rw [dif_pos (by rw [hs]; exact h)]
  have e : (strOfNums l)[(i : Int).toNat]'(by rw [hs]; exact h) = l[i].toNat.toUInt8 := by simp [strOfNums, ByteArray.getElem_eq_getElem_data]
  rw [e]
  simp
  omega

theorem text_loop (L : List Int) (hL : L.length ≤ 40) : ∀ (d k i : Nat) (acc : List Int), i + d = L.length → d < k → acc.length = i → (∀ x ∈ acc, 32 ≤ x ∧ x ≤ 126) →
    ∃ out : List Int, out.length = L.length ∧ (∀ x ∈ out, 32 ≤ x ∧ x ≤ 126) ∧ terrkeep5_text.l0 k acc L (L.length : Int) (i : Int) = some (strOfNums out) := by
  intro d
  induction d with
  | zero =>
    intro k i acc hi hk ha hx
    obtain ⟨k, rfl⟩ : ∃ m, k = m + 1 := ⟨k - 1, by omega⟩
    refine ⟨acc, by omega, hx, ?_⟩
    rw [terrkeep5_text.l0, if_neg (by omega)]
  | succ d ih =>
    intro k i acc hi hk ha hx
    obtain ⟨k, rfl, hk1⟩ : ∃ m, k = m + 1 ∧ d < m := ⟨k - 1, by omega, by omega⟩
    have hlt : i < L.length := by omega
    have c1 : (i : Int) < (L.length : Int) := Int.ofNat_lt.mpr hlt
    obtain ⟨r, hr, r0, r1⟩ := belowF (rd L (i : Int)) 95 (by decide) (by decide)
    have e2 : wrap64 ((i : Int) + 1) = ((i + 1 : Nat) : Int) := by rw [wrapF (by omega) (by omega)]; omega
    have e3 : wrap64 (32 + r) % 256 = 32 + r := by rw [wrapF (by omega) (by omega)]; omega
    obtain ⟨out, h1, h2, h3⟩ := ih k (i + 1) (acc ++ [32 + r]) (by omega) hk1 (by rw [List.length_append, ha]; rfl) (fun x hx' => by
      rcases List.mem_append.1 hx' with h | h
      · exact hx x h
      · rw [List.mem_singleton.1 h]; omega)
    refine ⟨out, h1, h2, ?_⟩
    rw [terrkeep5_text.l0, if_pos c1, if_pos (Int.natCast_nonneg _), if_pos c1, hr, Option.bind_some, if_pos (by omega), e3, e2]
    exact h3

/-- TEXT: whatever list it is made of, a plain text comes out. -/
theorem text_in (l : List Int) (k : Nat) (hk : 50 ≤ k) : ∃ s, terrkeep5_text.f k l = some s ∧ Plain s := by
  have hm : mn (l.length : Int) 40 = ((min l.length 40 : Nat) : Int) := by unfold mn; split <;> omega
  have ht : (l.take (min l.length 40)).length = min l.length 40 := by rw [List.length_take]; omega
  obtain ⟨out, h1, h2, h3⟩ := text_loop (l.take (min l.length 40)) (by omega) (min l.length 40) k 0 [] (by omega) (by omega) rfl (fun x h => by cases h)
  refine ⟨strOfNums out, ?_, ?_, ?_⟩
  · unfold terrkeep5_text.f
    rw [hm, if_pos (Int.natCast_nonneg _), if_pos (by omega), Int.toNat_natCast]
    exact h3
  · have : (strOfNums out).size = out.length := by simp [strOfNums, ByteArray.size]
    omega
  · intro i hi
    have hs : (strOfNums out).size = out.length := by simp [strOfNums, ByteArray.size]
    rw [hs] at hi
    have := (num_byte out i hi (fun x hx => by have := h2 x hx; omega)).1
    rw [this]
    exact h2 _ (List.getElem_mem hi)

theorem bt_extract (s : ByteArray) (a b i : Nat) (hb : b ≤ s.size) (hi : i < b - a) : bt (s.extract a b) (i : Int) = bt s ((a + i : Nat) : Int) := by
  have h1 : i < (s.extract a b).size := by rw [ByteArray.size_extract]; omega
  unfold bt
  rw [dif_pos (show ((i : Nat) : Int).toNat < (s.extract a b).size from h1), dif_pos (show ((a + i : Nat) : Int).toNat < s.size by show a + i < s.size; omega)]
  congr 2
  exact ByteArray.getElem_extract h1

theorem plain_extract (s : ByteArray) (hs : Plain s) (a b : Nat) (hb : b ≤ s.size) : Plain (s.extract a b) := by
  have h40 := hs.1
  have hz : (s.extract a b).size = min b s.size - a := ByteArray.size_extract
  refine ⟨by omega, fun i hi => ?_⟩
  rw [bt_extract s a b i hb (by omega)]
  exact hs.2 (a + i) (by omega)

/-- The widths of two parts add up. -/
theorem widthOf_parts (s : ByteArray) (k : Nat) (hk : k ≤ s.size) : widthOf (s.extract 0 k) + widthOf (s.extract k s.size) = widthOf s := by
  have z1 : (s.extract 0 k).size = k := by rw [ByteArray.size_extract]; omega
  have z2 : (s.extract k s.size).size = s.size - k := by rw [ByteArray.size_extract]; omega
  unfold widthOf
  rw [z1, z2]
  obtain ⟨m, hm⟩ : ∃ m, s.size = k + m := ⟨s.size - k, by omega⟩
  rw [show s.size - k = m by omega]
  have e1 : sumF (fun i => wd (bt (s.extract 0 k) (i : Int))) k = sumF (fun i => wd (bt s (i : Int))) k := sumF_congr _ _ k (fun i hi => by rw [bt_extract s 0 k i hk (by omega), Nat.zero_add])
  have e2 : sumF (fun i => wd (bt (s.extract k s.size) (i : Int))) m = sumF (fun i => wd (bt s ((k + i : Nat) : Int))) m := sumF_congr _ _ m (fun i hi => by rw [bt_extract s k s.size i (Nat.le_refl _) (by omega)])
  rw [e1, e2, ← sumF_split (fun i => wd (bt s (i : Int))) k m, hm]

end Go.Proofs.Ytojehbkadlmbjaa.U
