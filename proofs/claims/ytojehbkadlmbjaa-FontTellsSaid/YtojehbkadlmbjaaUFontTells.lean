/- Sizes of texts and boxes of labels are those of the second implementation: for all bytes, texts, sizes and points. No condition. -/
import Derived.Test.YtojehbkadlmbjaaQFontTells
import Derived.OpenShut
namespace Go.Proofs.Ytojehbkadlmbjaa.Pure
open Go.RowKit Go.Proofs.Ytojehbkadlmbjaa.Q Go.Proofs.YtojehbkadlmbjaaW.PrintWords Go.Proofs.YtojehbkadlmbjaaW.PrintLast Go.Proofs.YtojehbkadlmbjaaW.PrintMore
set_option linter.unusedSimpArgs false
set_option linter.unusedVariables false

theorem wrapT {x : Int} (h0 : -9223372036854775808 ≤ x) (h1 : x ≤ 9223372036854775807) : wrap64 x = x := by
  unfold wrap64
  omega

/-! ### one character -/
def ww (c : Int) : Int := (font_Width.f 2 c).getD 0
theorem wide_table : ∀ n : Fin 256, font_Width.f 2 (n.val : Int) = some (ww (n.val : Int)) ∧ terrref5_Wide.f 70 (n.val : Int) = some (ww (n.val : Int)) ∧ 0 ≤ ww (n.val : Int) ∧ ww (n.val : Int) ≤ 6 := by decide +kernel
theorem wide_in (c : Int) (h0 : 0 ≤ c) (h1 : c ≤ 255) (k : Nat) (hk : 70 ≤ k) : font_Width.f k c = some (ww c) ∧ terrref5_Wide.f k c = some (ww c) ∧ 0 ≤ ww c ∧ ww c ≤ 6 := by
  obtain ⟨n, hn⟩ : ∃ n : Nat, c = (n : Int) := ⟨c.toNat, by omega⟩
  subst hn
  obtain ⟨a, b, d, e⟩ := wide_table ⟨n, by omega⟩
  exact ⟨at_rounds (font_Width.mono _) (by omega) a, at_rounds (terrref5_Wide.mono _) hk b, d, e⟩

/-! ### a text -/
theorem both_loop (s : ByteArray) (hs : s.size ≤ 40) (size : Int) (z1 : 1 ≤ size) (z8 : size ≤ 8) : ∀ (d k i : Nat) (acc : Int), i + d = s.size → d + 72 ≤ k → 0 ≤ acc → acc ≤ 6 * i →
    ∃ w h e, font_Size.l0 k s size acc (s.size : Int) (i : Int) = some (w, h, e) ∧ terrref5_TextSize.l0 k size (size * acc) s (s.size : Int) (i : Int) = some (w, h, e) ∧ (e = 0 → 0 ≤ w ∧ w ≤ 1920 ∧ h = 6 * size) := by
  intro d
  induction d with
  | zero =>
    intro k i acc hi hk a0 a1
    obtain ⟨k, rfl⟩ : ∃ m, k = m + 1 := ⟨k - 1, by omega⟩
    have m1 := Int.mul_nonneg (show 0 ≤ size by omega) a0
    have m2 := Int.mul_le_mul z8 (show acc ≤ 240 by omega) a0 (show (0 : Int) ≤ 8 by decide)
    refine ⟨size * acc, 6 * size, 0, ?_, ?_, fun _ => ⟨m1, by omega, rfl⟩⟩
    · rw [font_Size.l0, if_neg (by omega), Int.mul_comm acc size, wrapT (x := size * acc) (by omega) (by omega), wrapT (x := 6 * size) (by omega) (by omega)]
    · rw [terrref5_TextSize.l0, if_neg (by omega), wrapT (x := 6 * size) (by omega) (by omega)]
  | succ d ih =>
    intro k i acc hi hk a0 a1
    obtain ⟨k, rfl, hk1⟩ : ∃ m, k = m + 1 ∧ d + 72 ≤ m := ⟨k - 1, by omega, by omega⟩
    have c1 : (i : Int) < (s.size : Int) := by omega
    have br := bt_range s (i : Int)
    obtain ⟨w1, w2, w3, w4⟩ := wide_in (bt s (i : Int)) br.1 br.2 k (by omega)
    by_cases c : ww (bt s (i : Int)) = 0
    · refine ⟨0, 0, 3, ?_, ?_, fun h => absurd h (by decide)⟩
      · rw [font_Size.l0, if_pos c1, if_pos (Int.natCast_nonneg _), if_pos c1, w1, Option.bind_some, if_pos c]
      · rw [terrref5_TextSize.l0, if_pos c1, if_pos (Int.natCast_nonneg _), if_pos c1, w2, Option.bind_some, if_pos c]
    · have e2 : wrap64 ((i : Int) + 1) = ((i + 1 : Nat) : Int) := by rw [wrapT (by omega) (by omega)]; omega
      have e1 : wrap64 (acc + ww (bt s (i : Int))) = acc + ww (bt s (i : Int)) := wrapT (by omega) (by omega)
      have m1 := Int.mul_nonneg (show 0 ≤ size by omega) w3
      have m2 := Int.mul_le_mul z8 w4 w3 (show (0 : Int) ≤ 8 by decide)
      have m3 := Int.mul_nonneg (show 0 ≤ size by omega) a0
      have m4 := Int.mul_le_mul z8 (show acc ≤ 240 by omega) a0 (show (0 : Int) ≤ 8 by decide)
      have e3 : wrap64 (size * acc + wrap64 (size * ww (bt s (i : Int)))) = size * (acc + ww (bt s (i : Int))) := by rw [wrapT (x := size * ww (bt s (i : Int))) (by omega) (by omega), wrapT (by omega) (by omega), Int.mul_add]
      obtain ⟨w, h, e, q1, q2, q3⟩ := ih k (i + 1) (acc + ww (bt s (i : Int))) (by omega) (by omega) (by omega) (by omega)
      refine ⟨w, h, e, ?_, ?_, q3⟩
      · rw [font_Size.l0, if_pos c1, if_pos (Int.natCast_nonneg _), if_pos c1, w1, Option.bind_some, if_neg c, e1, e2]
        exact q1
      · rw [terrref5_TextSize.l0, if_pos c1, if_pos (Int.natCast_nonneg _), if_pos c1, w2, Option.bind_some, if_neg c, Option.bind_some, e3, e2]
        exact q2

theorem both_sizes (s : ByteArray) (size : Int) (k : Nat) (hk : 120 ≤ k) : ∃ w h e, font_Size.f k s size = some (w, h, e) ∧ terrref5_TextSize.f k s size = some (w, h, e) ∧ (e = 0 → 0 ≤ w ∧ w ≤ 1920 ∧ 0 ≤ h ∧ h ≤ 48) := by
  obtain ⟨k, rfl⟩ : ∃ m, k = m + 1 := ⟨k - 1, by omega⟩
  unfold font_Size.f terrref5_TextSize.f
  by_cases c : size < 1
  · refine ⟨0, 0, 1, ?_, ?_, fun h => absurd h (by decide)⟩
    · rw [if_pos c, font_Size.j0, if_pos rfl]
    · rw [if_pos c, terrref5_TextSize.j0, if_pos rfl]
  · rw [if_neg c, if_neg c]
    by_cases c8 : size > 8
    · refine ⟨0, 0, 1, ?_, ?_, fun h => absurd h (by decide)⟩
      · rw [decide_eq_true c8, font_Size.j0, if_pos rfl]
      · rw [decide_eq_true c8, terrref5_TextSize.j0, if_pos rfl]
    · rw [decide_eq_false c8, font_Size.j0, if_neg (show ¬ (false = true) by decide), terrref5_TextSize.j0, if_neg (show ¬ (false = true) by decide)]
      by_cases c4 : (s.size : Int) > 40
      · exact ⟨0, 0, 2, by rw [if_pos c4], by rw [if_pos c4], fun h => absurd h (by decide)⟩
      · rw [if_neg c4, if_neg c4]
        obtain ⟨w, h, e, q1, q2, q3⟩ := both_loop s (by omega) size (by omega) (by omega) s.size k 0 0 (by omega) (by omega) (Int.le_refl _) (by omega)
        rw [Int.mul_zero] at q2
        exact ⟨w, h, e, q1, q2, fun he => by have := q3 he; omega⟩

/-! ### the boxes -/
def five (w h x y : Int) : List S44 := [⟨⟨x + 2, y + 2⟩, ⟨x + 2 + w, y + 2 + h⟩⟩, ⟨⟨x + 2, y - 2 - h⟩, ⟨x + 2 + w, y - 2 - h + h⟩⟩, ⟨⟨x - 2 - w, y + 2⟩, ⟨x - 2 - w + w, y + 2 + h⟩⟩, ⟨⟨x - 2 - w, y - 2 - h⟩, ⟨x - 2 - w + w, y - 2 - h + h⟩⟩, ⟨⟨x - w / 2, y + 2⟩, ⟨x - w / 2 + w, y + 2 + h⟩⟩]

theorem box_loop (w h : Int) (w0 : 0 ≤ w) (w1 : w ≤ 1920) (h0 : 0 ≤ h) (h1 : h ≤ 48) (ps : List S31) (hp : ∀ i : Nat, i < ps.length → -2000000 ≤ (rd_T31 ps (i : Int)).f0 ∧ (rd_T31 ps (i : Int)).f0 ≤ 2000000 ∧ -2000000 ≤ (rd_T31 ps (i : Int)).f1 ∧ (rd_T31 ps (i : Int)).f1 ≤ 2000000) (hl : ps.length ≤ 5) :
    ∀ (d k i : Nat) (out : List S44), i + d = ps.length → d < k → out.length = i →
    font_Boxes.l0 k w h out ps (ps.length : Int) (i : Int) = some (out ++ ((List.range' i d).map fun (j : Nat) => (⟨⟨(rd_T31 ps (j : Int)).f0, (rd_T31 ps (j : Int)).f1⟩, ⟨(rd_T31 ps (j : Int)).f0 + w, (rd_T31 ps (j : Int)).f1 + h⟩⟩ : S44)), 0) := by
  intro d
  induction d with
  | zero =>
    intro k i out hi hk ho
    obtain ⟨k, rfl⟩ : ∃ m, k = m + 1 := ⟨k - 1, by omega⟩
    rw [font_Boxes.l0, if_neg (by omega)]
    simp
  | succ d ih =>
    intro k i out hi hk ho
    obtain ⟨k, rfl⟩ : ∃ m, k = m + 1 := ⟨k - 1, by omega⟩
    have b := hp i (by omega)
    have e2 : wrap64 ((i : Int) + 1) = ((i + 1 : Nat) : Int) := by rw [wrapT (by omega) (by omega)]; omega
    rw [font_Boxes.l0, if_pos (by omega), if_pos (Int.natCast_nonneg _), if_pos (by omega), if_pos (by omega), wrapT (x := (rd_T31 ps (i : Int)).f0 + w) (by omega) (by omega), wrapT (x := (rd_T31 ps (i : Int)).f1 + h) (by omega) (by omega), e2, ih k (i + 1) _ (by omega) (by omega) (by simp [ho]), List.range'_succ, List.map_cons, List.append_assoc]
    rfl

theorem boxes_valid (k : Nat) (hk : 120 ≤ k) (s : ByteArray) (size w h x y : Int) (hS : font_Size.f k s size = some (w, h, 0)) (w0 : 0 ≤ w) (w1 : w ≤ 1920) (h0 : 0 ≤ h) (h1 : h ≤ 48)
    (x0 : -1048576 ≤ x) (x1 : x ≤ 1048576) (y0 : -1048576 ≤ y) (y1 : y ≤ 1048576) : font_Boxes.f k x y s size = some (five w h x y, 0) := by
  obtain ⟨k, rfl⟩ : ∃ m, k = m + 1 := ⟨k - 1, by omega⟩
  unfold font_Boxes.f
  have m1 : ¬ (mx x y > 1048576) := by unfold mx; split <;> omega
  have m2 : ¬ (mn x y < -1048576) := by unfold mn; split <;> omega
  have eq : Int.tdiv w 2 = w / 2 := Int.tdiv_eq_ediv_of_nonneg w0
  rw [hS, Option.bind_some, if_pos rfl, if_neg m1, decide_eq_false m2, font_Boxes.j0, if_neg (by decide), Option.bind_some, eq]
  dsimp only
  rw [wrapT (x := x + 2) (by omega) (by omega), wrapT (x := y + 2) (by omega) (by omega), wrapT (x := y - 2) (by omega) (by omega), wrapT (x := y - 2 - h) (by omega) (by omega), wrapT (x := x - 2) (by omega) (by omega), wrapT (x := x - 2 - w) (by omega) (by omega), wrapT (x := w / 2) (by omega) (by omega), wrapT (x := x - w / 2) (by omega) (by omega)]
  have := box_loop w h w0 w1 h0 h1 [⟨x + 2, y + 2⟩, ⟨x + 2, y - 2 - h⟩, ⟨x - 2 - w, y + 2⟩, ⟨x - 2 - w, y - 2 - h⟩, ⟨x - w / 2, y + 2⟩] (fun i hi => by
    have e : i = 0 ∨ i = 1 ∨ i = 2 ∨ i = 3 ∨ i = 4 := by simp at hi; omega
    rcases e with rfl | rfl | rfl | rfl | rfl <;> (simp only [rd_T31, Int.toNat_natCast, List.getD, List.getElem?_cons_zero, List.getElem?_cons_succ, Option.getD_some]; omega)) (by simp) 5 k 0 [] rfl (by omega) rfl
  exact this

theorem boxes_wrong (k : Nat) (hk : 120 ≤ k) (s : ByteArray) (size w h x y : Int) (hS : font_Size.f k s size = some (w, h, 0)) (hv : ¬ (-1048576 ≤ x ∧ x ≤ 1048576 ∧ -1048576 ≤ y ∧ y ≤ 1048576)) : font_Boxes.f k x y s size = some ([], 1) := by
  obtain ⟨k, rfl⟩ : ∃ m, k = m + 1 := ⟨k - 1, by omega⟩
  unfold font_Boxes.f
  rw [hS, Option.bind_some, if_pos rfl]
  by_cases m1 : mx x y > 1048576
  · rw [if_pos m1, font_Boxes.j0, if_pos rfl]
  · have m2 : mn x y < -1048576 := by
      unfold mx at m1
      unfold mn
      split at m1 <;> split <;> omega
    rw [if_neg m1, decide_eq_true m2, font_Boxes.j0, if_pos rfl]

theorem valid_in (x y : Int) : terrref5_Valid.f x y = some (decide (-1048576 ≤ x ∧ x ≤ 1048576 ∧ -1048576 ≤ y ∧ y ≤ 1048576)) := by
  unfold terrref5_Valid.f
  by_cases a : (-1048576 : Int) ≤ x
  · by_cases b : x ≤ 1048576
    · by_cases c : (-1048576 : Int) ≤ y
      · rw [if_pos a, if_pos b, if_pos c]
        refine congrArg some (decide_eq_decide.mpr ?_)
        omega
      · rw [if_pos a, if_pos b, if_neg c, decide_eq_false (by omega)]
    · rw [if_pos a, if_neg b, decide_eq_false (by omega)]
  · rw [if_neg a, decide_eq_false (by omega)]

theorem tells_loop (w h x y : Int) (w0 : 0 ≤ w) (w1 : w ≤ 1920) (h0 : 0 ≤ h) (h1 : h ≤ 48) (x0 : -1048576 ≤ x) (x1 : x ≤ 1048576) (y0 : -1048576 ≤ y) (y1 : y ≤ 1048576) : ∀ (d k i : Nat), i + d = 5 → d < k →
    terrlaw5_FontTells.l0 k w h (five w h x y) [⟨2, 2⟩, ⟨2, -2 - h⟩, ⟨-2 - w, 2⟩, ⟨-2 - w, -2 - h⟩, ⟨-(w / 2), 2⟩] 5 (i : Int) x y = some true := by
  intro d
  induction d with
  | zero =>
    intro k i hi hk
    obtain ⟨k, rfl⟩ : ∃ m, k = m + 1 := ⟨k - 1, by omega⟩
    rw [terrlaw5_FontTells.l0, if_neg (by omega)]
  | succ d ih =>
    intro k i hi hk
    obtain ⟨k, rfl⟩ : ∃ m, k = m + 1 := ⟨k - 1, by omega⟩
    have e2 : wrap64 ((i : Int) + 1) = ((i + 1 : Nat) : Int) := by rw [wrapT (by omega) (by omega)]; omega
    have key : ∀ (b : S44) (p : S31), b.f0.f0 = x + p.f0 → b.f0.f1 = y + p.f1 → b.f1.f0 = x + p.f0 + w → b.f1.f1 = y + p.f1 + h → -5000 ≤ p.f0 → p.f0 ≤ 5000 → -5000 ≤ p.f1 → p.f1 ≤ 5000 →
        ¬ (((!(b.f0.f0 == wrap64 (x + p.f0)) || !(b.f0.f1 == wrap64 (y + p.f1))) || (!(b.f1.f0 == wrap64 (wrap64 (x + p.f0) + w)) || !(b.f1.f1 == wrap64 (wrap64 (y + p.f1) + h)))) = true) := by
      intro b p q1 q2 q3 q4 p0 p1 p2 p3
      rw [wrapT (x := x + p.f0) (by omega) (by omega), wrapT (x := y + p.f1) (by omega) (by omega), wrapT (x := x + p.f0 + w) (by omega) (by omega), wrapT (x := y + p.f1 + h) (by omega) (by omega), q1, q2, q3, q4]
      simp
    have hc : ¬ (((!((rd_T44 (five w h x y) (i : Int)).f0.f0 == wrap64 (x + (rd_T31 [⟨2, 2⟩, ⟨2, -2 - h⟩, ⟨-2 - w, 2⟩, ⟨-2 - w, -2 - h⟩, ⟨-(w / 2), 2⟩] (i : Int)).f0)) || !((rd_T44 (five w h x y) (i : Int)).f0.f1 == wrap64 (y + (rd_T31 [⟨2, 2⟩, ⟨2, -2 - h⟩, ⟨-2 - w, 2⟩, ⟨-2 - w, -2 - h⟩, ⟨-(w / 2), 2⟩] (i : Int)).f1))) || (!((rd_T44 (five w h x y) (i : Int)).f1.f0 == wrap64 (wrap64 (x + (rd_T31 [⟨2, 2⟩, ⟨2, -2 - h⟩, ⟨-2 - w, 2⟩, ⟨-2 - w, -2 - h⟩, ⟨-(w / 2), 2⟩] (i : Int)).f0) + w)) || !((rd_T44 (five w h x y) (i : Int)).f1.f1 == wrap64 (wrap64 (y + (rd_T31 [⟨2, 2⟩, ⟨2, -2 - h⟩, ⟨-2 - w, 2⟩, ⟨-2 - w, -2 - h⟩, ⟨-(w / 2), 2⟩] (i : Int)).f1) + h)))) = true) := by
      have e : i = 0 ∨ i = 1 ∨ i = 2 ∨ i = 3 ∨ i = 4 := by omega
      rcases e with rfl | rfl | rfl | rfl | rfl <;> (apply key <;> (simp only [five, rd_T31, rd_T44, Int.toNat_natCast, List.getD, List.getElem?_cons_zero, List.getElem?_cons_succ, Option.getD_some]; try omega))
    rw [terrlaw5_FontTells.l0, if_pos (by omega), if_pos (Int.natCast_nonneg _), if_pos (by show (i : Int) < 5; omega), if_pos (by show (i : Int) < 5; omega), if_neg hc, e2]
    exact ih k (i + 1) (by omega) (by omega)

theorem FontTells (a0 : Int) (b0 : 0 ≤ a0) (b1 : a0 ≤ 255) (s : ByteArray) (size x y : Int) : ∃ k, terrlaw5_FontTells.f k a0 s size x y = some true := by
  obtain ⟨K, hK⟩ : ∃ K : Nat, 130 ≤ K := ⟨130, Nat.le_refl _⟩
  refine ⟨K + 4, ?_⟩
  obtain ⟨w, h, e, q1, q2, q3⟩ := both_sizes s size (K + 4) (by omega)
  obtain ⟨v1, v2, -⟩ := wide_in a0 b0 b1 (K + 4) (by omega)
  have v3 : font_Width.f (K + 4) 109 = some 6 := at_rounds (font_Width.mono _) (show 2 ≤ K + 4 by omega) (by decide +kernel)
  have ne : ∀ z : Int, (z != z) = false := fun z => by simp
  unfold terrlaw5_FontTells.f
  rw [v3, Option.bind_some, if_pos rfl, q1, Option.bind_some, q2, Option.bind_some]
  by_cases he : e = 0
  · subst he
    obtain ⟨w0, w1, h0, h1⟩ := q3 rfl
    by_cases hv : -1048576 ≤ x ∧ x ≤ 1048576 ∧ -1048576 ≤ y ∧ y ≤ 1048576
    · obtain ⟨x0, x1, y0, y1⟩ := hv
      rw [boxes_valid (K + 4) (by omega) s size w h x y q1 w0 w1 h0 h1 x0 x1 y0 y1, Option.bind_some, v1, Option.bind_some, v2, Option.bind_some, if_pos rfl, if_pos rfl, if_pos rfl]
      dsimp only
      rw [ne, terrlaw5_FontTells.j0, if_neg (by decide), if_pos rfl, valid_in, Option.bind_some, decide_eq_true ⟨x0, x1, y0, y1⟩, Bool.not_true, terrlaw5_FontTells.j1, if_neg (by decide), terrlaw5_FontTells.j2, if_pos rfl, if_pos rfl]
      rw [show (((five w h x y).length : Int) != 5) = false from rfl, terrlaw5_FontTells.j3, if_neg (by decide), Option.bind_some, Int.tdiv_eq_ediv_of_nonneg w0]
      rw [wrapT (x := -2 - h) (by omega) (by omega), wrapT (x := -2 - w) (by omega) (by omega), wrapT (x := w / 2) (by omega) (by omega), wrapT (x := -(w / 2)) (by omega) (by omega)]
      exact tells_loop w h x y w0 w1 h0 h1 x0 x1 y0 y1 5 K 0 rfl (by omega)
    · rw [boxes_wrong (K + 4) (by omega) s size w h x y q1 hv, Option.bind_some, v1, Option.bind_some, v2, Option.bind_some, if_pos rfl, if_pos rfl, if_pos rfl]
      dsimp only
      rw [ne, terrlaw5_FontTells.j0, if_neg (by decide), if_pos rfl, valid_in, Option.bind_some, decide_eq_false hv, Bool.not_false, terrlaw5_FontTells.j1, if_pos rfl, terrlaw5_FontTells.j2, if_neg (by decide), if_pos rfl]
      rfl
  · have hb : font_Boxes.f (K + 4) x y s size = some ([], e) := by
      unfold font_Boxes.f
      rw [q1, Option.bind_some, if_neg he]
    rw [hb, Option.bind_some, v1, Option.bind_some, v2, Option.bind_some, if_pos rfl, if_pos rfl, if_pos rfl]
    dsimp only
    rw [ne, terrlaw5_FontTells.j0, if_neg (by decide), if_neg he, terrlaw5_FontTells.j1, if_neg (by decide), terrlaw5_FontTells.j2, if_neg he, if_pos rfl]
    rfl

end Go.Proofs.Ytojehbkadlmbjaa.Pure
