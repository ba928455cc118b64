/- No box of a label contains its point, and all have its size: for all points, texts and sizes that the law makes. No condition. -/
import Derived.Test.YtojehbkadlmbjaaUF
import Derived.Test.YtojehbkadlmbjaaQFontBeside
namespace Go.Proofs.Ytojehbkadlmbjaa.Pure
open Go.RowKit Go.Proofs.Ytojehbkadlmbjaa.Q Go.Proofs.Ytojehbkadlmbjaa.U Go.Proofs.YtojehbkadlmbjaaW.PrintWords Go.Proofs.YtojehbkadlmbjaaW.PrintLast Go.Proofs.YtojehbkadlmbjaaW.PrintMore
set_option linter.unusedSimpArgs false
set_option linter.unusedVariables false

def box5 (x y w h : Int) : S44 := ⟨⟨x, y⟩, ⟨x + w, y + h⟩⟩

theorem boxes_in (k : Nat) (px py w h : Int) (x0 : -1048576 ≤ px) (x1 : px ≤ 1048576) (y0 : -1048576 ≤ py) (y1 : py ≤ 1048576) (w0 : 0 ≤ w) (w1 : w ≤ 2000) (h0 : 0 ≤ h) (h1 : h ≤ 100) :
    font_Boxes.j0 (k + 7) w h false px py = some ([box5 (px + 2) (py + 2) w h, box5 (px + 2) (py - 2 - h) w h, box5 (px - 2 - w) (py + 2) w h, box5 (px - 2 - w) (py - 2 - h) w h, box5 (px - w / 2) (py + 2) w h], 0) := by
  have g : ∀ l : List S31, ∀ a b c d e, l = [a, b, c, d, e] → rd_T31 l 0 = a ∧ rd_T31 l 1 = b ∧ rd_T31 l 2 = c ∧ rd_T31 l 3 = d ∧ rd_T31 l 4 = e ∧ (l.length : Int) = 5 := by
    intro l a b c d e h; subst h; exact ⟨rfl, rfl, rfl, rfl, rfl, rfl⟩
  have t : Int.tdiv w 2 = w / 2 := Int.tdiv_eq_ediv_of_nonneg w0
  have W : ∀ x : Int, -4000000 ≤ x → x ≤ 4000000 → wrap64 x = x := fun x l r => wrapF (by omega) (by omega)
  have n0 : wrap64 (0 + 1) = 1 := wrapF (by decide) (by decide)
  have n1 : wrap64 (1 + 1) = 2 := wrapF (by decide) (by decide)
  have n2 : wrap64 (2 + 1) = 3 := wrapF (by decide) (by decide)
  have n3 : wrap64 (3 + 1) = 4 := wrapF (by decide) (by decide)
  have n4 : wrap64 (4 + 1) = 5 := wrapF (by decide) (by decide)
  rw [font_Boxes.j0, if_neg (by decide), Option.bind_some, t, W (px + 2) (by omega) (by omega), W (py + 2) (by omega) (by omega), W (px - 2) (by omega) (by omega), W (py - 2) (by omega) (by omega), W (py - 2 - h) (by omega) (by omega), W (px - 2 - w) (by omega) (by omega), W (w / 2) (by omega) (by omega), W (px - w / 2) (by omega) (by omega)]
  obtain ⟨g0, g1, g2, g3, g4, g5⟩ := g _ _ _ _ _ _ (rfl : ([⟨px + 2, py + 2⟩, ⟨px + 2, py - 2 - h⟩, ⟨px - 2 - w, py + 2⟩, ⟨px - 2 - w, py - 2 - h⟩, ⟨px - w / 2, py + 2⟩] : List S31) = _)
  generalize ([⟨px + 2, py + 2⟩, ⟨px + 2, py - 2 - h⟩, ⟨px - 2 - w, py + 2⟩, ⟨px - 2 - w, py - 2 - h⟩, ⟨px - w / 2, py + 2⟩] : List S31) = Z at *
  have step : ∀ (j : Nat) (acc : List S44) (i i' x y : Int), acc.length < 6 → 0 ≤ i → i < 5 → wrap64 (i + 1) = i' → rd_T31 Z i = ⟨x, y⟩ → -4000000 ≤ x + w → x + w ≤ 4000000 → -4000000 ≤ y + h → y + h ≤ 4000000 →
      font_Boxes.l0 (j + 1) w h acc Z 5 i = font_Boxes.l0 j w h (acc ++ [box5 x y w h]) Z 5 i' := by
    intro j acc i i' x y ha i0 i1 wi gi r0 r1 r2 r3
    rw [font_Boxes.l0, if_pos i1, if_pos i0, if_pos (by omega), if_pos (by omega), gi, wi]
    dsimp only
    rw [W _ r0 r1, W _ r2 r3]
    rfl
  rw [g5, show k + 6 = (k + 5) + 1 from rfl, step (k + 5) [] 0 1 _ _ (by decide) (by decide) (by decide) n0 g0 (by omega) (by omega) (by omega) (by omega),
    show k + 5 = (k + 4) + 1 from rfl, step (k + 4) _ 1 2 _ _ (by simp) (by decide) (by decide) n1 g1 (by omega) (by omega) (by omega) (by omega),
    show k + 4 = (k + 3) + 1 from rfl, step (k + 3) _ 2 3 _ _ (by simp) (by decide) (by decide) n2 g2 (by omega) (by omega) (by omega) (by omega),
    show k + 3 = (k + 2) + 1 from rfl, step (k + 2) _ 3 4 _ _ (by simp) (by decide) (by decide) n3 g3 (by omega) (by omega) (by omega) (by omega),
    show k + 2 = (k + 1) + 1 from rfl, step (k + 1) _ 4 5 _ _ (by simp) (by decide) (by decide) n4 g4 (by omega) (by omega) (by omega) (by omega),
    font_Boxes.l0, if_neg (by decide)]
  rfl

theorem spreadF (x y : Int) : ∃ a b, terrkeep5_spread.f x y = some (a, b) ∧ -1048576 ≤ a ∧ a ≤ 1048576 ∧ -1048576 ≤ b ∧ b ≤ 1048576 := by
  obtain ⟨r, hr, h0, h1⟩ := belowF x 2097153 (by decide) (by decide)
  obtain ⟨s, hs, k0, k1⟩ := belowF y 2097153 (by decide) (by decide)
  unfold terrkeep5_spread.f
  rw [hr, Option.bind_some, hs, Option.bind_some, wrapF (x := r - 1048576) (by omega) (by omega), wrapF (x := s - 1048576) (by omega) (by omega)]
  exact ⟨_, _, rfl, by omega, by omega, by omega, by omega⟩

/-- A box beside the point: of the right size, and not over the point. -/
def Beside (px py w h : Int) (b : S44) : Prop := ∃ x y, b = box5 x y w h ∧ -4000000 ≤ x ∧ x ≤ 4000000 ∧ -4000000 ≤ y ∧ y ≤ 4000000 ∧ ¬ (x ≤ px ∧ px ≤ x + w ∧ y ≤ py ∧ py ≤ y + h)

theorem beside_loop (px py w h : Int) (w0 : 0 ≤ w) (w1 : w ≤ 2000) (h0 : 0 ≤ h) (h1 : h ≤ 100) (l : List S44) (hl : l.length ≤ 100) (hb : ∀ i : Nat, i < l.length → Beside px py w h (rd_T44 l (i : Int))) : ∀ (d k i : Nat), i + d = l.length → d < k →
    terrkeep5_FontBeside.l0 k w h l (l.length : Int) (i : Int) px py = some true := by
  intro d
  induction d with
  | zero =>
    intro k i hi hk
    obtain ⟨k, rfl⟩ : ∃ m, k = m + 1 := ⟨k - 1, by omega⟩
    obtain rfl : i = l.length := by omega
    rw [terrkeep5_FontBeside.l0, if_neg (Int.lt_irrefl _)]
  | succ d ih =>
    intro k i hi hk
    obtain ⟨k, rfl, hk1⟩ : ∃ m, k = m + 1 ∧ d < m := ⟨k - 1, by omega, by omega⟩
    have hlt : i < l.length := by omega
    have c1 : (i : Int) < (l.length : Int) := Int.ofNat_lt.mpr hlt
    have e2 : wrap64 ((i : Int) + 1) = ((i + 1 : Nat) : Int) := by rw [wrapF (by omega) (by omega)]; omega
    obtain ⟨x, y, e, x0, x1, y0, y1, hn⟩ := hb i hlt
    have go := ih k (i + 1) (by omega) hk1
    rw [terrkeep5_FontBeside.l0, if_pos c1, if_pos (Int.natCast_nonneg _), if_pos c1, e]
    unfold box5
    dsimp only
    rw [wrapF (x := x + w - x) (by omega) (by omega), wrapF (x := y + h - y) (by omega) (by omega), if_pos (by omega), if_pos (by omega), e2]
    by_cases a1 : x ≤ px
    · rw [if_pos a1]
      by_cases a2 : px ≤ x + w
      · rw [if_pos a2]
        by_cases a3 : y ≤ py
        · rw [if_pos a3, if_neg (fun a4 => hn ⟨a1, a2, a3, a4⟩)]
          exact go
        · rw [if_neg a3]
          exact go
      · rw [if_neg a2]
        exact go
    · rw [if_neg a1]
      exact go

theorem FontBeside : terrkeep5_FontBeside.Pure := by
  intro a0 a1 l a3 _ _ _ _ _ _
  obtain ⟨K, hK⟩ : ∃ K : Nat, 50 ≤ K + 7 := ⟨50, by omega⟩
  obtain ⟨s, es, hs⟩ := text_in l (K + 7) hK
  obtain ⟨z, ez, z0, z1⟩ := belowF a3 8 (by decide) (by decide)
  obtain ⟨px, py, ep, x0, x1, y0, y1⟩ := spreadF a0 a1
  have w1 : wrap64 (1 + z) = 1 + z := wrapF (by omega) (by omega)
  have S0 := size_in s hs (1 + z) (by omega) (by omega) (K + 7) hK
  have b0 := widthOf_bd s hs
  have m0 := Int.mul_nonneg b0.1 (show 0 ≤ 1 + z by omega)
  have m1 := Int.mul_le_mul b0.2 (show 1 + z ≤ 8 by omega) (show 0 ≤ 1 + z by omega) (show (0 : Int) ≤ 240 by decide)
  generalize widthOf s * (1 + z) = w at *
  have hh : ∃ h, 6 * (1 + z) = h ∧ 0 ≤ h ∧ h ≤ 100 := ⟨_, rfl, by omega, by omega⟩
  obtain ⟨h, eh, h0, h1⟩ := hh
  rw [eh] at S0
  have BX := boxes_in K px py w h x0 x1 y0 y1 (by omega) (by omega) h0 h1
  have hm : ¬ mx px py > 1048576 := by unfold mx; split <;> omega
  have hn : ¬ mn px py < -1048576 := by unfold mn; split <;> omega
  have B : font_Boxes.f (K + 7) px py s (1 + z) = some ([box5 (px + 2) (py + 2) w h, box5 (px + 2) (py - 2 - h) w h, box5 (px - 2 - w) (py + 2) w h, box5 (px - 2 - w) (py - 2 - h) w h, box5 (px - w / 2) (py + 2) w h], 0) := by
    unfold font_Boxes.f
    rw [S0, Option.bind_some]
    dsimp only
    rw [if_pos rfl, if_neg hm, decide_eq_false hn]
    exact BX
  have all : ∀ i : Nat, i < 5 → Beside px py w h (rd_T44 [box5 (px + 2) (py + 2) w h, box5 (px + 2) (py - 2 - h) w h, box5 (px - 2 - w) (py + 2) w h, box5 (px - 2 - w) (py - 2 - h) w h, box5 (px - w / 2) (py + 2) w h] (i : Int)) := by
    intro i hi
    have : i = 0 ∨ i = 1 ∨ i = 2 ∨ i = 3 ∨ i = 4 := by omega
    rcases this with rfl | rfl | rfl | rfl | rfl
    · exact ⟨px + 2, py + 2, rfl, by omega, by omega, by omega, by omega, by omega⟩
    · exact ⟨px + 2, py - 2 - h, rfl, by omega, by omega, by omega, by omega, by omega⟩
    · exact ⟨px - 2 - w, py + 2, rfl, by omega, by omega, by omega, by omega, by omega⟩
    · exact ⟨px - 2 - w, py - 2 - h, rfl, by omega, by omega, by omega, by omega, by omega⟩
    · exact ⟨px - w / 2, py + 2, rfl, by omega, by omega, by omega, by omega, by omega⟩
  refine ⟨K + 7, ?_⟩
  unfold terrkeep5_FontBeside.f
  rw [es, Option.bind_some, ez, Option.bind_some, ep, Option.bind_some, w1, S0, Option.bind_some]
  dsimp only
  rw [B, Option.bind_some]
  dsimp only
  rw [if_pos rfl, if_pos rfl, show K + 7 = (K + 6) + 1 from rfl, terrkeep5_FontBeside.j0, if_neg (by simp)]
  exact beside_loop px py w h (by omega) (by omega) h0 h1 [box5 (px + 2) (py + 2) w h, box5 (px + 2) (py - 2 - h) w h, box5 (px - 2 - w) (py + 2) w h, box5 (px - 2 - w) (py - 2 - h) w h, box5 (px - w / 2) (py + 2) w h] (by simp) all 5 (K + 6) 0 rfl (by omega)

end Go.Proofs.Ytojehbkadlmbjaa.Pure
