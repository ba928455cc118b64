/- The boxes of the four tiles into which a tile is divided have its area together, and meet in its middle: for all points and zooms. No condition. -/
import Derived.Test.YtojehbkadlmbjaaUT
import Derived.Test.YtojehbkadlmbjaaQTileParts
namespace Go.Proofs.Ytojehbkadlmbjaa.Pure
open Go.RowKit Go.Proofs.Ytojehbkadlmbjaa.Q Go.Proofs.Ytojehbkadlmbjaa.U Go.Proofs.YtojehbkadlmbjaaW.PrintWords Go.Proofs.YtojehbkadlmbjaaW.PrintLast Go.Proofs.YtojehbkadlmbjaaW.PrintMore
set_option linter.unusedSimpArgs false

theorem tdiv_two (m : Int) : Int.tdiv (2 * m) 2 = m := Int.mul_tdiv_cancel_left m (by decide)

theorem TileParts : terrkeep5_TileParts.Pure := by
  intro a0 a1 a2 _ _ _
  obtain ⟨z, hz, z0, z1⟩ := below_spec a2 10 (by decide) (by decide)
  obtain ⟨p, q, hp, p0, p1, q0, q1⟩ := spread_spec a0 a1
  obtain ⟨s, n, hs, es, en⟩ := sides z (by omega) (by omega)
  obtain ⟨s', n', hs', es', en'⟩ := sides (z + 1) (by omega) (by omega)
  obtain ⟨x, y, ho, x0, x1, y0, y1, -, -⟩ := of_in p q z s n hs es en p0 p1 q0 q1
  have rel : s = 2 * s' ∧ n' = 2 * n ∧ 2048 ≤ s' ∧ s' ≤ 1048576 ∧ n ≤ 512 := by unfold Sides at hs hs'; omega
  obtain ⟨rs, rn, b0, b1, b2⟩ := rel
  have sq : ∃ Q, s' * s' = Q ∧ 0 ≤ Q ∧ Q ≤ 1099511627776 := by
    refine ⟨_, rfl, Int.mul_nonneg (by omega) (by omega), ?_⟩
    have := Int.mul_le_mul b1 b1 (by omega) (by omega)
    omega
  obtain ⟨Q, hQ, Q0, Q1⟩ := sq
  have bx : 0 ≤ x * s' ∧ x * s' + s' ≤ 1048576 := by
    have h1 : (x + 1) * s' ≤ n * s' := Int.mul_le_mul_of_nonneg_right (by omega) (by omega)
    have h2 : n * s' = 1048576 := by
      unfold Sides at hs
      rcases hs with ⟨rfl, rfl, rfl⟩ | ⟨rfl, rfl, rfl⟩ | ⟨rfl, rfl, rfl⟩ | ⟨rfl, rfl, rfl⟩ | ⟨rfl, rfl, rfl⟩ | ⟨rfl, rfl, rfl⟩ | ⟨rfl, rfl, rfl⟩ | ⟨rfl, rfl, rfl⟩ | ⟨rfl, rfl, rfl⟩ | ⟨rfl, rfl, rfl⟩ | ⟨rfl, rfl, rfl⟩ <;> omega
    have h3 := Int.mul_nonneg x0 (show (0:Int) ≤ s' by omega)
    rw [Int.add_mul] at h1
    omega
  have by' : 0 ≤ y * s' ∧ y * s' + s' ≤ 1048576 := by
    have h1 : (y + 1) * s' ≤ n * s' := Int.mul_le_mul_of_nonneg_right (by omega) (by omega)
    have h2 : n * s' = 1048576 := by
      unfold Sides at hs
      rcases hs with ⟨rfl, rfl, rfl⟩ | ⟨rfl, rfl, rfl⟩ | ⟨rfl, rfl, rfl⟩ | ⟨rfl, rfl, rfl⟩ | ⟨rfl, rfl, rfl⟩ | ⟨rfl, rfl, rfl⟩ | ⟨rfl, rfl, rfl⟩ | ⟨rfl, rfl, rfl⟩ | ⟨rfl, rfl, rfl⟩ | ⟨rfl, rfl, rfl⟩ | ⟨rfl, rfl, rfl⟩ <;> omega
    have h3 := Int.mul_nonneg y0 (show (0:Int) ≤ s' by omega)
    rw [Int.add_mul] at h1
    omega
  refine ⟨8, ?_⟩
  have hb := box_in z s n x y hs es en x0 x1 y0 y1
  have k0 := box_in (z + 1) s' n' (2 * x) (2 * y) hs' es' en' (by omega) (by omega) (by omega) (by omega)
  have k1 := box_in (z + 1) s' n' (2 * x + 1) (2 * y) hs' es' en' (by omega) (by omega) (by omega) (by omega)
  have k2 := box_in (z + 1) s' n' (2 * x) (2 * y + 1) hs' es' en' (by omega) (by omega) (by omega) (by omega)
  have k3 := box_in (z + 1) s' n' (2 * x + 1) (2 * y + 1) hs' es' en' (by omega) (by omega) (by omega) (by omega)
  have ex : x * s = 2 * (x * s') := by rw [rs]; rw [Int.mul_left_comm]
  have ey : y * s = 2 * (y * s') := by rw [rs]; rw [Int.mul_left_comm]
  have ex0 : 2 * x * s' = 2 * (x * s') := Int.mul_assoc _ _ _
  have ey0 : 2 * y * s' = 2 * (y * s') := Int.mul_assoc _ _ _
  have ex1 : (2 * x + 1) * s' = 2 * (x * s') + s' := by rw [Int.add_mul, ex0, Int.one_mul]
  have ey1 : (2 * y + 1) * s' = 2 * (y * s') + s' := by rw [Int.add_mul, ey0, Int.one_mul]
  rw [ex, ey] at hb
  rw [ex0, ey0] at k0
  rw [ex1, ey0] at k1
  rw [ex0, ey1] at k2
  rw [ex1, ey1] at k3
  generalize x * s' = X at *
  generalize y * s' = Y at *
  have mid : ∀ L : Int, -1048576 ≤ L → L ≤ 1048576 → wrap64 (Int.tdiv (wrap64 (L + (L + s))) 2) = L + s' := by
    intro L l0 l1
    rw [show L + (L + s) = 2 * (L + s') by omega, wrap_id (x := 2 * (L + s')) (by omega) (by omega), tdiv_two, wrap_id (by omega) (by omega)]
  have mx1 := mid (2 * X - 1048576) (by omega) (by omega)
  have my1 := mid (2 * Y - 1048576) (by omega) (by omega)
  have area : ∀ (a b : Int), a = s' → b = s' → wrap64 (wrap64 a * wrap64 b) = Q := by
    intro a b ha hb
    rw [wrap_id (x := a) (by omega) (by omega), wrap_id (x := b) (by omega) (by omega), ha, hb, hQ, wrap_id (by omega) (by omega)]
  have whole : ∀ (a b : Int), a = s → b = s → wrap64 (wrap64 a * wrap64 b) = 4 * Q := by
    intro a b ha hb
    have e4 : s * s = 4 * Q := by rw [rs, ← hQ, Int.mul_assoc, Int.mul_left_comm s' 2 s', ← Int.mul_assoc]; rfl
    rw [wrap_id (x := a) (by omega) (by omega), wrap_id (x := b) (by omega) (by omega), ha, hb, e4, wrap_id (by omega) (by omega)]
  unfold terrkeep5_TileParts.f
  rw [hz, Option.bind_some, hp, Option.bind_some, ho, Option.bind_some, kids_in 3 z s n x y hs (by omega) es en x0 x1 y0 y1, Option.bind_some]
  simp only [if_true]
  rw [terrkeep5_TileParts.j0, if_neg (by simp), hb, Option.bind_some, mx1, my1]
  have w0 : wrap64 (0 + 1) = 1 := wrap_id (by decide) (by decide)
  have w1 : wrap64 (1 + 1) = 2 := wrap_id (by decide) (by decide)
  have w2 : wrap64 (2 + 1) = 3 := wrap_id (by decide) (by decide)
  have w3 : wrap64 (3 + 1) = 4 := wrap_id (by decide) (by decide)
  have r0 : ∀ l : List S34, ∀ a b c d, l = [a, b, c, d] → rd_T34 l 0 = a ∧ rd_T34 l 1 = b ∧ rd_T34 l 2 = c ∧ rd_T34 l 3 = d ∧ (l.length : Int) = 4 := by
    intro l a b c d h
    subst h
    exact ⟨rfl, rfl, rfl, rfl, rfl⟩
  obtain ⟨g0, g1, g2, g3, g4⟩ := r0 _ _ _ _ _ rfl
  generalize ([⟨z + 1, 2 * x, 2 * y⟩, ⟨z + 1, 2 * x + 1, 2 * y⟩, ⟨z + 1, 2 * x, 2 * y + 1⟩, ⟨z + 1, 2 * x + 1, 2 * y + 1⟩] : List S34) = L at *
  simp only []
  rw [terrkeep5_TileParts.l0, g4, if_pos (by decide), if_pos (by decide), if_pos (by decide), g0, k0, Option.bind_some, has_in _ _ _ _ _ _ (by (try dsimp only); omega), Option.bind_some, if_pos rfl, has_in _ _ _ _ _ _ (by (try dsimp only); omega), Option.bind_some, if_pos rfl, has_in _ _ _ _ _ _ (by (try dsimp only); omega), Option.bind_some, if_pos rfl, area _ _ (by (try dsimp only); omega) (by (try dsimp only); omega), w0]
  rw [terrkeep5_TileParts.l0, g4, if_pos (by decide), if_pos (by decide), if_pos (by decide), g1, k1, Option.bind_some, has_in _ _ _ _ _ _ (by (try dsimp only); omega), Option.bind_some, if_pos rfl, has_in _ _ _ _ _ _ (by (try dsimp only); omega), Option.bind_some, if_pos rfl, has_in _ _ _ _ _ _ (by (try dsimp only); omega), Option.bind_some, if_pos rfl, area _ _ (by (try dsimp only); omega) (by (try dsimp only); omega), w1]
  rw [terrkeep5_TileParts.l0, g4, if_pos (by decide), if_pos (by decide), if_pos (by decide), g2, k2, Option.bind_some, has_in _ _ _ _ _ _ (by (try dsimp only); omega), Option.bind_some, if_pos rfl, has_in _ _ _ _ _ _ (by (try dsimp only); omega), Option.bind_some, if_pos rfl, has_in _ _ _ _ _ _ (by (try dsimp only); omega), Option.bind_some, if_pos rfl, area _ _ (by (try dsimp only); omega) (by (try dsimp only); omega), w2]
  rw [terrkeep5_TileParts.l0, g4, if_pos (by decide), if_pos (by decide), if_pos (by decide), g3, k3, Option.bind_some, has_in _ _ _ _ _ _ (by (try dsimp only); omega), Option.bind_some, if_pos rfl, has_in _ _ _ _ _ _ (by (try dsimp only); omega), Option.bind_some, if_pos rfl, has_in _ _ _ _ _ _ (by (try dsimp only); omega), Option.bind_some, if_pos rfl, area _ _ (by (try dsimp only); omega) (by (try dsimp only); omega), w3]
  rw [terrkeep5_TileParts.l0, if_neg (by decide), whole _ _ (by (try dsimp only); omega) (by (try dsimp only); omega), wrap_id (x := 0 + Q) (by (try dsimp only); omega) (by (try dsimp only); omega), wrap_id (x := 0 + Q + Q) (by (try dsimp only); omega) (by (try dsimp only); omega), wrap_id (x := 0 + Q + Q + Q) (by (try dsimp only); omega) (by (try dsimp only); omega), wrap_id (by (try dsimp only); omega) (by (try dsimp only); omega)]
  congr 1
  exact beq_iff_eq.mpr (by (try dsimp only); omega)

end Go.Proofs.Ytojehbkadlmbjaa.Pure
