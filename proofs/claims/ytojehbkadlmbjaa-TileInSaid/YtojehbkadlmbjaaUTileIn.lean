/- A point is in the box of its tile, and this is the parent of its tile at the next zoom: for all points and zooms. No condition. -/
import Derived.Test.YtojehbkadlmbjaaUTb
import Derived.Test.YtojehbkadlmbjaaQTileIn
namespace Go.Proofs.Ytojehbkadlmbjaa.Pure
open Go.RowKit Go.Proofs.Ytojehbkadlmbjaa.Q Go.Proofs.Ytojehbkadlmbjaa.U Go.Proofs.YtojehbkadlmbjaaW.PrintWords Go.Proofs.YtojehbkadlmbjaaW.PrintLast Go.Proofs.YtojehbkadlmbjaaW.PrintMore
set_option linter.unusedSimpArgs false

theorem tile_has (z s n p a : Int) (hs : Sides z s n) (p0 : -1048576 ≤ p) (p1 : p ≤ 1048576) (ha : a = min (n - 1) ((p + 1048576) / s)) : a * s - 1048576 ≤ p ∧ p ≤ a * s - 1048576 + s := by
  unfold Sides at hs
  rcases hs with ⟨rfl, rfl, rfl⟩ | ⟨rfl, rfl, rfl⟩ | ⟨rfl, rfl, rfl⟩ | ⟨rfl, rfl, rfl⟩ | ⟨rfl, rfl, rfl⟩ | ⟨rfl, rfl, rfl⟩ | ⟨rfl, rfl, rfl⟩ | ⟨rfl, rfl, rfl⟩ | ⟨rfl, rfl, rfl⟩ | ⟨rfl, rfl, rfl⟩ | ⟨rfl, rfl, rfl⟩ <;> omega

theorem half_of (s s' n n' p a b : Int) (e : s = 2 * s') (e2 : n' = 2 * n) (h : 0 < s') (ha : a = min (n - 1) ((p + 1048576) / s)) (hb : b = min (n' - 1) ((p + 1048576) / s')) : b / 2 = a := by
  have d : (p + 1048576) / s = (p + 1048576) / s' / 2 := by
    rw [e, Int.mul_comm, Int.ediv_ediv, if_neg (by omega), Int.sub_zero]
  rw [d] at ha
  omega

theorem TileIn : terrkeep5_TileIn.Pure := by
  intro a0 a1 a2 _ _ _
  obtain ⟨z, hz, z0, z1⟩ := below_spec a2 10 (by decide) (by decide)
  obtain ⟨p, q, hp, p0, p1, q0, q1⟩ := spread_spec a0 a1
  obtain ⟨s, n, hs, es, en⟩ := sides z (by omega) (by omega)
  obtain ⟨s', n', hs', es', en'⟩ := sides (z + 1) (by omega) (by omega)
  obtain ⟨x, y, ho, x0, x1, y0, y1, ex, ey⟩ := of_in p q z s n hs es en p0 p1 q0 q1
  obtain ⟨x', y', ho', x0', x1', y0', y1', ex', ey'⟩ := of_in p q (z + 1) s' n' hs' es' en' p0 p1 q0 q1
  have rel : s = 2 * s' ∧ n' = 2 * n ∧ 2048 ≤ s' ∧ s' ≤ 1048576 ∧ n ≤ 512 := by unfold Sides at hs hs'; omega
  obtain ⟨rs, rn, b0, b1, b2⟩ := rel
  have hx := half_of s s' n n' p x x' rs rn (by omega) ex ex'
  have hy := half_of s s' n n' q y y' rs rn (by omega) ey ey'
  have bx := tile_has z s n p x hs p0 p1 ex
  have by' := tile_has z s n q y hs q0 q1 ey
  have hup := up_in (z + 1) s' n' x' y' hs' (by omega) es' en' x0' x1' y0' y1'
  rw [hx, hy, show z + 1 - 1 = z by omega] at hup
  have hs0 : tile_Side.f 0 = some 2097152 := rfl
  refine ⟨8, ?_⟩
  unfold terrkeep5_TileIn.f
  rw [hs0, Option.bind_some, if_pos rfl, hp, Option.bind_some, hz, Option.bind_some, ho, Option.bind_some, wrap_id (x := z + 1) (by omega) (by omega), ho', Option.bind_some]
  dsimp only
  rw [hup, Option.bind_some, kids_in 3 z s n x y hs (by omega) es en x0 x1 y0 y1, Option.bind_some]
  dsimp only
  rw [if_pos rfl, if_pos rfl, if_pos rfl, if_pos rfl, box_in z s n x y hs es en x0 x1 y0 y1, Option.bind_some, has_in _ _ _ _ _ _ (by dsimp only; omega), Option.bind_some, if_pos rfl, if_pos (by simp)]
  have hc : ∃ j : Nat, j < 4 ∧ rd_T34 [⟨z + 1, 2 * x, 2 * y⟩, ⟨z + 1, 2 * x + 1, 2 * y⟩, ⟨z + 1, 2 * x, 2 * y + 1⟩, ⟨z + 1, 2 * x + 1, 2 * y + 1⟩] (j : Int) = ⟨z + 1, x', y'⟩ := by
    have cx : x' = 2 * x ∨ x' = 2 * x + 1 := by omega
    have cy : y' = 2 * y ∨ y' = 2 * y + 1 := by omega
    rcases cx with rfl | rfl <;> rcases cy with rfl | rfl
    · exact ⟨0, by decide, rfl⟩
    · exact ⟨2, by decide, rfl⟩
    · exact ⟨1, by decide, rfl⟩
    · exact ⟨3, by decide, rfl⟩
  obtain ⟨j, hj, ej⟩ := hc
  rw [contains_in _ (by simp) _ _ _ j (by simpa using hj) ej 8 (by simp), Option.bind_some]

end Go.Proofs.Ytojehbkadlmbjaa.Pure
