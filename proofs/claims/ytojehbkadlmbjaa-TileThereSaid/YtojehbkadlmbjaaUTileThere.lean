/- From the grid to the units of a tile and back a point moves by less than a unit, to the left and down: for all points, zooms and tiles near the middle. No condition. -/
import Derived.Test.YtojehbkadlmbjaaUTa
import Derived.Test.YtojehbkadlmbjaaQTileThere
namespace Go.Proofs.Ytojehbkadlmbjaa.Pure
open Go.RowKit Go.Proofs.Ytojehbkadlmbjaa.Q Go.Proofs.Ytojehbkadlmbjaa.U Go.Proofs.YtojehbkadlmbjaaW.PrintWords Go.Proofs.YtojehbkadlmbjaaW.PrintLast Go.Proofs.YtojehbkadlmbjaaW.PrintMore
set_option linter.unusedSimpArgs false

theorem TileThere : terrkeep5_TileThere.Pure := by
  intro a0 a1 a2 a3 _ _ _ _
  have hu : tile_Unit.f 10 = some 8 := by
    obtain ⟨s, n, hs, es, -⟩ := sides 10 (by decide) (by decide)
    obtain ⟨u, eu, su, -, -⟩ := unit_in 10 s n hs es
    have : u = 8 := by unfold Sides at hs; omega
    rw [eu, this]
  obtain ⟨zz, hz, z0, z1⟩ := below_spec a3 11 (by decide) (by decide)
  obtain ⟨p, q, hp, p0, p1, q0, q1⟩ := spread_spec a0 a1
  have hm : ∃ z, mx zz 2 = z ∧ 2 ≤ z ∧ z ≤ 10 := ⟨_, rfl, by unfold mx; split <;> omega, by unfold mx; split <;> omega⟩
  obtain ⟨z, ez, z2, z3⟩ := hm
  obtain ⟨s, n, hs, es, en⟩ := sides z (by omega) (by omega)
  obtain ⟨x, y, hn, x0, x1, y0, y1⟩ := near_in a2 z s n hs z2 en
  obtain ⟨u, eu, su, u0, u1⟩ := unit_in z s n hs es
  have b : 0 ≤ x * s ∧ x * s ≤ 2097152 ∧ 0 ≤ y * s ∧ y * s ≤ 2097152 := by
    unfold Sides at hs
    rcases hs with ⟨rfl, rfl, rfl⟩ | ⟨rfl, rfl, rfl⟩ | ⟨rfl, rfl, rfl⟩ | ⟨rfl, rfl, rfl⟩ | ⟨rfl, rfl, rfl⟩ | ⟨rfl, rfl, rfl⟩ | ⟨rfl, rfl, rfl⟩ | ⟨rfl, rfl, rfl⟩ | ⟨rfl, rfl, rfl⟩ | ⟨rfl, rfl, rfl⟩ | ⟨rfl, rfl, rfl⟩ <;> omega
  obtain ⟨l1, q1', e1, l10, l11, f1, g1, k1, m1, n1⟩ := axis u s x p (x * s) rfl su u0 u1 (by omega) (by omega) p0 p1
  obtain ⟨l2, q2', e2, l20, l21, f2, g2, k2, m2, n2⟩ := axis u s y q (y * s) rfl su u0 u1 (by omega) (by omega) q0 q1
  have hl := local_in z s n x y u p q hs es en eu u0 u1 x0 x1 y0 y1 p0 p1 q0 q1
  rw [e1, e2] at hl
  have hw := world_in z s n x y u l1 l2 hs es en eu u0 u1 x0 x1 y0 y1 l10 l11 l20 l21
  rw [f1, f2] at hw
  have hl2 := local_in z s n x y u q1' q2' hs es en eu u0 u1 x0 x1 y0 y1 (by omega) (by omega) (by omega) (by omega)
  rw [n1, n2] at hl2
  unfold terrkeep5_TileThere.f
  rw [hu, Option.bind_some, if_pos rfl, hp, Option.bind_some, hz, Option.bind_some, ez, hn, Option.bind_some]
  dsimp only
  rw [hl, Option.bind_some]
  dsimp only
  rw [hw, Option.bind_some, eu, Option.bind_some]
  dsimp only
  rw [wrap_id (x := p - q1') (by omega) (by omega), wrap_id (x := q - q2') (by omega) (by omega), if_pos (by omega), if_pos (by omega), if_pos (by omega), if_pos (by omega), hl2, Option.bind_some, Option.bind_some]
  simp

end Go.Proofs.Ytojehbkadlmbjaa.Pure
