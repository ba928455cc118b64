/- Plain facts on tiles: units, the way to a tile's units and back, a list that holds a tile. Conditions: stated at each. -/
import Derived.Test.YtojehbkadlmbjaaUT
import Derived.Test.YtojehbkadlmbjaaQf17
import Derived.Test.YtojehbkadlmbjaaQf18
import Derived.Test.YtojehbkadlmbjaaQf19
namespace Go.Proofs.Ytojehbkadlmbjaa.U
open Go.RowKit Go.Proofs.Ytojehbkadlmbjaa.Q Go.Proofs.YtojehbkadlmbjaaW.PrintWords Go.Proofs.YtojehbkadlmbjaaW.PrintLast Go.Proofs.YtojehbkadlmbjaaW.PrintMore
set_option linter.unusedSimpArgs false

theorem unit_in (z s n : Int) (hz : Sides z s n) (es : tile_Side.f z = some s) : ∃ u, tile_Unit.f z = some u ∧ s = 256 * u ∧ 8 ≤ u ∧ u ≤ 8192 := by
  unfold tile_Unit.f
  rw [es, Option.bind_some]
  have hb : s = 256 * (s / 256) ∧ 8 ≤ s / 256 ∧ s / 256 ≤ 8192 := by unfold Sides at hz; omega
  rw [tdiv_pos (by omega), wrap_id (by omega) (by omega)]
  exact ⟨_, rfl, hb.1, hb.2.1, hb.2.2⟩

theorem down_in (a u : Int) (h : 0 < u) (hu : u ≤ 8192) (a0 : -4194304 ≤ a) (a1 : a ≤ 4194304) : tile_down.f a u = some (a / u) := by
  have e := Int.mul_ediv_add_emod a u
  have m0 := Int.emod_nonneg a (show u ≠ 0 by omega)
  have m1 := Int.emod_lt_of_pos a h
  have b0 : -4194304 ≤ a / u := (Int.le_ediv_iff_mul_le h).mpr (by have := Int.mul_le_mul_of_nonneg_left (show (1 : Int) ≤ u by omega) (show (0 : Int) ≤ 4194304 by decide); rw [Int.neg_mul]; omega)
  have b1 : a / u ≤ 4194304 := by
    by_cases c : 0 ≤ a
    · have := Int.ediv_le_self u c; omega
    · have := Int.ediv_neg_of_neg_of_pos (show a < 0 by omega) h; omega
  have q : Int.tdiv a u = a / u ∧ (0 ≤ a ∨ a % u = 0) ∨ Int.tdiv a u = a / u + 1 ∧ a % u ≠ 0 := by
    rw [Int.tdiv_eq_ediv]
    by_cases c : 0 ≤ a ∨ u ∣ a
    · rw [if_pos c]
      exact Or.inl ⟨by omega, c.imp_right Int.emod_eq_zero_of_dvd⟩
    · rw [if_neg c, Int.sign_eq_one_of_pos h]
      exact Or.inr ⟨rfl, fun k => c (Or.inr (Int.dvd_of_emod_eq_zero k))⟩
  have comm : a / u * u = u * (a / u) := Int.mul_comm _ _
  unfold tile_down.f
  rw [if_neg (by omega)]
  rcases q with ⟨q, c⟩ | ⟨q, c⟩
  · rw [q, wrap_id (x := a / u) (by omega) (by omega), wrap_id (x := a / u * u) (by omega) (by omega), if_neg (by omega)]
  · have e2 : (a / u + 1) * u = u * (a / u) + u := by rw [Int.add_mul, Int.one_mul, comm]
    rw [q, wrap_id (x := a / u + 1) (by omega) (by omega), wrap_id (x := (a / u + 1) * u) (by omega) (by omega), if_pos (by omega), wrap_id (by omega) (by omega)]
    congr 1; omega

theorem local_in (z s n x y u px py : Int) (hz : Sides z s n) (es : tile_Side.f z = some s) (en : shl .i64 1 z = n) (eu : tile_Unit.f z = some u) (u0 : 8 ≤ u) (u1 : u ≤ 8192) (h0 : 0 ≤ x) (h1 : x < n) (h2 : 0 ≤ y) (h3 : y < n)
    (p0 : -1048576 ≤ px) (p1 : px ≤ 1048576) (p2 : -1048576 ≤ py) (p3 : py ≤ 1048576) :
    tile_Local.f z x y px py = some ((px - (x * s - 1048576)) / u, (py - (y * s - 1048576)) / u) := by
  have b : 0 ≤ x * s ∧ x * s ≤ 2097152 ∧ 0 ≤ y * s ∧ y * s ≤ 2097152 ∧ 0 < s ∧ s ≤ 2097152 := by
    unfold Sides at hz
    rcases hz with ⟨rfl, rfl, rfl⟩ | ⟨rfl, rfl, rfl⟩ | ⟨rfl, rfl, rfl⟩ | ⟨rfl, rfl, rfl⟩ | ⟨rfl, rfl, rfl⟩ | ⟨rfl, rfl, rfl⟩ | ⟨rfl, rfl, rfl⟩ | ⟨rfl, rfl, rfl⟩ | ⟨rfl, rfl, rfl⟩ | ⟨rfl, rfl, rfl⟩ | ⟨rfl, rfl, rfl⟩ <;> omega
  unfold tile_Local.f
  rw [tok_in z s n x y hz es en h0 h1 h2 h3, Option.bind_some, if_pos rfl, clamp_in px py p0 p1 p2 p3, Option.bind_some, box_in z s n x y hz es en h0 h1 h2 h3, Option.bind_some, eu, Option.bind_some]
  dsimp only
  rw [wrap_id (x := px - (x * s - 1048576)) (by omega) (by omega), wrap_id (x := py - (y * s - 1048576)) (by omega) (by omega), down_in _ u (by omega) u1 (by omega) (by omega), Option.bind_some, down_in _ u (by omega) u1 (by omega) (by omega), Option.bind_some]

theorem world_in (z s n x y u px py : Int) (hz : Sides z s n) (es : tile_Side.f z = some s) (en : shl .i64 1 z = n) (eu : tile_Unit.f z = some u) (u0 : 8 ≤ u) (u1 : u ≤ 8192) (h0 : 0 ≤ x) (h1 : x < n) (h2 : 0 ≤ y) (h3 : y < n)
    (p0 : -1048576 ≤ px) (p1 : px ≤ 1048576) (p2 : -1048576 ≤ py) (p3 : py ≤ 1048576) :
    tile_World.f z x y px py = some (x * s - 1048576 + px * u, y * s - 1048576 + py * u) := by
  have b : 0 ≤ x * s ∧ x * s ≤ 2097152 ∧ 0 ≤ y * s ∧ y * s ≤ 2097152 ∧ 0 < s ∧ s ≤ 2097152 := by
    unfold Sides at hz
    rcases hz with ⟨rfl, rfl, rfl⟩ | ⟨rfl, rfl, rfl⟩ | ⟨rfl, rfl, rfl⟩ | ⟨rfl, rfl, rfl⟩ | ⟨rfl, rfl, rfl⟩ | ⟨rfl, rfl, rfl⟩ | ⟨rfl, rfl, rfl⟩ | ⟨rfl, rfl, rfl⟩ | ⟨rfl, rfl, rfl⟩ | ⟨rfl, rfl, rfl⟩ | ⟨rfl, rfl, rfl⟩ <;> omega
  have prod : ∀ p : Int, -1048576 ≤ p → p ≤ 1048576 → -8589934592 ≤ p * u ∧ p * u ≤ 8589934592 := by
    intro p l r
    have i1 := Int.mul_le_mul_of_nonneg_right l (show (0 : Int) ≤ u by omega)
    have i2 := Int.mul_le_mul_of_nonneg_right r (show (0 : Int) ≤ u by omega)
    omega
  have bx := prod px p0 p1
  have by' := prod py p2 p3
  unfold tile_World.f
  rw [tok_in z s n x y hz es en h0 h1 h2 h3, Option.bind_some, if_pos rfl, clamp_in px py p0 p1 p2 p3, Option.bind_some, box_in z s n x y hz es en h0 h1 h2 h3, Option.bind_some, eu, Option.bind_some]
  dsimp only
  rw [wrap_id (x := px * u) (by omega) (by omega), wrap_id (x := py * u) (by omega) (by omega), wrap_id (x := x * s - 1048576 + px * u) (by omega) (by omega), wrap_id (x := y * s - 1048576 + py * u) (by omega) (by omega)]

/-- One direction, there and back. -/
theorem axis (u s x p X : Int) (hX : x * s = X) (es : s = 256 * u) (u0 : 8 ≤ u) (u1 : u ≤ 8192) (X0 : 0 ≤ X) (X1 : X ≤ 2097152) (p0 : -1048576 ≤ p) (p1 : p ≤ 1048576) :
    ∃ l q, (p - (X - 1048576)) / u = l ∧ -1048576 ≤ l ∧ l ≤ 1048576 ∧ X - 1048576 + l * u = q ∧ q ≤ p ∧ p - q < u ∧ -1048576 ≤ q ∧ (q - (X - 1048576)) / u = l := by
  generalize hD : p - (X - 1048576) = D
  have e := Int.mul_ediv_add_emod D u
  have m0 := Int.emod_nonneg D (show u ≠ 0 by omega)
  have m1 := Int.emod_lt_of_pos D (show 0 < u by omega)
  have low : -(256 * x) ≤ D / u := (Int.le_ediv_iff_mul_le (by omega)).mpr (by
    have : -(256 * x) * u = -X := by rw [← hX, es, Int.neg_mul, Int.mul_comm 256 x, Int.mul_assoc]
    omega)
  have c := Int.mul_comm (D / u) u
  have lo2 : -(256 * x) * u ≤ D / u * u := Int.mul_le_mul_of_nonneg_right low (by omega)
  have lo3 : -(256 * x) * u = -X := by rw [← hX, es, Int.neg_mul, Int.mul_comm 256 x, Int.mul_assoc]
  have b0 : -1048576 ≤ D / u := (Int.le_ediv_iff_mul_le (by omega)).mpr (by
    have := Int.mul_le_mul_of_nonneg_left u0 (show (0 : Int) ≤ 1048576 by decide)
    rw [Int.neg_mul]; omega)
  have b1 : D / u ≤ 1048576 := by
    by_cases h : 0 ≤ D / u
    · have := Int.mul_le_mul_of_nonneg_left u0 h
      omega
    · omega
  refine ⟨D / u, _, rfl, b0, b1, rfl, by omega, by omega, by omega, ?_⟩
  rw [show X - 1048576 + D / u * u - (X - 1048576) = D / u * u by omega, Int.mul_ediv_cancel _ (show u ≠ 0 by omega)]

theorem near_in (a z s n : Int) (hz : Sides z s n) (h2 : 2 ≤ z) (en : shl .i64 1 z = n) : ∃ x y, terrkeep5_Near.f a z = some (z, x, y) ∧ 0 ≤ x ∧ x < n ∧ 0 ≤ y ∧ y < n := by
  obtain ⟨r, hr, r0, r1⟩ := below_spec a 4 (by decide) (by decide)
  obtain ⟨t, ht, t0, t1⟩ := below_spec (wrap64 (Int.tdiv a 4)) 4 (by decide) (by decide)
  have hn : 4 ≤ n ∧ n ≤ 1024 ∧ n % 2 = 0 := by unfold Sides at hz; omega
  unfold terrkeep5_Near.f
  rw [if_pos (by omega), hr, Option.bind_some, ht, Option.bind_some, en, tdiv_pos (by omega)]
  have e1 : wrap64 (n / 2) = n / 2 := wrap_id (by omega) (by omega)
  have e2 : wrap64 (n / 2 - 2) = n / 2 - 2 := wrap_id (by omega) (by omega)
  rw [e1, e2, wrap_id (x := n / 2 - 2 + r) (by omega) (by omega), wrap_id (x := n / 2 - 2 + t) (by omega) (by omega)]
  exact ⟨_, _, rfl, by omega, by omega, by omega, by omega⟩

end Go.Proofs.Ytojehbkadlmbjaa.U
