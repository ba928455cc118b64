/- Plain facts on tiles, gathered: sides, boxes, the tile of a point, the units of a tile. Conditions: stated at each. -/
import Derived.Test.YtojehbkadlmbjaaQf18
import Derived.Test.YtojehbkadlmbjaaQf19
import Derived.Test.YtojehbkadlmbjaaQf20
import Derived.Test.YtojehbkadlmbjaaQf21
import Derived.Test.YtojehbkadlmbjaaQf22
import Derived.Test.YtojehbkadlmbjaaQf28
import Derived.Test.YtojehbkadlmbjaaQf30
import Derived.OpenShut
namespace Go.Proofs.Ytojehbkadlmbjaa.U
set_option linter.unusedSimpArgs false
set_option linter.unusedVariables false
open Go.RowKit Go.Proofs.Ytojehbkadlmbjaa.Q Go.Proofs.YtojehbkadlmbjaaW.PrintWords Go.Proofs.YtojehbkadlmbjaaW.PrintLast Go.Proofs.YtojehbkadlmbjaaW.PrintMore
theorem wrap_id {x : Int} (h0 : -9223372036854775808 ≤ x) (h1 : x ≤ 9223372036854775807) : wrap64 x = x := by
  unfold wrap64
  omega
theorem tdiv_pos {x d : Int} (h : 0 ≤ x) : Int.tdiv x d = x / d := Int.tdiv_eq_ediv_of_nonneg h
theorem tmod_pos {x d : Int} (h : 0 ≤ x) : Int.tmod x d = x % d := Int.tmod_eq_emod_of_nonneg h
/-- At a zoom z: the side s and the number n of tiles in a row. -/
def Sides (z s n : Int) : Prop := (z = 0 ∧ s = 2097152 ∧ n = 1) ∨ (z = 1 ∧ s = 1048576 ∧ n = 2) ∨ (z = 2 ∧ s = 524288 ∧ n = 4) ∨ (z = 3 ∧ s = 262144 ∧ n = 8) ∨ (z = 4 ∧ s = 131072 ∧ n = 16) ∨ (z = 5 ∧ s = 65536 ∧ n = 32) ∨ (z = 6 ∧ s = 32768 ∧ n = 64) ∨ (z = 7 ∧ s = 16384 ∧ n = 128) ∨ (z = 8 ∧ s = 8192 ∧ n = 256) ∨ (z = 9 ∧ s = 4096 ∧ n = 512) ∨ (z = 10 ∧ s = 2048 ∧ n = 1024)
theorem sides (z : Int) (h0 : 0 ≤ z) (h1 : z ≤ 10) : ∃ s n, Sides z s n ∧ tile_Side.f z = some s ∧ shl .i64 1 z = n := by
  have : z = 0 ∨ z = 1 ∨ z = 2 ∨ z = 3 ∨ z = 4 ∨ z = 5 ∨ z = 6 ∨ z = 7 ∨ z = 8 ∨ z = 9 ∨ z = 10 := by omega
  rcases this with rfl | rfl | rfl | rfl | rfl | rfl | rfl | rfl | rfl | rfl | rfl <;>
    exact ⟨_, _, by unfold Sides; decide, rfl, rfl⟩
theorem side_out (z : Int) (h : z < 0 ∨ 10 < z) : tile_Side.f z = some 0 := by
  unfold tile_Side.f
  by_cases c : z < 0
  · rw [if_pos c]
  · rw [if_neg c, if_pos (by omega)]
theorem limit_in (x : Int) (h0 : -1048576 ≤ x) (h1 : x ≤ 1048576) : point_limit.f x 1048576 = some x := by
  unfold point_limit.f mx mn
  rw [wrap_id (by omega) (by omega)]
  congr 1
  split <;> split <;> omega
theorem clamp_in (x y : Int) (h0 : -1048576 ≤ x) (h1 : x ≤ 1048576) (h2 : -1048576 ≤ y) (h3 : y ≤ 1048576) : point_Clamp.f x y = some (x, y) := by
  unfold point_Clamp.f
  rw [limit_in x h0 h1, Option.bind_some, limit_in y h2 h3, Option.bind_some]
theorem ok_in (x y : Int) (h0 : -1048576 ≤ x) (h1 : x ≤ 1048576) (h2 : -1048576 ≤ y) (h3 : y ≤ 1048576) : point_Ok.f x y = some true := by
  unfold point_Ok.f
  rw [clamp_in x y h0 h1 h2 h3, Option.bind_some]
  simp
theorem of_in (x y z s n : Int) (hz : Sides z s n) (es : tile_Side.f z = some s) (en : shl .i64 1 z = n) (h0 : -1048576 ≤ x) (h1 : x ≤ 1048576) (h2 : -1048576 ≤ y) (h3 : y ≤ 1048576) :
    ∃ a b, tile_Of.f x y z = some (z, a, b, 0) ∧ 0 ≤ a ∧ a < n ∧ 0 ≤ b ∧ b < n ∧ a = min (n - 1) ((x + 1048576) / s) ∧ b = min (n - 1) ((y + 1048576) / s) := by
  have hs : 0 < s ∧ s ≤ 2097152 ∧ 0 < n ∧ n ≤ 1024 ∧ 0 ≤ z := by unfold Sides at hz; omega
  unfold tile_Of.f
  rw [es, Option.bind_some, if_neg (by omega), ok_in x y h0 h1 h2 h3, Option.bind_some, if_pos rfl, if_pos (by omega), en]
  have e1 : wrap64 (n - 1) = n - 1 := wrap_id (by omega) (by omega)
  have e2 : wrap64 (x + 1048576) = x + 1048576 := wrap_id (by omega) (by omega)
  have e3 : wrap64 (y + 1048576) = y + 1048576 := wrap_id (by omega) (by omega)
  rw [e1, e2, e3, tdiv_pos (by omega), tdiv_pos (by omega)]
  have d1 : 0 ≤ (x + 1048576) / s := Int.ediv_nonneg (by omega) (by omega)
  have d2 : 0 ≤ (y + 1048576) / s := Int.ediv_nonneg (by omega) (by omega)
  have d3 : (x + 1048576) / s ≤ x + 1048576 := Int.ediv_le_self _ (by omega)
  have d4 : (y + 1048576) / s ≤ y + 1048576 := Int.ediv_le_self _ (by omega)
  rw [wrap_id (x := (x + 1048576) / s) (by omega) (by omega), wrap_id (x := (y + 1048576) / s) (by omega) (by omega)]
  unfold mn
  refine ⟨_, _, rfl, ?_, ?_, ?_, ?_, ?_, ?_⟩ <;> (split <;> omega)
theorem tok_in (z s n x y : Int) (hz : Sides z s n) (es : tile_Side.f z = some s) (en : shl .i64 1 z = n) (h0 : 0 ≤ x) (h1 : x < n) (h2 : 0 ≤ y) (h3 : y < n) : tile_Ok.f z x y = some true := by
  have hs : 0 < s ∧ 0 ≤ z := by unfold Sides at hz; omega
  unfold tile_Ok.f
  rw [es, Option.bind_some, if_pos hs.1, if_pos (by unfold mn; split <;> omega), if_pos hs.2, en]
  congr 1
  exact decide_eq_true (by unfold mx; split <;> omega)
theorem box_in (z s n x y : Int) (hz : Sides z s n) (es : tile_Side.f z = some s) (en : shl .i64 1 z = n) (h0 : 0 ≤ x) (h1 : x < n) (h2 : 0 ≤ y) (h3 : y < n) :
    tile_Box.f z x y = some (x * s - 1048576, y * s - 1048576, x * s - 1048576 + s, y * s - 1048576 + s) := by
  have b : 0 ≤ x * s ∧ x * s ≤ 2097152 ∧ 0 ≤ y * s ∧ y * s ≤ 2097152 ∧ 0 < s ∧ s ≤ 2097152 := by
    unfold Sides at hz
    rcases hz with ⟨rfl, rfl, rfl⟩ | ⟨rfl, rfl, rfl⟩ | ⟨rfl, rfl, rfl⟩ | ⟨rfl, rfl, rfl⟩ | ⟨rfl, rfl, rfl⟩ | ⟨rfl, rfl, rfl⟩ | ⟨rfl, rfl, rfl⟩ | ⟨rfl, rfl, rfl⟩ | ⟨rfl, rfl, rfl⟩ | ⟨rfl, rfl, rfl⟩ | ⟨rfl, rfl, rfl⟩ <;> omega
  unfold tile_Box.f
  rw [tok_in z s n x y hz es en h0 h1 h2 h3, Option.bind_some, if_pos rfl, es, Option.bind_some]
  rw [wrap_id (x := x * s) (by omega) (by omega), wrap_id (x := y * s) (by omega) (by omega), wrap_id (x := x * s - 1048576) (by omega) (by omega), wrap_id (x := y * s - 1048576) (by omega) (by omega), wrap_id (x := x * s - 1048576 + s) (by omega) (by omega), wrap_id (x := y * s - 1048576 + s) (by omega) (by omega)]
theorem kids_in (k : Nat) (z s n x y : Int) (hz : Sides z s n) (hz9 : z ≤ 9) (es : tile_Side.f z = some s) (en : shl .i64 1 z = n) (h0 : 0 ≤ x) (h1 : x < n) (h2 : 0 ≤ y) (h3 : y < n) :
    tile_Kids.f (k + 5) z x y = some ([⟨z + 1, 2 * x, 2 * y⟩, ⟨z + 1, 2 * x + 1, 2 * y⟩, ⟨z + 1, 2 * x, 2 * y + 1⟩, ⟨z + 1, 2 * x + 1, 2 * y + 1⟩], 0) := by
  have hs : 0 ≤ z ∧ n ≤ 1024 := by unfold Sides at hz; omega
  unfold tile_Kids.f
  rw [tok_in z s n x y hz es en h0 h1 h2 h3, Option.bind_some, if_pos rfl, if_neg (by omega)]
  have e0 : Int.tmod 0 2 = 0 := rfl
  have e1 : Int.tmod 1 2 = 1 := rfl
  have e2 : Int.tmod 2 2 = 0 := rfl
  have e3 : Int.tmod 3 2 = 1 := rfl
  have f0 : Int.tdiv 0 2 = 0 := rfl
  have f1 : Int.tdiv 1 2 = 0 := rfl
  have f2 : Int.tdiv 2 2 = 1 := rfl
  have f3 : Int.tdiv 3 2 = 1 := rfl
  have w0 : wrap64 0 = 0 := wrap_id (by decide) (by decide)
  have w1 : wrap64 1 = 1 := wrap_id (by decide) (by decide)
  have w2 : wrap64 2 = 2 := wrap_id (by decide) (by decide)
  have w3 : wrap64 3 = 3 := wrap_id (by decide) (by decide)
  have w4 : wrap64 4 = 4 := wrap_id (by decide) (by decide)
  have wz : wrap64 (z + 1) = z + 1 := wrap_id (by omega) (by omega)
  have wx : wrap64 (2 * x) = 2 * x := wrap_id (by omega) (by omega)
  have wx1 : wrap64 (2 * x + 1) = 2 * x + 1 := wrap_id (by omega) (by omega)
  have wy : wrap64 (2 * y) = 2 * y := wrap_id (by omega) (by omega)
  have wy1 : wrap64 (2 * y + 1) = 2 * y + 1 := wrap_id (by omega) (by omega)
  simp [tile_Kids.l0, e0, e1, e2, e3, f0, f1, f2, f3, w0, w1, w2, w3, w4, wz, wx, wx1, wy, wy1]
theorem unit_in (z s n : Int) (hz : Sides z s n) (es : tile_Side.f z = some s) : ∃ u, tile_Unit.f z = some u ∧ s = 256 * u ∧ 8 ≤ u ∧ u ≤ 8192 := by
  unfold tile_Unit.f
  rw [es, Option.bind_some]
  unfold Sides at hz
  rcases hz with ⟨rfl, rfl, rfl⟩ | ⟨rfl, rfl, rfl⟩ | ⟨rfl, rfl, rfl⟩ | ⟨rfl, rfl, rfl⟩ | ⟨rfl, rfl, rfl⟩ | ⟨rfl, rfl, rfl⟩ | ⟨rfl, rfl, rfl⟩ | ⟨rfl, rfl, rfl⟩ | ⟨rfl, rfl, rfl⟩ | ⟨rfl, rfl, rfl⟩ | ⟨rfl, rfl, rfl⟩ <;>
    exact ⟨_, rfl, by decide +kernel, by decide +kernel, by decide +kernel⟩
theorem down_in (a u : Int) (h : 0 < u) (hu : u ≤ 8192) (a0 : -4194304 ≤ a) (a1 : a ≤ 4194304) : tile_down.f a u = some (a / u) := by
  have e := Int.mul_ediv_add_emod a u
  have m0 := Int.emod_nonneg a (show u ≠ 0 by omega)
  have m1 := Int.emod_lt_of_pos a h
  have b0 : -4194304 ≤ a / u := (Int.le_ediv_iff_mul_le h).mpr (by have := Int.mul_le_mul_of_nonneg_left (show (1 : Int) ≤ u by omega) (show (0 : Int) ≤ 4194304 by decide); rw [Int.neg_mul]; omega)
  have b1 : a / u ≤ 4194304 := by
    by_cases c : 0 ≤ a
    · have := Int.ediv_le_self u c; omega
    · have := Int.ediv_neg_of_neg_of_pos (show a < 0 by omega) h; omega
  have q : Int.tdiv a u = a / u ∧ (0 ≤ a ∨ a % u = 0) ∨ Int.tdiv a u = a / u + 1 ∧ a % u ≠ 0 := by
    rw [Int.tdiv_eq_ediv]
    by_cases c : 0 ≤ a ∨ u ∣ a
    · rw [if_pos c]
      exact Or.inl ⟨by omega, c.imp_right Int.emod_eq_zero_of_dvd⟩
    · rw [if_neg c, Int.sign_eq_one_of_pos h]
      exact Or.inr ⟨rfl, fun k => c (Or.inr (Int.dvd_of_emod_eq_zero k))⟩
  have comm : a / u * u = u * (a / u) := Int.mul_comm _ _
  unfold tile_down.f
  rw [if_neg (by omega)]
  rcases q with ⟨q, c⟩ | ⟨q, c⟩
  · rw [q, wrap_id (x := a / u) (by omega) (by omega), wrap_id (x := a / u * u) (by omega) (by omega), if_neg (by omega)]
  · have e2 : (a / u + 1) * u = u * (a / u) + u := by rw [Int.add_mul, Int.one_mul, comm]
    rw [q, wrap_id (x := a / u + 1) (by omega) (by omega), wrap_id (x := (a / u + 1) * u) (by omega) (by omega), if_pos (by omega), wrap_id (by omega) (by omega)]
    congr 1; omega
theorem local_in (z s n x y u px py : Int) (hz : Sides z s n) (es : tile_Side.f z = some s) (en : shl .i64 1 z = n) (eu : tile_Unit.f z = some u) (u0 : 8 ≤ u) (u1 : u ≤ 8192) (h0 : 0 ≤ x) (h1 : x < n) (h2 : 0 ≤ y) (h3 : y < n)
    (p0 : -1048576 ≤ px) (p1 : px ≤ 1048576) (p2 : -1048576 ≤ py) (p3 : py ≤ 1048576) :
    tile_Local.f z x y px py = some ((px - (x * s - 1048576)) / u, (py - (y * s - 1048576)) / u) := by
  have b : 0 ≤ x * s ∧ x * s ≤ 2097152 ∧ 0 ≤ y * s ∧ y * s ≤ 2097152 ∧ 0 < s ∧ s ≤ 2097152 := by
    unfold Sides at hz
    rcases hz with ⟨rfl, rfl, rfl⟩ | ⟨rfl, rfl, rfl⟩ | ⟨rfl, rfl, rfl⟩ | ⟨rfl, rfl, rfl⟩ | ⟨rfl, rfl, rfl⟩ | ⟨rfl, rfl, rfl⟩ | ⟨rfl, rfl, rfl⟩ | ⟨rfl, rfl, rfl⟩ | ⟨rfl, rfl, rfl⟩ | ⟨rfl, rfl, rfl⟩ | ⟨rfl, rfl, rfl⟩ <;> omega
  unfold tile_Local.f
  rw [tok_in z s n x y hz es en h0 h1 h2 h3, Option.bind_some, if_pos rfl, clamp_in px py p0 p1 p2 p3, Option.bind_some, box_in z s n x y hz es en h0 h1 h2 h3, Option.bind_some, eu, Option.bind_some]
  dsimp only
  rw [wrap_id (x := px - (x * s - 1048576)) (by omega) (by omega), wrap_id (x := py - (y * s - 1048576)) (by omega) (by omega), down_in _ u (by omega) u1 (by omega) (by omega), Option.bind_some, down_in _ u (by omega) u1 (by omega) (by omega), Option.bind_some]
theorem world_in (z s n x y u px py : Int) (hz : Sides z s n) (es : tile_Side.f z = some s) (en : shl .i64 1 z = n) (eu : tile_Unit.f z = some u) (u0 : 8 ≤ u) (u1 : u ≤ 8192) (h0 : 0 ≤ x) (h1 : x < n) (h2 : 0 ≤ y) (h3 : y < n)
    (p0 : -1048576 ≤ px) (p1 : px ≤ 1048576) (p2 : -1048576 ≤ py) (p3 : py ≤ 1048576) :
    tile_World.f z x y px py = some (x * s - 1048576 + px * u, y * s - 1048576 + py * u) := by
  have b : 0 ≤ x * s ∧ x * s ≤ 2097152 ∧ 0 ≤ y * s ∧ y * s ≤ 2097152 ∧ 0 < s ∧ s ≤ 2097152 := by
    unfold Sides at hz
    rcases hz with ⟨rfl, rfl, rfl⟩ | ⟨rfl, rfl, rfl⟩ | ⟨rfl, rfl, rfl⟩ | ⟨rfl, rfl, rfl⟩ | ⟨rfl, rfl, rfl⟩ | ⟨rfl, rfl, rfl⟩ | ⟨rfl, rfl, rfl⟩ | ⟨rfl, rfl, rfl⟩ | ⟨rfl, rfl, rfl⟩ | ⟨rfl, rfl, rfl⟩ | ⟨rfl, rfl, rfl⟩ <;> omega
  have prod : ∀ p : Int, -1048576 ≤ p → p ≤ 1048576 → -8589934592 ≤ p * u ∧ p * u ≤ 8589934592 := by
    intro p l r
    have i1 := Int.mul_le_mul_of_nonneg_right l (show (0 : Int) ≤ u by omega)
    have i2 := Int.mul_le_mul_of_nonneg_right r (show (0 : Int) ≤ u by omega)
    omega
  have bx := prod px p0 p1
  have by' := prod py p2 p3
  unfold tile_World.f
  rw [tok_in z s n x y hz es en h0 h1 h2 h3, Option.bind_some, if_pos rfl, clamp_in px py p0 p1 p2 p3, Option.bind_some, box_in z s n x y hz es en h0 h1 h2 h3, Option.bind_some, eu, Option.bind_some]
  dsimp only
  rw [wrap_id (x := px * u) (by omega) (by omega), wrap_id (x := py * u) (by omega) (by omega), wrap_id (x := x * s - 1048576 + px * u) (by omega) (by omega), wrap_id (x := y * s - 1048576 + py * u) (by omega) (by omega)]
theorem up_in (z s n x y : Int) (hz : Sides z s n) (z1 : 1 ≤ z) (es : tile_Side.f z = some s) (en : shl .i64 1 z = n) (h0 : 0 ≤ x) (h1 : x < n) (h2 : 0 ≤ y) (h3 : y < n) :
    tile_Up.f z x y = some (z - 1, x / 2, y / 2, 0) := by
  have hn : n ≤ 1024 ∧ z ≤ 10 := by unfold Sides at hz; omega
  unfold tile_Up.f
  rw [tok_in z s n x y hz es en h0 h1 h2 h3, Option.bind_some, if_pos rfl, if_neg (by omega), tdiv_pos h0, tdiv_pos h2, wrap_id (by omega) (by omega), wrap_id (x := x / 2) (by omega) (by omega), wrap_id (x := y / 2) (by omega) (by omega)]
theorem tdiv_two (m : Int) : Int.tdiv (2 * m) 2 = m := Int.mul_tdiv_cancel_left m (by decide)
end Go.Proofs.Ytojehbkadlmbjaa.U
