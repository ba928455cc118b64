/- Plain facts on tiles, gathered: sides, boxes, the tile of a point, the units of a tile. Conditions: stated at each. -/
import Derived.Test.YtojehbkadlmbjaaZlQf15
import Derived.Test.YtojehbkadlmbjaaZlQf29
import Derived.Test.YtojehbkadlmbjaaZlQf46
import Derived.Test.YtojehbkadlmbjaaZlQ0
import Derived.Test.YtojehbkadlmbjaaZlQf48
import Derived.Test.YtojehbkadlmbjaaZlQf28
import Derived.OpenShut
namespace Go.Proofs.Ytojehbkadlmbjaa.U
set_option linter.unusedSimpArgs false
set_option linter.unusedVariables false
open Go.RowKit Go.Proofs.Ytojehbkadlmbjaa.Q Go.Proofs.YtojehbkadlmbjaaW.PrintWords Go.Proofs.YtojehbkadlmbjaaW.PrintLast Go.Proofs.YtojehbkadlmbjaaW.PrintMore
theorem wrap_id {x : Int} (h0 : -9223372036854775808 ≤ x) (h1 : x ≤ 9223372036854775807) : wrap64 x = x := by
  unfold wrap64
  omega
theorem tdiv_pos {x d : Int} (h : 0 ≤ x) : Int.tdiv x d = x / d := Int.tdiv_eq_ediv_of_nonneg h
/-- At a zoom z: the side s and the number n of tiles in a row. -/
def Sides (z s n : Int) : Prop := (z = 0 ∧ s = 2097152 ∧ n = 1) ∨ (z = 1 ∧ s = 1048576 ∧ n = 2) ∨ (z = 2 ∧ s = 524288 ∧ n = 4) ∨ (z = 3 ∧ s = 262144 ∧ n = 8) ∨ (z = 4 ∧ s = 131072 ∧ n = 16) ∨ (z = 5 ∧ s = 65536 ∧ n = 32) ∨ (z = 6 ∧ s = 32768 ∧ n = 64) ∨ (z = 7 ∧ s = 16384 ∧ n = 128) ∨ (z = 8 ∧ s = 8192 ∧ n = 256) ∨ (z = 9 ∧ s = 4096 ∧ n = 512) ∨ (z = 10 ∧ s = 2048 ∧ n = 1024)
theorem side_out (z : Int) (h : z < 0 ∨ 10 < z) : tile_Side.f z = some 0 := by
  unfold tile_Side.f
  by_cases c : z < 0
  · rw [if_pos c]
  · rw [if_neg c, if_pos (by omega)]
theorem limit_in (x : Int) (h0 : -1048576 ≤ x) (h1 : x ≤ 1048576) : point_limit.f x 1048576 = some x := by
  unfold point_limit.f mx mn
  rw [wrap_id (by omega) (by omega)]
  congr 1
  split <;> split <;> omega
theorem clamp_in (x y : Int) (h0 : -1048576 ≤ x) (h1 : x ≤ 1048576) (h2 : -1048576 ≤ y) (h3 : y ≤ 1048576) : point_Clamp.f x y = some (x, y) := by
  unfold point_Clamp.f
  rw [limit_in x h0 h1, Option.bind_some, limit_in y h2 h3, Option.bind_some]
theorem ok_in (x y : Int) (h0 : -1048576 ≤ x) (h1 : x ≤ 1048576) (h2 : -1048576 ≤ y) (h3 : y ≤ 1048576) : point_Ok.f x y = some true := by
  unfold point_Ok.f
  rw [clamp_in x y h0 h1 h2 h3, Option.bind_some]
  simp
theorem tdiv_two (m : Int) : Int.tdiv (2 * m) 2 = m := Int.mul_tdiv_cancel_left m (by decide)
end Go.Proofs.Ytojehbkadlmbjaa.U

