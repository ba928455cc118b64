/- Plain facts on tiles: sides, boxes, the tile of a point. Conditions: stated at each. -/
import Derived.Test.YtojehbkadlmbjaaQf16
import Derived.Test.YtojehbkadlmbjaaQf20
import Derived.Test.YtojehbkadlmbjaaQf21
import Derived.Test.YtojehbkadlmbjaaQf22
import Derived.Test.YtojehbkadlmbjaaQf23
import Derived.OpenShut
namespace Go.Proofs.Ytojehbkadlmbjaa.U
set_option linter.unusedSimpArgs false
open Go.RowKit Go.Proofs.Ytojehbkadlmbjaa.Q Go.Proofs.YtojehbkadlmbjaaW.PrintWords Go.Proofs.YtojehbkadlmbjaaW.PrintLast Go.Proofs.YtojehbkadlmbjaaW.PrintMore

theorem wrap_id {x : Int} (h0 : -9223372036854775808 ≤ x) (h1 : x ≤ 9223372036854775807) : wrap64 x = x := by
  unfold wrap64
  omega

theorem wf_bounds {a : Int} (h : (Lit.int .i64 a).wf = true) : -9223372036854775808 ≤ a ∧ a ≤ 9223372036854775807 := bounds_i64 h

theorem tdiv_pos {x d : Int} (h : 0 ≤ x) : Int.tdiv x d = x / d := Int.tdiv_eq_ediv_of_nonneg h
theorem tmod_pos {x d : Int} (h : 0 ≤ x) : Int.tmod x d = x % d := Int.tmod_eq_emod_of_nonneg h

theorem below_eq (x n : Int) (hn : 0 < n) (hb : n ≤ 4611686018427387904) : terrmake_Below.f x n = some (x % n) := by
  unfold terrmake_Below.f
  rw [if_neg (by omega)]
  have h0 := Int.emod_nonneg x (show n ≠ 0 by omega)
  have h1 := Int.emod_lt_of_pos x hn
  have e : Int.tmod x n = x % n ∨ (Int.tmod x n = x % n - n) ∧ x % n ≠ 0 := by
    rw [Int.tmod_eq_emod]
    by_cases c : 0 ≤ x ∨ n ∣ x
    · rw [if_pos c]; left; simp
    · rw [if_neg c]; right
      refine ⟨by omega, fun h => c (Or.inr (Int.dvd_of_emod_eq_zero h))⟩
  rcases e with e | ⟨e, e2⟩
  · rw [if_neg (by omega), e]
  · rw [if_pos (by omega), e, wrap_id (by omega) (by omega)]
    congr 1; omega

theorem below_spec (x n : Int) (hn : 0 < n) (hb : n ≤ 4611686018427387904) : ∃ r, terrmake_Below.f x n = some r ∧ 0 ≤ r ∧ r < n :=
  ⟨_, below_eq x n hn hb, Int.emod_nonneg x (by omega), Int.emod_lt_of_pos x hn⟩

theorem spread_spec (x y : Int) : ∃ a b, terrkeep5_spread.f x y = some (a, b) ∧ -1048576 ≤ a ∧ a ≤ 1048576 ∧ -1048576 ≤ b ∧ b ≤ 1048576 := by
  obtain ⟨r, hr, h0, h1⟩ := below_spec x 2097153 (by decide) (by decide)
  obtain ⟨s, hs, k0, k1⟩ := below_spec y 2097153 (by decide) (by decide)
  unfold terrkeep5_spread.f
  rw [hr, Option.bind_some, hs, Option.bind_some]
  exact ⟨_, _, rfl, by rw [wrap_id (by omega) (by omega)]; omega, by rw [wrap_id (by omega) (by omega)]; omega, by rw [wrap_id (by omega) (by omega)]; omega, by rw [wrap_id (by omega) (by omega)]; omega⟩

/-- At a zoom z: the side s and the number n of tiles in a row. -/
def Sides (z s n : Int) : Prop := (z = 0 ∧ s = 2097152 ∧ n = 1) ∨ (z = 1 ∧ s = 1048576 ∧ n = 2) ∨ (z = 2 ∧ s = 524288 ∧ n = 4) ∨ (z = 3 ∧ s = 262144 ∧ n = 8) ∨ (z = 4 ∧ s = 131072 ∧ n = 16) ∨ (z = 5 ∧ s = 65536 ∧ n = 32) ∨ (z = 6 ∧ s = 32768 ∧ n = 64) ∨ (z = 7 ∧ s = 16384 ∧ n = 128) ∨ (z = 8 ∧ s = 8192 ∧ n = 256) ∨ (z = 9 ∧ s = 4096 ∧ n = 512) ∨ (z = 10 ∧ s = 2048 ∧ n = 1024)

theorem sides (z : Int) (h0 : 0 ≤ z) (h1 : z ≤ 10) : ∃ s n, Sides z s n ∧ tile_Side.f z = some s ∧ shl .i64 1 z = n := by
  have : z = 0 ∨ z = 1 ∨ z = 2 ∨ z = 3 ∨ z = 4 ∨ z = 5 ∨ z = 6 ∨ z = 7 ∨ z = 8 ∨ z = 9 ∨ z = 10 := by omega
  rcases this with rfl | rfl | rfl | rfl | rfl | rfl | rfl | rfl | rfl | rfl | rfl <;>
    exact ⟨_, _, by unfold Sides; decide, rfl, rfl⟩

theorem side_out (z : Int) (h : z < 0 ∨ 10 < z) : tile_Side.f z = some 0 := by
  unfold tile_Side.f
  by_cases c : z < 0
  · rw [if_pos c]
  · rw [if_neg c, if_pos (by omega)]

theorem limit_in (x : Int) (h0 : -1048576 ≤ x) (h1 : x ≤ 1048576) : point_limit.f x 1048576 = some x := by
  unfold point_limit.f mx mn
  rw [wrap_id (by omega) (by omega)]
  congr 1
  split <;> split <;> omega

theorem clamp_in (x y : Int) (h0 : -1048576 ≤ x) (h1 : x ≤ 1048576) (h2 : -1048576 ≤ y) (h3 : y ≤ 1048576) : point_Clamp.f x y = some (x, y) := by
  unfold point_Clamp.f
  rw [limit_in x h0 h1, Option.bind_some, limit_in y h2 h3, Option.bind_some]

theorem ok_in (x y : Int) (h0 : -1048576 ≤ x) (h1 : x ≤ 1048576) (h2 : -1048576 ≤ y) (h3 : y ≤ 1048576) : point_Ok.f x y = some true := by
  unfold point_Ok.f
  rw [clamp_in x y h0 h1 h2 h3, Option.bind_some]
  simp

theorem of_in (x y z s n : Int) (hz : Sides z s n) (es : tile_Side.f z = some s) (en : shl .i64 1 z = n) (h0 : -1048576 ≤ x) (h1 : x ≤ 1048576) (h2 : -1048576 ≤ y) (h3 : y ≤ 1048576) :
    ∃ a b, tile_Of.f x y z = some (z, a, b, 0) ∧ 0 ≤ a ∧ a < n ∧ 0 ≤ b ∧ b < n ∧ a = min (n - 1) ((x + 1048576) / s) ∧ b = min (n - 1) ((y + 1048576) / s) := by
  have hs : 0 < s ∧ s ≤ 2097152 ∧ 0 < n ∧ n ≤ 1024 ∧ 0 ≤ z := by unfold Sides at hz; omega
  unfold tile_Of.f
  rw [es, Option.bind_some, if_neg (by omega), ok_in x y h0 h1 h2 h3, Option.bind_some, if_pos rfl, if_pos (by omega), en]
  have e1 : wrap64 (n - 1) = n - 1 := wrap_id (by omega) (by omega)
  have e2 : wrap64 (x + 1048576) = x + 1048576 := wrap_id (by omega) (by omega)
  have e3 : wrap64 (y + 1048576) = y + 1048576 := wrap_id (by omega) (by omega)
  rw [e1, e2, e3, tdiv_pos (by omega), tdiv_pos (by omega)]
  have d1 : 0 ≤ (x + 1048576) / s := Int.ediv_nonneg (by omega) (by omega)
  have d2 : 0 ≤ (y + 1048576) / s := Int.ediv_nonneg (by omega) (by omega)
  have d3 : (x + 1048576) / s ≤ x + 1048576 := Int.ediv_le_self _ (by omega)
  have d4 : (y + 1048576) / s ≤ y + 1048576 := Int.ediv_le_self _ (by omega)
  rw [wrap_id (x := (x + 1048576) / s) (by omega) (by omega), wrap_id (x := (y + 1048576) / s) (by omega) (by omega)]
  unfold mn
  refine ⟨_, _, rfl, ?_, ?_, ?_, ?_, ?_, ?_⟩ <;> (split <;> omega)

theorem tok_in (z s n x y : Int) (hz : Sides z s n) (es : tile_Side.f z = some s) (en : shl .i64 1 z = n) (h0 : 0 ≤ x) (h1 : x < n) (h2 : 0 ≤ y) (h3 : y < n) : tile_Ok.f z x y = some true := by
  have hs : 0 < s ∧ 0 ≤ z := by unfold Sides at hz; omega
  unfold tile_Ok.f
  rw [es, Option.bind_some, if_pos hs.1, if_pos (by unfold mn; split <;> omega), if_pos hs.2, en]
  congr 1
  exact decide_eq_true (by unfold mx; split <;> omega)

theorem box_in (z s n x y : Int) (hz : Sides z s n) (es : tile_Side.f z = some s) (en : shl .i64 1 z = n) (h0 : 0 ≤ x) (h1 : x < n) (h2 : 0 ≤ y) (h3 : y < n) :
    tile_Box.f z x y = some (x * s - 1048576, y * s - 1048576, x * s - 1048576 + s, y * s - 1048576 + s) := by
  have b : 0 ≤ x * s ∧ x * s ≤ 2097152 ∧ 0 ≤ y * s ∧ y * s ≤ 2097152 ∧ 0 < s ∧ s ≤ 2097152 := by
    unfold Sides at hz
    rcases hz with ⟨rfl, rfl, rfl⟩ | ⟨rfl, rfl, rfl⟩ | ⟨rfl, rfl, rfl⟩ | ⟨rfl, rfl, rfl⟩ | ⟨rfl, rfl, rfl⟩ | ⟨rfl, rfl, rfl⟩ | ⟨rfl, rfl, rfl⟩ | ⟨rfl, rfl, rfl⟩ | ⟨rfl, rfl, rfl⟩ | ⟨rfl, rfl, rfl⟩ | ⟨rfl, rfl, rfl⟩ <;> omega
  unfold tile_Box.f
  rw [tok_in z s n x y hz es en h0 h1 h2 h3, Option.bind_some, if_pos rfl, es, Option.bind_some]
  rw [wrap_id (x := x * s) (by omega) (by omega), wrap_id (x := y * s) (by omega) (by omega), wrap_id (x := x * s - 1048576) (by omega) (by omega), wrap_id (x := y * s - 1048576) (by omega) (by omega), wrap_id (x := x * s - 1048576 + s) (by omega) (by omega), wrap_id (x := y * s - 1048576 + s) (by omega) (by omega)]

theorem has_in (a b c d x y : Int) (h : a ≤ x ∧ x ≤ c ∧ b ≤ y ∧ y ≤ d) : box_Has.f a b c d x y = some true := by
  unfold box_Has.f
  rw [if_pos h.1, if_pos h.2.1, if_pos h.2.2.1, decide_eq_true h.2.2.2]

theorem kids_in (k : Nat) (z s n x y : Int) (hz : Sides z s n) (hz9 : z ≤ 9) (es : tile_Side.f z = some s) (en : shl .i64 1 z = n) (h0 : 0 ≤ x) (h1 : x < n) (h2 : 0 ≤ y) (h3 : y < n) :
    tile_Kids.f (k + 5) z x y = some ([⟨z + 1, 2 * x, 2 * y⟩, ⟨z + 1, 2 * x + 1, 2 * y⟩, ⟨z + 1, 2 * x, 2 * y + 1⟩, ⟨z + 1, 2 * x + 1, 2 * y + 1⟩], 0) := by
  have hs : 0 ≤ z ∧ n ≤ 1024 := by unfold Sides at hz; omega
  unfold tile_Kids.f
  rw [tok_in z s n x y hz es en h0 h1 h2 h3, Option.bind_some, if_pos rfl, if_neg (by omega)]
  have e0 : Int.tmod 0 2 = 0 := rfl
  have e1 : Int.tmod 1 2 = 1 := rfl
  have e2 : Int.tmod 2 2 = 0 := rfl
  have e3 : Int.tmod 3 2 = 1 := rfl
  have f0 : Int.tdiv 0 2 = 0 := rfl
  have f1 : Int.tdiv 1 2 = 0 := rfl
  have f2 : Int.tdiv 2 2 = 1 := rfl
  have f3 : Int.tdiv 3 2 = 1 := rfl
  have w0 : wrap64 0 = 0 := wrap_id (by decide) (by decide)
  have w1 : wrap64 1 = 1 := wrap_id (by decide) (by decide)
  have w2 : wrap64 2 = 2 := wrap_id (by decide) (by decide)
  have w3 : wrap64 3 = 3 := wrap_id (by decide) (by decide)
  have w4 : wrap64 4 = 4 := wrap_id (by decide) (by decide)
  have wz : wrap64 (z + 1) = z + 1 := wrap_id (by omega) (by omega)
  have wx : wrap64 (2 * x) = 2 * x := wrap_id (by omega) (by omega)
  have wx1 : wrap64 (2 * x + 1) = 2 * x + 1 := wrap_id (by omega) (by omega)
  have wy : wrap64 (2 * y) = 2 * y := wrap_id (by omega) (by omega)
  have wy1 : wrap64 (2 * y + 1) = 2 * y + 1 := wrap_id (by omega) (by omega)
  simp [tile_Kids.l0, e0, e1, e2, e3, f0, f1, f2, f3, w0, w1, w2, w3, w4, wz, wx, wx1, wy, wy1]

end Go.Proofs.Ytojehbkadlmbjaa.U
