/- Plain facts on tiles: the tile above, a list that holds a tile. Conditions: stated at each. -/
import Derived.Test.YtojehbkadlmbjaaUT
import Derived.Test.YtojehbkadlmbjaaQf30
import Derived.Test.YtojehbkadlmbjaaQf31
namespace Go.Proofs.Ytojehbkadlmbjaa.U
open Go.RowKit Go.Proofs.Ytojehbkadlmbjaa.Q Go.Proofs.YtojehbkadlmbjaaW.PrintWords Go.Proofs.YtojehbkadlmbjaaW.PrintLast Go.Proofs.YtojehbkadlmbjaaW.PrintMore
set_option linter.unusedSimpArgs false

theorem up_in (z s n x y : Int) (hz : Sides z s n) (z1 : 1 ≤ z) (es : tile_Side.f z = some s) (en : shl .i64 1 z = n) (h0 : 0 ≤ x) (h1 : x < n) (h2 : 0 ≤ y) (h3 : y < n) :
    tile_Up.f z x y = some (z - 1, x / 2, y / 2, 0) := by
  have hn : n ≤ 1024 ∧ z ≤ 10 := by unfold Sides at hz; omega
  unfold tile_Up.f
  rw [tok_in z s n x y hz es en h0 h1 h2 h3, Option.bind_some, if_pos rfl, if_neg (by omega), tdiv_pos h0, tdiv_pos h2, wrap_id (by omega) (by omega), wrap_id (x := x / 2) (by omega) (by omega), wrap_id (x := y / 2) (by omega) (by omega)]

/-- The search in a list, from i on: where t stands at j, it ends at a place. -/
theorem index_in (L : List S34) (hL : (L.length : Int) ≤ 4611686018427387904) (a b c : Int) (j : Nat) (hj : j < L.length) (e : rd_T34 L j = ⟨a, b, c⟩) : ∀ (d k i : Nat), i + d = j → d < k →
    ∃ r : Int, api_TileID_50.l0 k L (L.length : Int) (i : Int) a b c = some r ∧ 0 ≤ r := by
  intro d
  induction d with
  | zero =>
    intro k i hi hk
    obtain ⟨k, rfl⟩ : ∃ m, k = m + 1 := ⟨k - 1, by omega⟩
    obtain rfl : i = j := by omega
    rw [api_TileID_50.l0, if_pos (by omega), if_pos (by omega), if_pos (by omega), e, if_pos (by simp)]
    exact ⟨_, rfl, by omega⟩
  | succ d ih =>
    intro k i hi hk
    obtain ⟨k, rfl⟩ : ∃ m, k = m + 1 := ⟨k - 1, by omega⟩
    rw [api_TileID_50.l0, if_pos (by omega), if_pos (by omega), if_pos (by omega)]
    split
    · exact ⟨_, rfl, by omega⟩
    · rw [wrap_id (by omega) (by omega), show (i : Int) + 1 = ((i + 1 : Nat) : Int) by omega]
      exact ih k (i + 1) (by omega) (by omega)

theorem contains_in (L : List S34) (hL : (L.length : Int) ≤ 4611686018427387904) (a b c : Int) (j : Nat) (hj : j < L.length) (e : rd_T34 L j = ⟨a, b, c⟩) (k : Nat) (hk : L.length < k) :
    api_TileID_31.f k L a b c = some true := by
  obtain ⟨r, hr, r0⟩ := index_in L hL a b c j hj e j k 0 (by omega) (by omega)
  unfold api_TileID_31.f api_TileID_50.f
  rw [show ((0 : Int)) = ((0 : Nat) : Int) from rfl, hr, Option.bind_some, decide_eq_true (by omega)]

end Go.Proofs.Ytojehbkadlmbjaa.U
