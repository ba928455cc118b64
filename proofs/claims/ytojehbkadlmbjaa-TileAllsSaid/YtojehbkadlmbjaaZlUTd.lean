/- Plain facts on tiles: the tiles that meet a box, as a list. Conditions: stated at each. -/
import Derived.Test.YtojehbkadlmbjaaZlUTileTells
import Derived.Test.YtojehbkadlmbjaaZlQf33
namespace Go.Proofs.Ytojehbkadlmbjaa.U
open Go.RowKit Go.Proofs.Ytojehbkadlmbjaa.Q Go.Proofs.YtojehbkadlmbjaaW.PrintWords Go.Proofs.YtojehbkadlmbjaaW.PrintLast Go.Proofs.YtojehbkadlmbjaaW.PrintMore
set_option linter.unusedSimpArgs false

/-- The first and the last tile in a direction. -/
def Col (s n low high c0 c1 : Int) : Prop := c0 = max 0 ((low + 1048576 + s - 1) / s - 1) ∧ c1 = min (n - 1) ((high + 1048576) / s)
theorem columns_in (z s n low high : Int) (hz : Sides z s n) (es : tile_Side.f z = some s) (en : shl .i64 1 z = n) (h0 : -1048576 ≤ low) (h1 : low ≤ high) (h2 : high ≤ 1048576) :
    ∃ c0 c1, tile_columns.f low high z = some (c0, c1) ∧ Col s n low high c0 c1 := by
  have hs : 0 < s ∧ s ≤ 2097152 ∧ 0 < n ∧ n ≤ 1024 ∧ 0 ≤ z := by unfold Sides at hz; omega
  have d1 : 0 ≤ (low + 1048576 + s - 1) / s := Int.ediv_nonneg (by omega) (by omega)
  have d2 : 0 ≤ (high + 1048576) / s := Int.ediv_nonneg (by omega) (by omega)
  have d3 : (low + 1048576 + s - 1) / s ≤ low + 1048576 + s - 1 := Int.ediv_le_self _ (by omega)
  have d4 : (high + 1048576) / s ≤ high + 1048576 := Int.ediv_le_self _ (by omega)
  refine ⟨_, _, ?_, rfl, rfl⟩
  unfold tile_columns.f
  rw [es, Option.bind_some, if_neg (by omega), if_pos (by omega), en]
  rw [wrap_id (x := low + 1048576) (by omega) (by omega), wrap_id (x := low + 1048576 + s) (by omega) (by omega), wrap_id (x := low + 1048576 + s - 1) (by omega) (by omega), wrap_id (x := high + 1048576) (by omega) (by omega), tdiv_pos (by omega), tdiv_pos (by omega)]
  rw [wrap_id (x := (low + 1048576 + s - 1) / s) (by omega) (by omega), wrap_id (x := (low + 1048576 + s - 1) / s - 1) (by omega) (by omega), wrap_id (x := (high + 1048576) / s) (by omega) (by omega), wrap_id (x := n - 1) (by omega) (by omega)]
  unfold mx mn
  congr 2 <;> (split <;> omega)
theorem col_bounds (z s n low high c0 c1 : Int) (hz : Sides z s n) (h : Col s n low high c0 c1) (h0 : -1048576 ≤ low) (h1 : low ≤ high) (h2 : high ≤ 1048576) :
    0 ≤ c0 ∧ c0 ≤ c1 ∧ c1 < n ∧ c1 - c0 ≤ (high - low) / 2048 + 2 := by
  obtain ⟨e0, e1⟩ := h
  unfold Sides at hz
  rcases hz with ⟨rfl, rfl, rfl⟩ | ⟨rfl, rfl, rfl⟩ | ⟨rfl, rfl, rfl⟩ | ⟨rfl, rfl, rfl⟩ | ⟨rfl, rfl, rfl⟩ | ⟨rfl, rfl, rfl⟩ | ⟨rfl, rfl, rfl⟩ | ⟨rfl, rfl, rfl⟩ | ⟨rfl, rfl, rfl⟩ | ⟨rfl, rfl, rfl⟩ | ⟨rfl, rfl, rfl⟩ <;> omega
theorem col_meets (z s n low high c0 c1 x : Int) (hz : Sides z s n) (h : Col s n low high c0 c1) (h0 : -1048576 ≤ low) (h1 : low ≤ high) (h2 : high ≤ 1048576) (hx0 : 0 ≤ x) (hx1 : x < n) :
    (c0 ≤ x ∧ x ≤ c1) ↔ (x * s - 1048576 ≤ high ∧ low ≤ x * s - 1048576 + s) := by
  obtain ⟨e0, e1⟩ := h
  unfold Sides at hz
  rcases hz with ⟨rfl, rfl, rfl⟩ | ⟨rfl, rfl, rfl⟩ | ⟨rfl, rfl, rfl⟩ | ⟨rfl, rfl, rfl⟩ | ⟨rfl, rfl, rfl⟩ | ⟨rfl, rfl, rfl⟩ | ⟨rfl, rfl, rfl⟩ | ⟨rfl, rfl, rfl⟩ | ⟨rfl, rfl, rfl⟩ | ⟨rfl, rfl, rfl⟩ | ⟨rfl, rfl, rfl⟩ <;> omega
/-- The tile at place m of w columns. -/
def cellAt (z x0 y0 : Int) (w m : Nat) : S34 := ⟨z, x0 + (m % w : Nat), y0 + (m / w : Nat)⟩
def grid (z x0 y0 : Int) (w m : Nat) : List S34 := (List.range m).map (cellAt z x0 y0 w)
theorem grid_length (z x0 y0 : Int) (w m : Nat) : (grid z x0 y0 w m).length = m := by simp [grid]
theorem grid_succ (z x0 y0 : Int) (w m : Nat) : grid z x0 y0 w (m + 1) = grid z x0 y0 w m ++ [cellAt z x0 y0 w m] := by simp [grid, List.range_succ]
theorem place (w r c : Nat) (h : c < w) : (r * w + c) % w = c ∧ (r * w + c) / w = r := by
  constructor
  · rw [Nat.mul_comm, Nat.mul_add_mod, Nat.mod_eq_of_lt h]
  · rw [Nat.mul_comm, Nat.mul_add_div (by omega), Nat.div_eq_of_lt h, Nat.add_zero]
/-- The inner loop: the rest of a row. -/
theorem all_row (z x0 y0 : Int) (w h r : Nat) (bx : 0 ≤ x0 ∧ x0 + w ≤ 1024) (by' : 0 ≤ y0 ∧ y0 + h ≤ 1024) (hr : r < h) (hw : 0 < w) (hwh : w * h ≤ 1048576) : ∀ (d k c : Nat), c + d = w → d < k →
    tile_All.l1 k z x0 (x0 + w - 1) (y0 + h - 1) (grid z x0 y0 w (r * w + c)) (y0 + r) (x0 + c) =
      tile_All.l0 (k - d - 1) z x0 (x0 + w - 1) (y0 + h - 1) (grid z x0 y0 w ((r + 1) * w)) (y0 + (r + 1 : Nat)) := by
  intro d
  induction d with
  | zero =>
    intro k c hc hk
    obtain ⟨k, rfl⟩ : ∃ m, k = m + 1 := ⟨k - 1, by omega⟩
    obtain rfl : c = w := by omega
    rw [tile_All.l1, if_neg (by omega), wrap_id (by omega) (by omega), show (r + 1) * c = r * c + c by rw [Nat.add_mul, Nat.one_mul]]
    rw [show y0 + (r : Int) + 1 = y0 + ((r + 1 : Nat) : Int) by omega]
    rfl
  | succ d ih =>
    intro k c hc hk
    obtain ⟨k, rfl⟩ : ∃ m, k = m + 1 := ⟨k - 1, by omega⟩
    have hm : r * w + c < h * w := by
      have : (r + 1) * w ≤ h * w := Nat.mul_le_mul_right w hr
      rw [Nat.add_mul, Nat.one_mul] at this
      omega
    have hm2 : h * w = w * h := Nat.mul_comm _ _
    rw [tile_All.l1, if_pos (by omega), if_pos (by rw [grid_length]; omega), wrap_id (by omega) (by omega)]
    have e : (⟨z, x0 + (c : Int), y0 + (r : Int)⟩ : S34) = cellAt z x0 y0 w (r * w + c) := by
      unfold cellAt
      rw [(place w r c (by omega)).1, (place w r c (by omega)).2]
    rw [e, ← grid_succ, show x0 + (c : Int) + 1 = x0 + ((c + 1 : Nat) : Int) by omega, Nat.add_assoc, ih k (c + 1) (by omega) (by omega)]
    rw [show k + 1 - (d + 1) - 1 = k - d - 1 by omega]
theorem all_rows (z x0 y0 : Int) (w h : Nat) (bx : 0 ≤ x0 ∧ x0 + w ≤ 1024) (by' : 0 ≤ y0 ∧ y0 + h ≤ 1024) (hw : 0 < w) (hwh : w * h ≤ 1048576) : ∀ (d k r : Nat), r + d = h → d * (w + 2) < k →
    tile_All.l0 k z x0 (x0 + w - 1) (y0 + h - 1) (grid z x0 y0 w (r * w)) (y0 + r) = some (grid z x0 y0 w (h * w), 0) := by
  intro d
  induction d with
  | zero =>
    intro k r hr hk
    obtain ⟨k, rfl⟩ : ∃ m, k = m + 1 := ⟨k - 1, by omega⟩
    obtain rfl : r = h := by omega
    rw [tile_All.l0, if_neg (by omega)]
  | succ d ih =>
    intro k r hr hk
    rw [Nat.add_mul, Nat.one_mul] at hk
    obtain ⟨k, rfl⟩ : ∃ m, k = m + 1 := ⟨k - 1, by omega⟩
    rw [tile_All.l0, if_pos (by omega)]
    have := all_row z x0 y0 w h r bx by' (by omega) hw hwh w k 0 (by omega) (by omega)
    rw [Nat.add_zero, show x0 + ((0 : Nat) : Int) = x0 by omega] at this
    rw [this]
    exact ih _ (r + 1) (by omega) (by omega)
/-- All: of a box with points that meets not too many tiles. -/
theorem all_in (z s n a b c d : Int) (hz : Sides z s n) (es : tile_Side.f z = some s) (en : shl .i64 1 z = n) (a0 : -1048576 ≤ a) (a1 : a ≤ c) (a2 : c ≤ 1048576) (b0 : -1048576 ≤ b) (b1 : b ≤ d) (b2 : d ≤ 1048576) :
    ∃ (x0 x1 y0 y1 : Int), Col s n a c x0 x1 ∧ Col s n b d y0 y1 ∧
      ((x1 - x0 + 1) * (y1 - y0 + 1) > 1024 → ∀ k, tile_All.f (k + 1) a b c d z = some ([], 2)) ∧
      ((x1 - x0 + 1) * (y1 - y0 + 1) ≤ 1024 → ∀ k, 2100000 < k → tile_All.f k a b c d z = some (grid z x0 y0 (x1 - x0 + 1).toNat ((y1 - y0 + 1).toNat * (x1 - x0 + 1).toNat), 0)) := by
  obtain ⟨x0, x1, ex, cx⟩ := columns_in z s n a c hz es en a0 a1 a2
  obtain ⟨y0, y1, ey, cy⟩ := columns_in z s n b d hz es en b0 b1 b2
  obtain ⟨i0, i1, i2, -⟩ := col_bounds z s n a c x0 x1 hz cx a0 a1 a2
  obtain ⟨j0, j1, j2, -⟩ := col_bounds z s n b d y0 y1 hz cy b0 b1 b2
  have hs : 0 < s ∧ n ≤ 1024 := by unfold Sides at hz; omega
  have hok : box_Ok.f a b c d = some true := by
    unfold box_Ok.f
    rw [ok_in a b (by omega) (by omega) (by omega) (by omega), Option.bind_some, if_pos rfl, ok_in c d (by omega) (by omega) (by omega) (by omega), Option.bind_some, if_pos rfl, if_pos a1, decide_eq_true b1]
  have pr : 0 ≤ (x1 - x0 + 1) * (y1 - y0 + 1) ∧ (x1 - x0 + 1) * (y1 - y0 + 1) ≤ 1048576 := by
    have q1 := Int.mul_nonneg (show 0 ≤ x1 - x0 + 1 by omega) (show 0 ≤ y1 - y0 + 1 by omega)
    have q2 := Int.mul_le_mul (show x1 - x0 + 1 ≤ 1024 by omega) (show y1 - y0 + 1 ≤ 1024 by omega) (show 0 ≤ y1 - y0 + 1 by omega) (show (0:Int) ≤ 1024 by decide)
    omega
  refine ⟨x0, x1, y0, y1, cx, cy, ?_, ?_⟩
  · intro hgt k
    unfold tile_All.f
    rw [es, Option.bind_some, if_neg (by omega), hok, Option.bind_some, tile_All.j0, if_neg (by simp), ex, Option.bind_some, ey, Option.bind_some]
    dsimp only
    rw [wrap_id (x := x1 - x0) (by omega) (by omega), wrap_id (x := y1 - y0) (by omega) (by omega), wrap_id (x := x1 - x0 + 1) (by omega) (by omega), wrap_id (x := y1 - y0 + 1) (by omega) (by omega), wrap_id (by omega) (by omega), if_pos hgt]
  · intro hle k hk
    obtain ⟨k, rfl⟩ : ∃ m, k = m + 1 := ⟨k - 1, by omega⟩
    unfold tile_All.f
    rw [es, Option.bind_some, if_neg (by omega), hok, Option.bind_some, tile_All.j0, if_neg (by simp), ex, Option.bind_some, ey, Option.bind_some]
    dsimp only
    rw [wrap_id (x := x1 - x0) (by omega) (by omega), wrap_id (x := y1 - y0) (by omega) (by omega), wrap_id (x := x1 - x0 + 1) (by omega) (by omega), wrap_id (x := y1 - y0 + 1) (by omega) (by omega), wrap_id (by omega) (by omega), if_neg (by omega)]
    obtain ⟨w, hw⟩ : ∃ w : Nat, (x1 - x0 + 1).toNat = w := ⟨_, rfl⟩
    obtain ⟨h, hh⟩ : ∃ h : Nat, (y1 - y0 + 1).toNat = h := ⟨_, rfl⟩
    have ew : (w : Int) = x1 - x0 + 1 := by omega
    have eh : (h : Int) = y1 - y0 + 1 := by omega
    have hwh : w * h ≤ 1048576 := by
      have : ((w * h : Nat) : Int) ≤ 1048576 := by rw [Int.natCast_mul, ew, eh]; omega
      omega
    have fuel : h * (w + 2) < k := by
      have : h * (w + 2) = w * h + 2 * h := by rw [Nat.mul_add, Nat.mul_comm h w, Nat.mul_comm h 2]
      omega
    have := all_rows z x0 y0 w h (by omega) (by omega) (by omega) hwh h k 0 (by omega) fuel
    rw [Nat.zero_mul, show y0 + ((0 : Nat) : Int) = y0 by omega, show x0 + (w : Int) - 1 = x1 by omega, show y0 + (h : Int) - 1 = y1 by omega] at this
    rw [hw, hh]
    exact this
end Go.Proofs.Ytojehbkadlmbjaa.U

