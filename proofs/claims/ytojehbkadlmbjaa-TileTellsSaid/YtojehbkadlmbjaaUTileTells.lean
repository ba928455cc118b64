/- The plain law of TileTells: sides, boxes, parents and children of tiles are those that halving gives. No condition but those stated. -/
import Derived.Test.YtojehbkadlmbjaaUTt
import Derived.Test.YtojehbkadlmbjaaQf35
import Derived.Test.YtojehbkadlmbjaaQf36
import Derived.Test.YtojehbkadlmbjaaQf37
import Derived.Test.YtojehbkadlmbjaaQf38
import Derived.Test.YtojehbkadlmbjaaQf39
import Derived.Test.YtojehbkadlmbjaaQf40
import Derived.Test.YtojehbkadlmbjaaQf41
import Derived.Test.YtojehbkadlmbjaaQf42
import Derived.Test.YtojehbkadlmbjaaQf43
namespace Go.Proofs.Ytojehbkadlmbjaa.U
set_option linter.unusedSimpArgs false
set_option linter.unusedVariables false
open Go.RowKit Go.Proofs.Ytojehbkadlmbjaa.Q Go.Proofs.YtojehbkadlmbjaaW.PrintWords Go.Proofs.YtojehbkadlmbjaaW.PrintLast Go.Proofs.YtojehbkadlmbjaaW.PrintMore
/-- From some count of rounds on, g answers r. -/
def Is {α : Type} (g : Nat → Option α) (r : α) : Prop := ∃ K, ∀ k, K ≤ k → g k = some r
theorem Is.pure {α : Type} (r : α) : Is (fun _ => some r) r := ⟨0, fun _ _ => rfl⟩
theorem Is.of {α : Type} {g : Option α} {r : α} (h : g = some r) : Is (fun _ => g) r := ⟨0, fun _ _ => h⟩
theorem Is.bind {α β : Type} {g : Nat → Option α} {f : Nat → α → Option β} {r : α} {s : β} (h : Is g r) (hf : Is (fun k => f k r) s) : Is (fun k => (g k).bind (f k)) s := by
  obtain ⟨K, hK⟩ := h
  obtain ⟨K', hK'⟩ := hf
  exact ⟨K + K', fun k hk => by show (g k).bind (f k) = some s; rw [hK k (by omega), Option.bind_some]; exact hK' k (by omega)⟩
theorem Is.pos {β : Type} {c : Prop} [Decidable c] {f g : Nat → Option β} {r : β} (hc : c) (h : Is f r) : Is (fun k => if c then f k else g k) r := by simpa only [if_pos hc] using h
theorem Is.neg {β : Type} {c : Prop} [Decidable c] {f g : Nat → Option β} {r : β} (hc : ¬ c) (h : Is g r) : Is (fun k => if c then f k else g k) r := by simpa only [if_neg hc] using h
theorem Is.step {α : Type} {g f : Nat → Option α} {r : α} (h : Is f r) (e : ∀ k, g (k + 1) = f k) : Is g r := by
  obtain ⟨K, hK⟩ := h
  refine ⟨K + 1, fun k hk => ?_⟩
  obtain ⟨m, rfl⟩ : ∃ m, k = m + 1 := ⟨k - 1, by omega⟩
  rw [e]; exact hK m (by omega)
/-! ### zooms as natural numbers -/
def pw (i : Nat) : Int := ((2 ^ i : Nat) : Int)
def sd (i : Nat) : Int := ((2 ^ (21 - i) : Nat) : Int)
theorem upto {i : Nat} (h : i ≤ 10) : i = 0 ∨ i = 1 ∨ i = 2 ∨ i = 3 ∨ i = 4 ∨ i = 5 ∨ i = 6 ∨ i = 7 ∨ i = 8 ∨ i = 9 ∨ i = 10 := by omega
theorem shl_pw {i : Nat} (h : i ≤ 10) : shl .i64 1 (i : Int) = pw i := by
  rcases upto h with rfl | rfl | rfl | rfl | rfl | rfl | rfl | rfl | rfl | rfl | rfl <;> rfl
theorem sides_pw {i : Nat} (h : i ≤ 10) : Sides (i : Int) (sd i) (pw i) := by
  rcases upto h with rfl | rfl | rfl | rfl | rfl | rfl | rfl | rfl | rfl | rfl | rfl <;> (unfold Sides; decide)
theorem side_sd {i : Nat} (h : i ≤ 10) : tile_Side.f (i : Int) = some (sd i) := by
  rcases upto h with rfl | rfl | rfl | rfl | rfl | rfl | rfl | rfl | rfl | rfl | rfl <;> rfl
theorem pw_next {i : Nat} (h : i < 10) : wrap64 (pw i * 2) = pw (i + 1) := by
  have : i = 0 ∨ i = 1 ∨ i = 2 ∨ i = 3 ∨ i = 4 ∨ i = 5 ∨ i = 6 ∨ i = 7 ∨ i = 8 ∨ i = 9 := by omega
  rcases this with rfl | rfl | rfl | rfl | rfl | rfl | rfl | rfl | rfl | rfl <;> decide +kernel
theorem sd_half {i : Nat} (h : i < 10) : sd i = 2 * sd (i + 1) ∧ pw (i + 1) = 2 * pw i := by
  have : i = 0 ∨ i = 1 ∨ i = 2 ∨ i = 3 ∨ i = 4 ∨ i = 5 ∨ i = 6 ∨ i = 7 ∨ i = 8 ∨ i = 9 := by omega
  rcases this with rfl | rfl | rfl | rfl | rfl | rfl | rfl | rfl | rfl | rfl <;> decide +kernel
theorem sd_rng {i : Nat} (h : i ≤ 10) : 2048 ≤ sd i ∧ sd i ≤ 2097152 ∧ 1 ≤ pw i ∧ pw i ≤ 1024 ∧ pw i * sd i = 2097152 := by
  rcases upto h with rfl | rfl | rfl | rfl | rfl | rfl | rfl | rfl | rfl | rfl | rfl <;> decide +kernel
theorem quo_sd {i : Nat} (h : i ≤ 10) : wrap64 (Int.tdiv 2097152 (shl .i64 1 (i : Int))) = sd i := by
  rcases upto h with rfl | rfl | rfl | rfl | rfl | rfl | rfl | rfl | rfl | rfl | rfl <;> decide +kernel
/-! ### a tile that exists -/
def okP (z x y : Int) : Prop := 0 ≤ z ∧ z ≤ 10 ∧ 0 ≤ x ∧ 0 ≤ y ∧ x < shl .i64 1 z ∧ y < shl .i64 1 z
instance (z x y : Int) : Decidable (okP z x y) := by unfold okP; infer_instance
theorem tok_all (z x y : Int) : tile_Ok.f z x y = some (decide (okP z x y)) := by
  unfold tile_Ok.f
  by_cases c : 0 ≤ z ∧ z ≤ 10
  · obtain ⟨s, n, hs, es, en⟩ := sides z c.1 c.2
    have h0 : s > 0 := by unfold Sides at hs; omega
    rw [es, Option.bind_some, if_pos h0]
    by_cases c2 : mn x y ≥ 0
    · rw [if_pos c2, if_pos c.1]
      congr 1
      apply decide_eq_decide.2
      unfold okP
      rw [en]
      unfold mn at c2
      unfold mx
      split at c2 <;> split <;> omega
    · rw [if_neg c2]
      congr 1
      symm
      apply decide_eq_false
      unfold okP
      unfold mn at c2
      split at c2 <;> omega
  · rw [side_out z (by omega), Option.bind_some, if_neg (by decide)]
    congr 1
    symm
    exact decide_eq_false (by unfold okP; omega)
theorem tileok_l0 (z : Nat) (hz : z ≤ 10) (x y : Int) : ∀ (d i : Nat), i + d = z → Is (fun k => terrref5_TileOk.l0 k (pw i) (z : Int) (i : Int) (z : Int) x y) (decide (okP (z : Int) x y))
  | 0, i, hi => by
    obtain rfl : i = z := by omega
    have e := shl_pw hz
    by_cases c1 : x ≥ 0
    case neg =>
      rw [decide_eq_false (show ¬ okP (i : Int) x y by unfold okP; omega)]
      exact Is.step (Is.pure _) (fun k => by rw [terrref5_TileOk.l0, if_neg (by omega), if_neg c1])
    by_cases c2 : y ≥ 0
    case neg =>
      rw [decide_eq_false (show ¬ okP (i : Int) x y by unfold okP; omega)]
      exact Is.step (Is.pure _) (fun k => by rw [terrref5_TileOk.l0, if_neg (by omega), if_pos c1, if_neg c2])
    by_cases c3 : x < pw i
    case neg =>
      rw [decide_eq_false (show ¬ okP (i : Int) x y by unfold okP; rw [e]; omega)]
      exact Is.step (Is.pure _) (fun k => by rw [terrref5_TileOk.l0, if_neg (by omega), if_pos c1, if_pos c2, if_neg c3])
    rw [show decide (okP (i : Int) x y) = decide (y < pw i) from decide_eq_decide.2 (by unfold okP; rw [e]; omega)]
    exact Is.step (Is.pure _) (fun k => by rw [terrref5_TileOk.l0, if_neg (by omega), if_pos c1, if_pos c2, if_pos c3])
  | d + 1, i, hi => by
    refine Is.step (tileok_l0 z hz x y d (i + 1) (by omega)) (fun k => ?_)
    rw [terrref5_TileOk.l0, if_pos (by omega), pw_next (by omega), wrap_id (x := (i : Int) + 1) (by omega) (by omega)]
    rfl
theorem tileok_all (z x y : Int) : Is (fun k => terrref5_TileOk.f k z x y) (decide (okP z x y)) := by
  unfold terrref5_TileOk.f
  by_cases c : z < 0
  · rw [decide_eq_false (show ¬ okP z x y by unfold okP; omega)]
    exact Is.pos c (Is.step (Is.pure _) (fun k => by rw [terrref5_TileOk.j0, if_pos rfl]))
  refine Is.neg c ?_
  by_cases c2 : z > 10
  · rw [decide_eq_false (show ¬ okP z x y by unfold okP; omega)]
    exact Is.step (Is.pure _) (fun k => by rw [terrref5_TileOk.j0, if_pos (decide_eq_true c2)])
  obtain ⟨i, rfl⟩ : ∃ i : Nat, z = (i : Int) := ⟨z.toNat, by omega⟩
  exact Is.step (tileok_l0 i (by omega) x y i 0 (by omega)) (fun k => by rw [terrref5_TileOk.j0, if_neg (by rw [decide_eq_true_iff]; exact c2)]; rfl)
/-! ### boxes by halving -/
def low (s : Int) (x : Nat) (j : Nat) : Int := ((x / 2 ^ j : Nat) : Int) * (s * pw j) - 1048576
theorem pw_pos (j : Nat) : 0 < pw j := Int.natCast_pos.mpr (Nat.pow_pos (by decide))
theorem pw_mono {j z : Nat} (h : j ≤ z) : pw j ≤ pw z := Int.ofNat_le.2 (Nat.pow_le_pow_right (by decide) h)
theorem pw_succ (j : Nat) : pw (j + 1) = 2 * pw j := by unfold pw; rw [Nat.pow_succ]; omega
theorem bit (x j : Nat) : x / 2 ^ j = 2 * (x / 2 ^ (j + 1)) + (x / 2 ^ j) % 2 := by
  rw [Nat.pow_succ, ← Nat.div_div_eq_div_mul]; omega
theorem low_half (s : Int) (x j : Nat) : low s x j = low s x (j + 1) + (((x / 2 ^ j) % 2 : Nat) : Int) * (s * pw j) := by
  have e : ((x / 2 ^ j : Nat) : Int) = 2 * ((x / 2 ^ (j + 1) : Nat) : Int) + (((x / 2 ^ j) % 2 : Nat) : Int) := by have := bit x j; omega
  unfold low
  rw [pw_succ]
  generalize hq : ((x / 2 ^ (j + 1) : Nat) : Int) = q at e
  generalize hb : (((x / 2 ^ j) % 2 : Nat) : Int) = b at e
  rw [e, Int.add_mul, show s * (2 * pw j) = 2 * (s * pw j) by rw [Int.mul_left_comm], Int.mul_left_comm q, Int.mul_assoc]
  omega
theorem low_rng {s : Int} {x z : Nat} (j : Nat) (hs : 0 ≤ s) (hx : ((x : Nat) : Int) * s ≤ 2097152) : -1048576 ≤ low s x j ∧ low s x j ≤ 1048576 := by
  unfold low
  have e : ((x / 2 ^ j : Nat) : Int) * (s * pw j) = ((x / 2 ^ j * 2 ^ j : Nat) : Int) * s := by
    unfold pw
    rw [Int.natCast_mul, Int.mul_comm s, ← Int.mul_assoc]
  have h1 : x / 2 ^ j * 2 ^ j ≤ x := Nat.div_mul_le_self _ _
  have h2 : ((x / 2 ^ j * 2 ^ j : Nat) : Int) * s ≤ (x : Int) * s := Int.mul_le_mul_of_nonneg_right (by omega) hs
  have h3 : 0 ≤ ((x / 2 ^ j * 2 ^ j : Nat) : Int) * s := Int.mul_nonneg (by omega) hs
  rw [e]
  omega
theorem tdiv_pw (x j : Nat) (hx : x ≤ 1024) : wrap64 (Int.tdiv (x : Int) (pw j)) = ((x / 2 ^ j : Nat) : Int) := by
  have e : Int.tdiv (x : Int) (pw j) = ((x / 2 ^ j : Nat) : Int) := by
    rw [Int.tdiv_eq_ediv_of_nonneg (by omega)]; unfold pw; rfl
  have h := Nat.div_le_self x (2 ^ j)
  rw [e]
  generalize x / 2 ^ j = q at h ⊢
  exact wrap_id (by omega) (by omega)
theorem tmod_two (q : Nat) : Int.tmod (q : Int) 2 = ((q % 2 : Nat) : Int) := by rw [Int.tmod_eq_emod_of_nonneg (by omega)]; omega
theorem box_end (k : Nat) (z x y A i lx LX ly LY : Int) (b c : Nat) (hb : b = 0 ∨ b = 1) (hc : c = 0 ∨ c = 1) (hx : lx = LX + (b : Int) * A) (hy : ly = LY + (c : Int) * A) (rx : -1048576 ≤ lx ∧ lx ≤ 1048576) (ry : -1048576 ≤ ly ∧ ly ≤ 1048576) :
    (if (b : Int) = 1 then (if (c : Int) = 1 then (terrref5_TileBox.l0 k A i z x y (wrap64 (LX + A)) (wrap64 (LY + A))) else (terrref5_TileBox.l0 k A i z x y (wrap64 (LX + A)) LY)) else (if (c : Int) = 1 then (terrref5_TileBox.l0 k A i z x y LX (wrap64 (LY + A))) else (terrref5_TileBox.l0 k A i z x y LX LY))) = terrref5_TileBox.l0 k A i z x y lx ly := by
  have px : b = 1 → wrap64 (LX + A) = lx := by
    intro e
    rw [e, Int.natCast_one, Int.one_mul] at hx
    rw [← hx, wrap_id (by omega) (by omega)]
  have py : c = 1 → wrap64 (LY + A) = ly := by
    intro e
    rw [e, Int.natCast_one, Int.one_mul] at hy
    rw [← hy, wrap_id (by omega) (by omega)]
  have qx : b = 0 → LX = lx := by
    intro e
    rw [e, Int.natCast_zero, Int.zero_mul, Int.add_zero] at hx
    exact hx.symm
  have qy : c = 0 → LY = ly := by
    intro e
    rw [e, Int.natCast_zero, Int.zero_mul, Int.add_zero] at hy
    exact hy.symm
  rcases hb with hb | hb <;> rcases hc with hc | hc
  · rw [if_neg (by omega), if_neg (by omega), qx hb, qy hc]
  · rw [if_neg (by omega), if_pos (by omega), qx hb, py hc]
  · rw [if_pos (by omega), if_neg (by omega), px hb, qy hc]
  · rw [if_pos (by omega), if_pos (by omega), px hb, py hc]
theorem box_l0 (z x y : Nat) (hz : z ≤ 10) (hx : (x : Int) < pw z) (hy : (y : Int) < pw z) : ∀ j : Nat, j ≤ z → Is (fun k => terrref5_TileBox.l0 k (sd z * pw j) ((j : Int) - 1) (z : Int) (x : Int) (y : Int) (low (sd z) x j) (low (sd z) y j)) ((x : Int) * sd z - 1048576, (y : Int) * sd z - 1048576, (x : Int) * sd z - 1048576 + sd z, (y : Int) * sd z - 1048576 + sd z) := by
  intro j
  induction j with
  | zero =>
    intro hj
    have r := sd_rng hz
    have bx : (x : Int) * sd z ≤ 2097152 := by have := Int.mul_le_mul_of_nonneg_right (show (x : Int) ≤ pw z by omega) (show 0 ≤ sd z by omega); omega
    have b'y : (y : Int) * sd z ≤ 2097152 := by have := Int.mul_le_mul_of_nonneg_right (show (y : Int) ≤ pw z by omega) (show 0 ≤ sd z by omega); omega
    have bx0 : 0 ≤ (x : Int) * sd z := Int.mul_nonneg (by omega) (by omega)
    have by0 : 0 ≤ (y : Int) * sd z := Int.mul_nonneg (by omega) (by omega)
    have p0 : pw 0 = 1 := rfl
    have e1 : low (sd z) x 0 = (x : Int) * sd z - 1048576 := by unfold low; rw [p0, Int.mul_one, Nat.pow_zero, Nat.div_one]
    have e2 : low (sd z) y 0 = (y : Int) * sd z - 1048576 := by unfold low; rw [p0, Int.mul_one, Nat.pow_zero, Nat.div_one]
    rw [e1, e2, p0, Int.mul_one]
    refine Is.step (Is.pure _) (fun k => ?_)
    rw [terrref5_TileBox.l0, if_neg (by decide), wrap_id (x := (x : Int) * sd z - 1048576 + sd z) (by omega) (by omega), wrap_id (x := (y : Int) * sd z - 1048576 + sd z) (by omega) (by omega)]
  | succ j ih =>
    intro hj
    have r := sd_rng hz
    have hn : x ≤ 1024 ∧ y ≤ 1024 := by omega
    have bx : (x : Int) * sd z ≤ 2097152 := by have := Int.mul_le_mul_of_nonneg_right (show (x : Int) ≤ pw z by omega) (show 0 ≤ sd z by omega); omega
    have b'y : (y : Int) * sd z ≤ 2097152 := by have := Int.mul_le_mul_of_nonneg_right (show (y : Int) ≤ pw z by omega) (show 0 ≤ sd z by omega); omega
    have ih := ih (by omega)
    have hA : sd z * pw (j + 1) = 2 * (sd z * pw j) := by rw [pw_succ, Int.mul_left_comm]
    have rA : 0 ≤ sd z * pw j ∧ sd z * pw j ≤ 2097152 := by
      refine ⟨Int.mul_nonneg (by omega) (Int.le_of_lt (pw_pos j)), ?_⟩
      have : pw j ≤ pw z := pw_mono (by omega)
      have := Int.mul_le_mul_of_nonneg_left this (show 0 ≤ sd z by omega)
      rw [Int.mul_comm (sd z) (pw z)] at this
      omega
    have hs : wrap64 (Int.tdiv (sd z * pw (j + 1)) 2) = sd z * pw j := by rw [hA, tdiv_two, wrap_id (by omega) (by omega)]
    have lx1 := low_rng (z := z) j (show 0 ≤ sd z by omega) bx
    have ly1 := low_rng (z := z) j (show 0 ≤ sd z by omega) b'y
    have hlx := low_half (sd z) x j
    have hly := low_half (sd z) y j
    have hj0 : ((j + 1 : Nat) : Int) - 1 = (j : Int) := by omega
    have wj : wrap64 ((j : Int) - 1) = (j : Int) - 1 := wrap_id (by omega) (by omega)
    have hp : shl .i64 1 (j : Int) = pw j := shl_pw (by omega)
    have hp0 : ¬ pw j = 0 := by have := pw_pos j; omega
    refine Is.step ih (fun k => ?_)
    rw [terrref5_TileBox.l0, hj0, hp, if_pos (by omega), if_pos (by omega), if_neg hp0, tdiv_pw x j hn.1, tdiv_pw y j hn.2, tmod_two, tmod_two, hs, wj]
    have mx : (x / 2 ^ j) % 2 = 0 ∨ (x / 2 ^ j) % 2 = 1 := by omega
    have my : (y / 2 ^ j) % 2 = 0 ∨ (y / 2 ^ j) % 2 = 1 := by omega
    generalize hA2 : sd z * pw j = A at *
    generalize ha1 : low (sd z) x (j + 1) = LX at *
    generalize ha2 : low (sd z) y (j + 1) = LY at *
    generalize ha3 : low (sd z) x j = lx at *
    generalize ha4 : low (sd z) y j = ly at *
    exact box_end k (z : Int) (x : Int) (y : Int) A ((j : Int) - 1) lx LX ly LY ((x / 2 ^ j) % 2) ((y / 2 ^ j) % 2) mx my hlx hly lx1 ly1
theorem box_all (z x y : Nat) (hz : z ≤ 10) (hx : (x : Int) < pw z) (hy : (y : Int) < pw z) : Is (fun k => terrref5_TileBox.f k (z : Int) (x : Int) (y : Int)) ((x : Int) * sd z - 1048576, (y : Int) * sd z - 1048576, (x : Int) * sd z - 1048576 + sd z, (y : Int) * sd z - 1048576 + sd z) := by
  have h := box_l0 z x y hz hx hy z (Nat.le_refl _)
  have lo : ∀ v : Nat, (v : Int) < pw z → low (sd z) v z = -1048576 := by
    intro v hv
    have hv2 : v < 2 ^ z := by unfold pw at hv; exact Int.ofNat_lt.1 hv
    unfold low
    rw [Nat.div_eq_of_lt hv2]
    simp
  have hw : wrap64 ((z : Int) - 1) = (z : Int) - 1 := wrap_id (by omega) (by omega)
  have hs : sd z * pw z = 2097152 := by have := (sd_rng hz).2.2.2.2; rw [Int.mul_comm]; exact this
  rw [lo x hx, lo y hy, hs] at h
  unfold terrref5_TileBox.f
  rw [hw]
  exact h
/-! ### the tile of a point -/
def cl (p : Int) : Int := mx (-1048576) (mn p 1048576)
theorem cl_rng (p : Int) : -1048576 ≤ cl p ∧ cl p ≤ 1048576 := by unfold cl mx mn; split <;> split <;> omega
theorem cl_id {p : Int} (h0 : -1048576 ≤ p) (h1 : p ≤ 1048576) : cl p = p := by unfold cl mx mn; split <;> split <;> omega
theorem cl_eq {p : Int} : cl p = p ↔ -1048576 ≤ p ∧ p ≤ 1048576 := by
  refine ⟨fun h => ?_, fun h => cl_id h.1 h.2⟩
  have := cl_rng p
  omega
theorem limit_all (p : Int) : point_limit.f p 1048576 = some (cl p) := by
  unfold point_limit.f cl
  rw [wrap_id (by decide) (by decide)]
theorem clamp_all (x y : Int) : point_Clamp.f x y = some (cl x, cl y) := by
  unfold point_Clamp.f
  rw [limit_all, Option.bind_some, limit_all, Option.bind_some]
def vP (x y : Int) : Prop := -1048576 ≤ x ∧ x ≤ 1048576 ∧ -1048576 ≤ y ∧ y ≤ 1048576
instance (x y : Int) : Decidable (vP x y) := by unfold vP; infer_instance
theorem pok_all (x y : Int) : point_Ok.f x y = some (decide (vP x y)) := by
  unfold point_Ok.f
  rw [clamp_all, Option.bind_some]
  congr 1
  rw [Bool.eq_iff_iff, Bool.and_eq_true, beq_iff_eq, beq_iff_eq, decide_eq_true_iff]
  unfold vP
  have h1 := @cl_eq x
  have h2 := @cl_eq y
  constructor
  · rintro ⟨a, b⟩; have := h1.1 a.symm; have := h2.1 b.symm; omega
  · rintro ⟨a, b, c, d⟩; exact ⟨(h1.2 ⟨a, b⟩).symm, (h2.2 ⟨c, d⟩).symm⟩
theorem valid_all (x y : Int) : terrref5_Valid.f x y = some (decide (vP x y)) := by
  unfold terrref5_Valid.f
  by_cases c1 : (-1048576) ≤ x
  case neg => rw [if_neg c1, decide_eq_false (show ¬ vP x y by unfold vP; omega)]
  by_cases c2 : x ≤ 1048576
  case neg => rw [if_pos c1, if_neg c2, decide_eq_false (show ¬ vP x y by unfold vP; omega)]
  by_cases c3 : (-1048576) ≤ y
  case neg => rw [if_pos c1, if_pos c2, if_neg c3, decide_eq_false (show ¬ vP x y by unfold vP; omega)]
  rw [if_pos c1, if_pos c2, if_pos c3]
  congr 1
  exact decide_eq_decide.2 (by unfold vP; omega)
def at' (i : Nat) (p : Int) : Int := min (pw i - 1) ((p + 1048576) / sd i)
theorem at_zero {p : Int} (h0 : -1048576 ≤ p) (h1 : p ≤ 1048576) : at' 0 p = 0 := by
  unfold at'
  rw [show pw 0 = 1 from rfl, show sd 0 = 2097152 from rfl]; omega
theorem at_rng {i : Nat} (hi : i ≤ 10) {p : Int} (h0 : -1048576 ≤ p) (h1 : p ≤ 1048576) : 0 ≤ at' i p ∧ at' i p < pw i := by
  have r := sd_rng hi
  have : 0 ≤ (p + 1048576) / sd i := Int.ediv_nonneg (by omega) (by omega)
  unfold at'
  omega
theorem half_step {n h P : Int} (hh : 0 < h) (hn : 1 ≤ n) (h0 : 0 ≤ P) (hP : P ≤ n * (2 * h)) : (min (n - 1) (P / (2 * h)) * (2 * h) + h ≤ P → 2 * min (n - 1) (P / (2 * h)) + 1 = min (2 * n - 1) (P / h)) ∧ (P < min (n - 1) (P / (2 * h)) * (2 * h) + h → 2 * min (n - 1) (P / (2 * h)) = min (2 * n - 1) (P / h)) := by
  have d : P / (2 * h) = P / h / 2 := by rw [Int.mul_comm 2 h, Int.ediv_ediv, if_neg (by omega)]; omega
  rw [d]
  generalize hm : P / h = m
  have m0 : 0 ≤ m := by rw [← hm]; exact Int.ediv_nonneg h0 (by omega)
  have m1 : m ≤ 2 * n := by
    rw [← hm]
    have : P ≤ (2 * n) * h := by rw [Int.mul_comm 2 n, Int.mul_assoc]; exact hP
    have h2 := Int.ediv_le_ediv hh this
    rw [Int.mul_ediv_cancel _ (by omega)] at h2
    exact h2
  generalize ha : min (n - 1) (m / 2) = a
  have key : a * (2 * h) + h ≤ P ↔ 2 * a + 1 ≤ m := by
    rw [← hm, Int.le_ediv_iff_mul_le hh, Int.add_mul, Int.one_mul, Int.mul_comm 2 a, Int.mul_assoc]
  constructor
  · intro c; have := key.1 c; omega
  · intro c
    have : ¬ 2 * a + 1 ≤ m := fun h' => by have := key.2 h'; omega
    omega
theorem at_next {i : Nat} (hi : i < 10) {p : Int} (h0 : -1048576 ≤ p) (h1 : p ≤ 1048576) : (at' i p * sd i - 1048576 + sd (i + 1) ≤ p → 2 * at' i p + 1 = at' (i + 1) p) ∧ (p < at' i p * sd i - 1048576 + sd (i + 1) → 2 * at' i p = at' (i + 1) p) := by
  obtain ⟨e1, e2⟩ := sd_half hi
  have r := sd_rng (show i ≤ 10 by omega)
  have r' := sd_rng (show i + 1 ≤ 10 by omega)
  have k := half_step (n := pw i) (h := sd (i + 1)) (P := p + 1048576) (by omega) (by omega) (by omega) (by rw [← e1, r.2.2.2.2]; omega)
  rw [← e1, ← e2] at k
  unfold at'
  exact ⟨fun c => k.1 (by omega), fun c => k.2 (by omega)⟩
theorem of_l0 (z : Nat) (hz : z ≤ 10) (px py : Int) (h0 : -1048576 ≤ px) (h1 : px ≤ 1048576) (h2 : -1048576 ≤ py) (h3 : py ≤ 1048576) : ∀ (d i : Nat), i + d = z → Is (fun k => terrref5_TileOf.l0 k (z : Int) px py (i : Int) (at' i px) (at' i py)) ((z : Int), at' z px, at' z py) := by
  intro d
  induction d with
  | zero =>
    intro i hi
    obtain rfl : i = z := by omega
    exact Is.step (Is.pure _) (fun k => by rw [terrref5_TileOf.l0, if_neg (by omega)])
  | succ d ih =>
    intro i hi
    have ih := ih (i + 1) (by omega)
    have ax := at_rng (show i ≤ 10 by omega) h0 h1
    have ay := at_rng (show i ≤ 10 by omega) h2 h3
    have nx := at_next (show i < 10 by omega) h0 h1
    have ny := at_next (show i < 10 by omega) h2 h3
    have r := sd_rng (show i ≤ 10 by omega)
    have r' := sd_rng (show i + 1 ≤ 10 by omega)
    obtain ⟨e1, -⟩ := sd_half (show i < 10 by omega)
    obtain ⟨a, ha⟩ : ∃ a : Nat, at' i px = (a : Int) := ⟨(at' i px).toNat, by omega⟩
    obtain ⟨b, hb⟩ : ∃ b : Nat, at' i py = (b : Int) := ⟨(at' i py).toNat, by omega⟩
    have hB := box_all i a b (by omega) (by omega) (by omega)
    rw [ha] at nx ax ⊢
    rw [hb] at ny ay ⊢
    have bx : (a : Int) * sd i ≤ 2097152 := by have := Int.mul_le_mul_of_nonneg_right (show (a : Int) ≤ pw i by omega) (show 0 ≤ sd i by omega); omega
    have b'y : (b : Int) * sd i ≤ 2097152 := by have := Int.mul_le_mul_of_nonneg_right (show (b : Int) ≤ pw i by omega) (show 0 ≤ sd i by omega); omega
    have bx0 : 0 ≤ (a : Int) * sd i := Int.mul_nonneg (by omega) (by omega)
    have by0 : 0 ≤ (b : Int) * sd i := Int.mul_nonneg (by omega) (by omega)
    generalize hX : (a : Int) * sd i = X at *
    generalize hY : (b : Int) * sd i = Y at *
    have mid : ∀ v : Int, 0 ≤ v → v ≤ 2097152 → wrap64 (Int.tdiv (wrap64 (v - 1048576 + (v - 1048576 + sd i))) 2) = v - 1048576 + sd (i + 1) := by
      intro v v0 v1
      rw [wrap_id (x := v - 1048576 + (v - 1048576 + sd i)) (by omega) (by omega), show v - 1048576 + (v - 1048576 + sd i) = 2 * (v - 1048576 + sd (i + 1)) by omega, tdiv_two, wrap_id (by omega) (by omega)]
    have wi : wrap64 ((i : Int) + 1) = ((i + 1 : Nat) : Int) := by rw [wrap_id (by omega) (by omega)]; omega
    have wa : wrap64 (2 * (a : Int)) = 2 * (a : Int) := wrap_id (by omega) (by omega)
    have wb : wrap64 (2 * (b : Int)) = 2 * (b : Int) := wrap_id (by omega) (by omega)
    have wa1 : wrap64 (2 * (a : Int) + 1) = 2 * (a : Int) + 1 := wrap_id (by omega) (by omega)
    have wb1 : wrap64 (2 * (b : Int) + 1) = 2 * (b : Int) + 1 := wrap_id (by omega) (by omega)
    obtain ⟨K1, k1⟩ := hB
    obtain ⟨K2, k2⟩ := ih
    refine ⟨K1 + K2 + 1, fun k hk => ?_⟩
    obtain ⟨k, rfl⟩ : ∃ j, k = j + 1 := ⟨k - 1, by omega⟩
    have g1 : terrref5_TileBox.f k (i : Int) (a : Int) (b : Int) = _ := k1 k (by omega)
    have g2 : terrref5_TileOf.l0 k (z : Int) px py ((i + 1 : Nat) : Int) (at' (i + 1) px) (at' (i + 1) py) = _ := k2 k (by omega)
    show terrref5_TileOf.l0 (k + 1) (z : Int) px py (i : Int) (a : Int) (b : Int) = _
    rw [terrref5_TileOf.l0, if_pos (by omega), g1, Option.bind_some]
    dsimp only
    rw [mid X bx0 bx, mid Y by0 b'y, wi, wa, wb, wa1, wb1]
    by_cases c1 : px ≥ X - 1048576 + sd (i + 1) <;> by_cases c2 : py ≥ Y - 1048576 + sd (i + 1)
    · rw [if_pos c1, if_pos c2, nx.1 c1, ny.1 c2]; exact g2
    · rw [if_pos c1, if_neg c2, nx.1 c1, ny.2 (by omega)]; exact g2
    · rw [if_neg c1, if_pos c2, nx.2 (by omega), ny.1 c2]; exact g2
    · rw [if_neg c1, if_neg c2, nx.2 (by omega), ny.2 (by omega)]; exact g2
theorem of_all (z : Nat) (hz : z ≤ 10) (px py : Int) (h0 : -1048576 ≤ px) (h1 : px ≤ 1048576) (h2 : -1048576 ≤ py) (h3 : py ≤ 1048576) : Is (fun k => terrref5_TileOf.f k px py (z : Int)) ((z : Int), at' z px, at' z py) := by
  have h := of_l0 z hz px py h0 h1 h2 h3 z 0 (by omega)
  rw [at_zero h0 h1, at_zero h2 h3] at h
  exact h
theorem of_good (z : Nat) (hz : z ≤ 10) (px py : Int) (h0 : -1048576 ≤ px) (h1 : px ≤ 1048576) (h2 : -1048576 ≤ py) (h3 : py ≤ 1048576) : tile_Of.f px py (z : Int) = some ((z : Int), at' z px, at' z py, 0) := by
  obtain ⟨a, b, e, _, _, _, _, ha, hb⟩ := of_in px py z (sd z) (pw z) (sides_pw hz) (side_sd hz) (shl_pw hz) h0 h1 h2 h3
  rw [e]
  subst ha hb
  rfl
theorem of_bad (z px py : Int) (h : ¬ (0 ≤ z ∧ z ≤ 10) ∨ ¬ vP px py) : tile_Of.f px py z = some (0, 0, 0, 1) := by
  unfold tile_Of.f
  by_cases c : 0 ≤ z ∧ z ≤ 10
  · obtain ⟨s, n, hs, es, en⟩ := sides z c.1 c.2
    have h0 : ¬ s = 0 := by unfold Sides at hs; omega
    rw [es, Option.bind_some, if_neg h0, pok_all, Option.bind_some, if_neg (by rw [decide_eq_true_iff]; exact h.resolve_left (fun h' => h' c))]
  · rw [side_out z (by omega), Option.bind_some, if_pos rfl]
end Go.Proofs.Ytojehbkadlmbjaa.U
