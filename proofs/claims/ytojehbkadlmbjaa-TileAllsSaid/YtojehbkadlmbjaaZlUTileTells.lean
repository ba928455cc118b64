/- The plain law of TileTells: sides, boxes, parents and children of tiles are those that halving gives. No condition but those stated. -/
import Derived.Test.YtojehbkadlmbjaaZlUTt
import Derived.Test.YtojehbkadlmbjaaZlQ0
import Derived.Test.YtojehbkadlmbjaaZlQf36
import Derived.Test.YtojehbkadlmbjaaZlQf29
import Derived.Test.YtojehbkadlmbjaaZlQf41
import Derived.Test.YtojehbkadlmbjaaZlQf45
import Derived.Test.YtojehbkadlmbjaaZlQf43
namespace Go.Proofs.Ytojehbkadlmbjaa.U
set_option linter.unusedSimpArgs false
set_option linter.unusedVariables false
open Go.RowKit Go.Proofs.Ytojehbkadlmbjaa.Q Go.Proofs.YtojehbkadlmbjaaW.PrintWords Go.Proofs.YtojehbkadlmbjaaW.PrintLast Go.Proofs.YtojehbkadlmbjaaW.PrintMore
/-- From some count of rounds on, g answers r. -/
def Is {α : Type} (g : Nat → Option α) (r : α) : Prop := ∃ K, ∀ k, K ≤ k → g k = some r
theorem Is.pure {α : Type} (r : α) : Is (fun _ => some r) r := ⟨0, fun _ _ => rfl⟩
theorem Is.of {α : Type} {g : Option α} {r : α} (h : g = some r) : Is (fun _ => g) r := ⟨0, fun _ _ => h⟩
theorem Is.bind {α β : Type} {g : Nat → Option α} {f : Nat → α → Option β} {r : α} {s : β} (h : Is g r) (hf : Is (fun k => f k r) s) : Is (fun k => (g k).bind (f k)) s := by
  obtain ⟨K, hK⟩ := h
  obtain ⟨K', hK'⟩ := hf
  exact ⟨K + K', fun k hk => by show (g k).bind (f k) = some s; rw [hK k (by omega), Option.bind_some]; exact hK' k (by omega)⟩
theorem Is.pos {β : Type} {c : Prop} [Decidable c] {f g : Nat → Option β} {r : β} (hc : c) (h : Is f r) : Is (fun k => if c then f k else g k) r := by simpa only [if_pos hc] using h
theorem Is.neg {β : Type} {c : Prop} [Decidable c] {f g : Nat → Option β} {r : β} (hc : ¬ c) (h : Is g r) : Is (fun k => if c then f k else g k) r := by simpa only [if_neg hc] using h
theorem Is.step {α : Type} {g f : Nat → Option α} {r : α} (h : Is f r) (e : ∀ k, g (k + 1) = f k) : Is g r := by
  obtain ⟨K, hK⟩ := h
  refine ⟨K + 1, fun k hk => ?_⟩
  obtain ⟨m, rfl⟩ : ∃ m, k = m + 1 := ⟨k - 1, by omega⟩
  rw [e]; exact hK m (by omega)
/-! ### zooms as natural numbers -/
def pw (i : Nat) : Int := ((2 ^ i : Nat) : Int)
def sd (i : Nat) : Int := ((2 ^ (21 - i) : Nat) : Int)
theorem upto {i : Nat} (h : i ≤ 10) : i = 0 ∨ i = 1 ∨ i = 2 ∨ i = 3 ∨ i = 4 ∨ i = 5 ∨ i = 6 ∨ i = 7 ∨ i = 8 ∨ i = 9 ∨ i = 10 := by omega
theorem shl_pw {i : Nat} (h : i ≤ 10) : shl .i64 1 (i : Int) = pw i := by
  rcases upto h with rfl | rfl | rfl | rfl | rfl | rfl | rfl | rfl | rfl | rfl | rfl <;> rfl
theorem sides_pw {i : Nat} (h : i ≤ 10) : Sides (i : Int) (sd i) (pw i) := by
  rcases upto h with rfl | rfl | rfl | rfl | rfl | rfl | rfl | rfl | rfl | rfl | rfl <;> (unfold Sides; decide)
theorem side_sd {i : Nat} (h : i ≤ 10) : tile_Side.f (i : Int) = some (sd i) := by
  rcases upto h with rfl | rfl | rfl | rfl | rfl | rfl | rfl | rfl | rfl | rfl | rfl <;> rfl
theorem sd_half {i : Nat} (h : i < 10) : sd i = 2 * sd (i + 1) ∧ pw (i + 1) = 2 * pw i := by
  have : i = 0 ∨ i = 1 ∨ i = 2 ∨ i = 3 ∨ i = 4 ∨ i = 5 ∨ i = 6 ∨ i = 7 ∨ i = 8 ∨ i = 9 := by omega
  rcases this with rfl | rfl | rfl | rfl | rfl | rfl | rfl | rfl | rfl | rfl <;> decide +kernel
theorem sd_rng {i : Nat} (h : i ≤ 10) : 2048 ≤ sd i ∧ sd i ≤ 2097152 ∧ 1 ≤ pw i ∧ pw i ≤ 1024 ∧ pw i * sd i = 2097152 := by
  rcases upto h with rfl | rfl | rfl | rfl | rfl | rfl | rfl | rfl | rfl | rfl | rfl <;> decide +kernel
theorem quo_sd {i : Nat} (h : i ≤ 10) : wrap64 (Int.tdiv 2097152 (shl .i64 1 (i : Int))) = sd i := by
  rcases upto h with rfl | rfl | rfl | rfl | rfl | rfl | rfl | rfl | rfl | rfl | rfl <;> decide +kernel
/-! ### a tile that exists -/
def okP (z x y : Int) : Prop := 0 ≤ z ∧ z ≤ 10 ∧ 0 ≤ x ∧ 0 ≤ y ∧ x < shl .i64 1 z ∧ y < shl .i64 1 z
instance (z x y : Int) : Decidable (okP z x y) := by unfold okP; infer_instance
/-! ### boxes by halving -/
def low (s : Int) (x : Nat) (j : Nat) : Int := ((x / 2 ^ j : Nat) : Int) * (s * pw j) - 1048576
theorem pw_pos (j : Nat) : 0 < pw j := Int.natCast_pos.mpr (Nat.pow_pos (by decide))
theorem pw_mono {j z : Nat} (h : j ≤ z) : pw j ≤ pw z := Int.ofNat_le.2 (Nat.pow_le_pow_right (by decide) h)
theorem pw_succ (j : Nat) : pw (j + 1) = 2 * pw j := by unfold pw; rw [Nat.pow_succ]; omega
theorem bit (x j : Nat) : x / 2 ^ j = 2 * (x / 2 ^ (j + 1)) + (x / 2 ^ j) % 2 := by
  rw [Nat.pow_succ, ← Nat.div_div_eq_div_mul]; omega
theorem low_half (s : Int) (x j : Nat) : low s x j = low s x (j + 1) + (((x / 2 ^ j) % 2 : Nat) : Int) * (s * pw j) := by
  have e : ((x / 2 ^ j : Nat) : Int) = 2 * ((x / 2 ^ (j + 1) : Nat) : Int) + (((x / 2 ^ j) % 2 : Nat) : Int) := by have := bit x j; omega
  unfold low
  rw [pw_succ]
  generalize hq : ((x / 2 ^ (j + 1) : Nat) : Int) = q at e
  generalize hb : (((x / 2 ^ j) % 2 : Nat) : Int) = b at e
  rw [e, Int.add_mul, show s * (2 * pw j) = 2 * (s * pw j) by rw [Int.mul_left_comm], Int.mul_left_comm q, Int.mul_assoc]
  omega
theorem low_rng {s : Int} {x z : Nat} (j : Nat) (hs : 0 ≤ s) (hx : ((x : Nat) : Int) * s ≤ 2097152) : -1048576 ≤ low s x j ∧ low s x j ≤ 1048576 := by
  unfold low
  have e : ((x / 2 ^ j : Nat) : Int) * (s * pw j) = ((x / 2 ^ j * 2 ^ j : Nat) : Int) * s := by
    unfold pw
    rw [Int.natCast_mul, Int.mul_comm s, ← Int.mul_assoc]
  have h1 : x / 2 ^ j * 2 ^ j ≤ x := Nat.div_mul_le_self _ _
  have h2 : ((x / 2 ^ j * 2 ^ j : Nat) : Int) * s ≤ (x : Int) * s := Int.mul_le_mul_of_nonneg_right (by omega) hs
  have h3 : 0 ≤ ((x / 2 ^ j * 2 ^ j : Nat) : Int) * s := Int.mul_nonneg (by omega) hs
  rw [e]
  omega
theorem tdiv_pw (x j : Nat) (hx : x ≤ 1024) : wrap64 (Int.tdiv (x : Int) (pw j)) = ((x / 2 ^ j : Nat) : Int) := by
  have e : Int.tdiv (x : Int) (pw j) = ((x / 2 ^ j : Nat) : Int) := by
    rw [Int.tdiv_eq_ediv_of_nonneg (by omega)]; unfold pw; rfl
  have h := Nat.div_le_self x (2 ^ j)
  rw [e]
  generalize x / 2 ^ j = q at h ⊢
  exact wrap_id (by omega) (by omega)
theorem tmod_two (q : Nat) : Int.tmod (q : Int) 2 = ((q % 2 : Nat) : Int) := by rw [Int.tmod_eq_emod_of_nonneg (by omega)]; omega
theorem box_end (k : Nat) (z x y A i lx LX ly LY : Int) (b c : Nat) (hb : b = 0 ∨ b = 1) (hc : c = 0 ∨ c = 1) (hx : lx = LX + (b : Int) * A) (hy : ly = LY + (c : Int) * A) (rx : -1048576 ≤ lx ∧ lx ≤ 1048576) (ry : -1048576 ≤ ly ∧ ly ≤ 1048576) :
    (if (b : Int) = 1 then (if (c : Int) = 1 then (terrref5_TileBox.l0 k A i z x y (wrap64 (LX + A)) (wrap64 (LY + A))) else (terrref5_TileBox.l0 k A i z x y (wrap64 (LX + A)) LY)) else (if (c : Int) = 1 then (terrref5_TileBox.l0 k A i z x y LX (wrap64 (LY + A))) else (terrref5_TileBox.l0 k A i z x y LX LY))) = terrref5_TileBox.l0 k A i z x y lx ly := by
  have px : b = 1 → wrap64 (LX + A) = lx := by
    intro e
    rw [e, Int.natCast_one, Int.one_mul] at hx
    rw [← hx, wrap_id (by omega) (by omega)]
  have py : c = 1 → wrap64 (LY + A) = ly := by
    intro e
    rw [e, Int.natCast_one, Int.one_mul] at hy
    rw [← hy, wrap_id (by omega) (by omega)]
  have qx : b = 0 → LX = lx := by
    intro e
    rw [e, Int.natCast_zero, Int.zero_mul, Int.add_zero] at hx
    exact hx.symm
  have qy : c = 0 → LY = ly := by
    intro e
    rw [e, Int.natCast_zero, Int.zero_mul, Int.add_zero] at hy
    exact hy.symm
  rcases hb with hb | hb <;> rcases hc with hc | hc
  · rw [if_neg (by omega), if_neg (by omega), qx hb, qy hc]
  · rw [if_neg (by omega), if_pos (by omega), qx hb, py hc]
  · rw [if_pos (by omega), if_neg (by omega), px hb, qy hc]
  · rw [if_pos (by omega), if_pos (by omega), px hb, py hc]
theorem box_l0 (z x y : Nat) (hz : z ≤ 10) (hx : (x : Int) < pw z) (hy : (y : Int) < pw z) : ∀ j : Nat, j ≤ z → Is (fun k => terrref5_TileBox.l0 k (sd z * pw j) ((j : Int) - 1) (z : Int) (x : Int) (y : Int) (low (sd z) x j) (low (sd z) y j)) ((x : Int) * sd z - 1048576, (y : Int) * sd z - 1048576, (x : Int) * sd z - 1048576 + sd z, (y : Int) * sd z - 1048576 + sd z) := by
  intro j
  induction j with
  | zero =>
    intro hj
    have r := sd_rng hz
    have bx : (x : Int) * sd z ≤ 2097152 := by have := Int.mul_le_mul_of_nonneg_right (show (x : Int) ≤ pw z by omega) (show 0 ≤ sd z by omega); omega
    have b'y : (y : Int) * sd z ≤ 2097152 := by have := Int.mul_le_mul_of_nonneg_right (show (y : Int) ≤ pw z by omega) (show 0 ≤ sd z by omega); omega
    have bx0 : 0 ≤ (x : Int) * sd z := Int.mul_nonneg (by omega) (by omega)
    have by0 : 0 ≤ (y : Int) * sd z := Int.mul_nonneg (by omega) (by omega)
    have p0 : pw 0 = 1 := rfl
    have e1 : low (sd z) x 0 = (x : Int) * sd z - 1048576 := by unfold low; rw [p0, Int.mul_one, Nat.pow_zero, Nat.div_one]
    have e2 : low (sd z) y 0 = (y : Int) * sd z - 1048576 := by unfold low; rw [p0, Int.mul_one, Nat.pow_zero, Nat.div_one]
    rw [e1, e2, p0, Int.mul_one]
    refine Is.step (Is.pure _) (fun k => ?_)
    rw [terrref5_TileBox.l0, if_neg (by decide), wrap_id (x := (x : Int) * sd z - 1048576 + sd z) (by omega) (by omega), wrap_id (x := (y : Int) * sd z - 1048576 + sd z) (by omega) (by omega)]
  | succ j ih =>
    intro hj
    have r := sd_rng hz
    have hn : x ≤ 1024 ∧ y ≤ 1024 := by omega
    have bx : (x : Int) * sd z ≤ 2097152 := by have := Int.mul_le_mul_of_nonneg_right (show (x : Int) ≤ pw z by omega) (show 0 ≤ sd z by omega); omega
    have b'y : (y : Int) * sd z ≤ 2097152 := by have := Int.mul_le_mul_of_nonneg_right (show (y : Int) ≤ pw z by omega) (show 0 ≤ sd z by omega); omega
    have ih := ih (by omega)
    have hA : sd z * pw (j + 1) = 2 * (sd z * pw j) := by rw [pw_succ, Int.mul_left_comm]
    have rA : 0 ≤ sd z * pw j ∧ sd z * pw j ≤ 2097152 := by
      refine ⟨Int.mul_nonneg (by omega) (Int.le_of_lt (pw_pos j)), ?_⟩
      have : pw j ≤ pw z := pw_mono (by omega)
      have := Int.mul_le_mul_of_nonneg_left this (show 0 ≤ sd z by omega)
      rw [Int.mul_comm (sd z) (pw z)] at this
      omega
    have hs : wrap64 (Int.tdiv (sd z * pw (j + 1)) 2) = sd z * pw j := by rw [hA, tdiv_two, wrap_id (by omega) (by omega)]
    have lx1 := low_rng (z := z) j (show 0 ≤ sd z by omega) bx
    have ly1 := low_rng (z := z) j (show 0 ≤ sd z by omega) b'y
    have hlx := low_half (sd z) x j
    have hly := low_half (sd z) y j
    have hj0 : ((j + 1 : Nat) : Int) - 1 = (j : Int) := by omega
    have wj : wrap64 ((j : Int) - 1) = (j : Int) - 1 := wrap_id (by omega) (by omega)
    have hp : shl .i64 1 (j : Int) = pw j := shl_pw (by omega)
    have hp0 : ¬ pw j = 0 := by have := pw_pos j; omega
    refine Is.step ih (fun k => ?_)
    rw [terrref5_TileBox.l0, hj0, hp, if_pos (by omega), if_pos (by omega), if_neg hp0, tdiv_pw x j hn.1, tdiv_pw y j hn.2, tmod_two, tmod_two, hs, wj]
    have mx : (x / 2 ^ j) % 2 = 0 ∨ (x / 2 ^ j) % 2 = 1 := by omega
    have my : (y / 2 ^ j) % 2 = 0 ∨ (y / 2 ^ j) % 2 = 1 := by omega
    generalize hA2 : sd z * pw j = A at *
    generalize ha1 : low (sd z) x (j + 1) = LX at *
    generalize ha2 : low (sd z) y (j + 1) = LY at *
    generalize ha3 : low (sd z) x j = lx at *
    generalize ha4 : low (sd z) y j = ly at *
    exact box_end k (z : Int) (x : Int) (y : Int) A ((j : Int) - 1) lx LX ly LY ((x / 2 ^ j) % 2) ((y / 2 ^ j) % 2) mx my hlx hly lx1 ly1
theorem box_all (z x y : Nat) (hz : z ≤ 10) (hx : (x : Int) < pw z) (hy : (y : Int) < pw z) : Is (fun k => terrref5_TileBox.f k (z : Int) (x : Int) (y : Int)) ((x : Int) * sd z - 1048576, (y : Int) * sd z - 1048576, (x : Int) * sd z - 1048576 + sd z, (y : Int) * sd z - 1048576 + sd z) := by
  have h := box_l0 z x y hz hx hy z (Nat.le_refl _)
  have lo : ∀ v : Nat, (v : Int) < pw z → low (sd z) v z = -1048576 := by
    intro v hv
    have hv2 : v < 2 ^ z := by unfold pw at hv; exact Int.ofNat_lt.1 hv
    unfold low
    rw [Nat.div_eq_of_lt hv2]
    simp
  have hw : wrap64 ((z : Int) - 1) = (z : Int) - 1 := wrap_id (by omega) (by omega)
  have hs : sd z * pw z = 2097152 := by have := (sd_rng hz).2.2.2.2; rw [Int.mul_comm]; exact this
  rw [lo x hx, lo y hy, hs] at h
  unfold terrref5_TileBox.f
  rw [hw]
  exact h
/-! ### the tile of a point -/
def cl (p : Int) : Int := mx (-1048576) (mn p 1048576)
theorem cl_rng (p : Int) : -1048576 ≤ cl p ∧ cl p ≤ 1048576 := by unfold cl mx mn; split <;> split <;> omega
theorem cl_id {p : Int} (h0 : -1048576 ≤ p) (h1 : p ≤ 1048576) : cl p = p := by unfold cl mx mn; split <;> split <;> omega
theorem cl_eq {p : Int} : cl p = p ↔ -1048576 ≤ p ∧ p ≤ 1048576 := by
  refine ⟨fun h => ?_, fun h => cl_id h.1 h.2⟩
  have := cl_rng p
  omega
theorem limit_all (p : Int) : point_limit.f p 1048576 = some (cl p) := by
  unfold point_limit.f cl
  rw [wrap_id (by decide) (by decide)]
theorem clamp_all (x y : Int) : point_Clamp.f x y = some (cl x, cl y) := by
  unfold point_Clamp.f
  rw [limit_all, Option.bind_some, limit_all, Option.bind_some]
def vP (x y : Int) : Prop := -1048576 ≤ x ∧ x ≤ 1048576 ∧ -1048576 ≤ y ∧ y ≤ 1048576
instance (x y : Int) : Decidable (vP x y) := by unfold vP; infer_instance
theorem pok_all (x y : Int) : point_Ok.f x y = some (decide (vP x y)) := by
  unfold point_Ok.f
  rw [clamp_all, Option.bind_some]
  congr 1
  rw [Bool.eq_iff_iff, Bool.and_eq_true, beq_iff_eq, beq_iff_eq, decide_eq_true_iff]
  unfold vP
  have h1 := @cl_eq x
  have h2 := @cl_eq y
  constructor
  · rintro ⟨a, b⟩; have := h1.1 a.symm; have := h2.1 b.symm; omega
  · rintro ⟨a, b, c, d⟩; exact ⟨(h1.2 ⟨a, b⟩).symm, (h2.2 ⟨c, d⟩).symm⟩
theorem valid_all (x y : Int) : terrref5_Valid.f x y = some (decide (vP x y)) := by
  unfold terrref5_Valid.f
  by_cases c1 : (-1048576) ≤ x
  case neg => rw [if_neg c1, decide_eq_false (show ¬ vP x y by unfold vP; omega)]
  by_cases c2 : x ≤ 1048576
  case neg => rw [if_pos c1, if_neg c2, decide_eq_false (show ¬ vP x y by unfold vP; omega)]
  by_cases c3 : (-1048576) ≤ y
  case neg => rw [if_pos c1, if_pos c2, if_neg c3, decide_eq_false (show ¬ vP x y by unfold vP; omega)]
  rw [if_pos c1, if_pos c2, if_pos c3]
  congr 1
  exact decide_eq_decide.2 (by unfold vP; omega)
end Go.Proofs.Ytojehbkadlmbjaa.U

