/- The plain law of TileAlls: the printed function answers true, whatever the box and the zoom. No condition. -/
import Derived.Test.YtojehbkadlmbjaaZlUTe
import Derived.Test.YtojehbkadlmbjaaZlUTileTells
import Derived.Test.YtojehbkadlmbjaaZlQTileAlls
namespace Go.Proofs.Ytojehbkadlmbjaa.U
set_option linter.unusedSimpArgs false
set_option linter.unusedVariables false
open Go.RowKit Go.Proofs.Ytojehbkadlmbjaa.Q Go.Proofs.YtojehbkadlmbjaaW.PrintWords Go.Proofs.YtojehbkadlmbjaaW.PrintLast Go.Proofs.YtojehbkadlmbjaaW.PrintMore
theorem near_all (a0 a1 a2 a3 b0 b1 b2 b3 : Int) : terrref5_Near.f a0 a1 a2 a3 b0 b1 b2 b3 = some (decide (a0 ≤ b2 ∧ b0 ≤ a2 ∧ a1 ≤ b3 ∧ b1 ≤ a3)) := by
  unfold terrref5_Near.f
  by_cases c1 : a0 ≤ b2
  · rw [if_pos c1]
    by_cases c2 : b0 ≤ a2
    · rw [if_pos c2]
      by_cases c3 : a1 ≤ b3
      · rw [if_pos c3]
        exact congrArg some (decide_eq_decide.2 ⟨fun h => ⟨c1, c2, c3, h⟩, fun h => h.2.2.2⟩)
      · rw [if_neg c3, decide_eq_false (fun h => c3 h.2.2.1)]
    · rw [if_neg c2, decide_eq_false (fun h => c2 h.2.1)]
  · rw [if_neg c1, decide_eq_false (fun h => c1 h.1)]
/-- One of the four below. -/
theorem step_l0 {z lx ly hx hy i x y : Int} {acc L R : List S34} {j cx cy : Int} (hj : j < 4) (h1 : wrap64 (i + 1) = i + 1) (h2 : wrap64 (wrap64 (2 * x) + Int.tmod j 2) = cx) (h3 : wrap64 (wrap64 (2 * y) + wrap64 (Int.tdiv j 2)) = cy) (h4 : wrap64 (j + 1) = j + 1)
    (hl : acc.length + L.length < 5864062014805) (hL : Is (fun k => terrref5_TilesIn.f k (i + 1) cx cy lx ly hx hy z) L) (hR : Is (fun k => terrref5_TilesIn.l0 k z (acc ++ L) (j + 1) i x y lx ly hx hy) R) :
    Is (fun k => terrref5_TilesIn.l0 k z acc j i x y lx ly hx hy) R :=
  Is.step (Is.bind hL (Is.pos hl hR)) (fun k => by rw [terrref5_TilesIn.l0, if_pos hj, h1, h2, h3, h4])
theorem four_le {d : Nat} (h : d ≤ 10) : 4 ^ d ≤ 1048576 := by
  have := Nat.pow_le_pow_right (n := 4) (by decide) h
  have e : 4 ^ 10 = 1048576 := by decide
  omega
theorem tilesin_all (z : Nat) (hz : z ≤ 10) (lx ly hx hy : Int) : ∀ (d x y : Nat), d ≤ z → (x : Int) < pw (z - d) → (y : Int) < pw (z - d) →
    Is (fun k => terrref5_TilesIn.f k (((z - d : Nat)) : Int) (x : Int) (y : Int) lx ly hx hy (z : Int)) (T z lx ly hx hy d x y) := by
  intro d
  induction d with
  | zero =>
    intro x y _ hx' hy'
    rw [Nat.sub_zero] at hx' hy'
    rw [Nat.sub_zero, T]
    refine Is.step (Is.bind (box_all z x y hz hx' hy') (Is.bind (Is.of (near_all _ _ _ _ _ _ _ _)) ?_)) (fun k => by rw [terrref5_TilesIn.f])
    by_cases c : Mt (sd z) lx hx x ∧ Mt (sd z) ly hy y
    · rw [if_pos c, decide_eq_true (by unfold Mt at c; dsimp only; omega)]
      exact Is.pos rfl (Is.pos rfl (Is.pure _))
    · rw [if_neg c, decide_eq_false (by unfold Mt at c; dsimp only; omega)]
      exact Is.neg (by decide) (Is.pure _)
  | succ d ih =>
    intro x y hd hx' hy'
    rw [T]
    refine Is.step (Is.bind (box_all (z - (d + 1)) x y (by omega) hx' hy') (Is.bind (Is.of (near_all _ _ _ _ _ _ _ _)) ?_)) (fun k => by rw [terrref5_TilesIn.f])
    by_cases c : Mt (sd (z - (d + 1))) lx hx x ∧ Mt (sd (z - (d + 1))) ly hy y
    case neg =>
      rw [if_neg c, decide_eq_false (by unfold Mt at c; dsimp only; omega)]
      exact Is.neg (by decide) (Is.pure _)
    rw [if_pos c, decide_eq_true (by unfold Mt at c; dsimp only; omega)]
    have hne : ¬ ((z - (d + 1) : Nat) : Int) = (z : Int) := by clear ih c; omega
    have r := sd_rng (i := z - (d + 1)) (by omega)
    have e1 : z - d = z - (d + 1) + 1 := by omega
    have hp := (sd_half (i := z - (d + 1)) (by omega)).2
    rw [← e1] at hp
    have hi : wrap64 (((z - (d + 1) : Nat) : Int) + 1) = ((z - (d + 1) : Nat) : Int) + 1 := wrap_id (by omega) (by omega)
    have hii : ((z - (d + 1) : Nat) : Int) + 1 = ((z - d : Nat) : Int) := by omega
    have wx : wrap64 (2 * (x : Int)) = 2 * (x : Int) := wrap_id (by omega) (by omega)
    have wy : wrap64 (2 * (y : Int)) = 2 * (y : Int) := wrap_id (by omega) (by omega)
    have hd10 := four_le (d := d) (by omega)
    have l0 := T_length z lx ly hx hy d (2 * x) (2 * y)
    have l1 := T_length z lx ly hx hy d (2 * x + 1) (2 * y)
    have l2 := T_length z lx ly hx hy d (2 * x) (2 * y + 1)
    have l3 := T_length z lx ly hx hy d (2 * x + 1) (2 * y + 1)
    have k0 := ih (2 * x) (2 * y) (by omega) (by omega) (by omega)
    have k1 := ih (2 * x + 1) (2 * y) (by omega) (by omega) (by omega)
    have k2 := ih (2 * x) (2 * y + 1) (by omega) (by omega) (by omega)
    have k3 := ih (2 * x + 1) (2 * y + 1) (by omega) (by omega) (by omega)
    rw [← hii] at k0 k1 k2 k3
    have q0 : Int.tmod 0 2 = 0 := rfl
    have q1 : Int.tmod (0 + 1) 2 = 1 := rfl
    have q2 : Int.tmod (0 + 1 + 1) 2 = 0 := rfl
    have q3 : Int.tmod (0 + 1 + 1 + 1) 2 = 1 := rfl
    have p0 : wrap64 (Int.tdiv 0 2) = 0 := by decide +kernel
    have p1 : wrap64 (Int.tdiv (0 + 1) 2) = 0 := by decide +kernel
    have p2 : wrap64 (Int.tdiv (0 + 1 + 1) 2) = 1 := by decide +kernel
    have p3 : wrap64 (Int.tdiv (0 + 1 + 1 + 1) 2) = 1 := by decide +kernel
    refine Is.pos rfl (Is.neg hne ?_)
    refine step_l0 (cx := ((2 * x : Nat) : Int)) (cy := ((2 * y : Nat) : Int)) (by decide) hi (by rw [wx, q0, wrap_id (by omega) (by omega)]; omega) (by rw [wy, p0, wrap_id (by omega) (by omega)]; omega) (by decide +kernel) (by rw [List.length_nil]; omega) k0 ?_
    refine step_l0 (cx := ((2 * x + 1 : Nat) : Int)) (cy := ((2 * y : Nat) : Int)) (by decide) hi (by rw [wx, q1, wrap_id (by omega) (by omega)]; omega) (by rw [wy, p1, wrap_id (by omega) (by omega)]; omega) (by decide +kernel) (by rw [List.nil_append]; omega) k1 ?_
    refine step_l0 (cx := ((2 * x : Nat) : Int)) (cy := ((2 * y + 1 : Nat) : Int)) (by decide) hi (by rw [wx, q2, wrap_id (by omega) (by omega)]; omega) (by rw [wy, p2, wrap_id (by omega) (by omega)]; omega) (by decide +kernel) (by rw [List.nil_append, List.length_append]; omega) k2 ?_
    refine step_l0 (cx := ((2 * x + 1 : Nat) : Int)) (cy := ((2 * y + 1 : Nat) : Int)) (by decide) hi (by rw [wx, q3, wrap_id (by omega) (by omega)]; omega) (by rw [wy, p3, wrap_id (by omega) (by omega)]; omega) (by decide +kernel) (by rw [List.nil_append, List.length_append, List.length_append]; omega) k3 ?_
    rw [List.nil_append]
    exact Is.step (Is.pure _) (fun k => by rw [terrref5_TilesIn.l0, if_neg (by decide)])
/-! ### the count of columns and rows -/
/-- How many of the numbers below i lie from c0 to c1. -/
def cnt (c0 c1 i : Int) : Int := max 0 (min i (c1 + 1) - c0)
theorem cnt_in {c0 c1 i : Int} (h : c0 ≤ i ∧ i ≤ c1) : cnt c0 c1 (i + 1) = cnt c0 c1 i + 1 := by unfold cnt; omega
theorem cnt_out {c0 c1 i : Int} (h : ¬ (c0 ≤ i ∧ i ≤ c1)) : cnt c0 c1 (i + 1) = cnt c0 c1 i := by unfold cnt; omega
theorem wrap_small {x : Int} (h0 : 0 ≤ x) (h1 : x < 1024) : wrap64 (x + 1) = x + 1 := wrap_id (by omega) (by omega)
theorem prod_bounds {i s n : Int} (h0 : 0 ≤ i) (h1 : i < n) (hs : 0 ≤ s) (h : n * s = 2097152) : i * s + s ≤ 2097152 ∧ 0 ≤ i * s := by
  have h2 : (i + 1) * s ≤ n * s := Int.mul_le_mul_of_nonneg_right (by omega) hs
  rw [Int.add_mul, Int.one_mul] at h2
  exact ⟨by omega, Int.mul_nonneg h0 hs⟩
theorem low_wraps {Q s : Int} (h1 : Q + s ≤ 2097152) (h0 : 0 ≤ Q) (hs : 0 ≤ s) (hs2 : s ≤ 2097152) : wrap64 Q = Q ∧ wrap64 (Q - 1048576) = Q - 1048576 ∧ wrap64 (Q - 1048576 + s) = Q - 1048576 + s :=
  ⟨wrap_id (by omega) (by omega), wrap_id (by omega) (by omega), wrap_id (by omega) (by omega)⟩
theorem cnt_rng {c0 c1 i : Int} (h : 0 ≤ c0) (hi : 0 ≤ i) : 0 ≤ cnt c0 c1 i ∧ cnt c0 c1 i ≤ i := by unfold cnt; omega
theorem count_all (z : Nat) (hz : z ≤ 10) (lx ly hx hy x0 x1 y0 y1 : Int) (hX : Col (sd z) (pw z) lx hx x0 x1) (hY : Col (sd z) (pw z) ly hy y0 y1)
    (a0 : -1048576 ≤ lx) (a1 : lx ≤ hx) (a2 : hx ≤ 1048576) (b0 : -1048576 ≤ ly) (b1 : ly ≤ hy) (b2 : hy ≤ 1048576) (r : List S34 × Int)
    (hend : Is (fun k => terrlaw5_tilesAt.l0 k z (sd z) (cnt x0 x1 (pw z)) (cnt y0 y1 (pw z)) (pw z) (pw z) lx ly hx hy) r) :
    ∀ (d i : Nat), (i : Int) + d = pw z → Is (fun k => terrlaw5_tilesAt.l0 k z (sd z) (cnt x0 x1 i) (cnt y0 y1 i) (pw z) i lx ly hx hy) r := by
  have hs := sides_pw hz
  have rg := sd_rng hz
  obtain ⟨i0, i1, i2, -⟩ := col_bounds _ _ _ _ _ _ _ hs hX a0 a1 a2
  obtain ⟨j0, j1, j2, -⟩ := col_bounds _ _ _ _ _ _ _ hs hY b0 b1 b2
  intro d
  induction d with
  | zero =>
    intro i hi
    have e : (i : Int) = pw z := by omega
    rw [e]; exact hend
  | succ d ih =>
    intro i hi
    have hlt : (i : Int) < pw z := by omega
    have next := ih (i + 1) (by omega)
    rw [show (((i + 1 : Nat)) : Int) = (i : Int) + 1 by omega] at next
    have hi0 : (0 : Int) ≤ i := Int.natCast_nonneg i
    have m1 := col_meets _ _ _ _ _ _ _ (i : Int) hs hX a0 a1 a2 hi0 hlt
    have m2 := col_meets _ _ _ _ _ _ _ (i : Int) hs hY b0 b1 b2 hi0 hlt
    have hprod := prod_bounds hi0 hlt (Int.le_trans (by decide) rg.1) rg.2.2.2.2
    obtain ⟨hm, hlow, hhigh⟩ := low_wraps hprod.1 hprod.2 (Int.le_trans (by decide) rg.1) rg.2.1
    have c1 := cnt_rng (c0 := x0) (c1 := x1) (i := i) i0 hi0
    have c2 := cnt_rng (c0 := y0) (c1 := y1) (i := i) j0 hi0
    have hi10 : (i : Int) < 1024 := Int.lt_of_lt_of_le hlt rg.2.2.2.1
    have w1 : wrap64 (cnt x0 x1 i + 1) = cnt x0 x1 i + 1 := wrap_small c1.1 (Int.lt_of_le_of_lt c1.2 hi10)
    have w2 : wrap64 (cnt y0 y1 i + 1) = cnt y0 y1 i + 1 := wrap_small c2.1 (Int.lt_of_le_of_lt c2.2 hi10)
    have w3 : wrap64 ((i : Int) + 1) = (i : Int) + 1 := wrap_small hi0 hi10
    generalize hP : (i : Int) * sd z - 1048576 = P at *
    have hj : Is (fun k => terrlaw5_tilesAt.j2 k z (sd z) (cnt x0 x1 i) (cnt y0 y1 i) P (pw z) i (decide (P ≤ hx ∧ lx ≤ P + sd z)) lx ly hx hy) r := by
      by_cases d1 : P ≤ hx ∧ lx ≤ P + sd z
      · rw [cnt_in (m1.2 d1)] at next
        by_cases d2 : P ≤ hy ∧ ly ≤ P + sd z
        · rw [cnt_in (m2.2 d2)] at next
          exact Is.step next (fun k => by rw [terrlaw5_tilesAt.j2, if_pos (decide_eq_true d1), if_pos d2.1, hhigh, if_pos d2.2, w1, w2, w3])
        · rw [cnt_out (fun h => d2 (m2.1 h))] at next
          refine Is.step next (fun k => ?_)
          rw [terrlaw5_tilesAt.j2, if_pos (decide_eq_true d1), hhigh, w1, w3]
          by_cases d3 : P ≤ hy
          · rw [if_pos d3, if_neg (fun h => d2 ⟨d3, h⟩)]
          · rw [if_neg d3]
      · rw [cnt_out (fun h => d1 (m1.1 h))] at next
        have hf : ¬ (decide (P ≤ hx ∧ lx ≤ P + sd z) = true) := fun h => d1 (of_decide_eq_true h)
        by_cases d2 : P ≤ hy ∧ ly ≤ P + sd z
        · rw [cnt_in (m2.2 d2)] at next
          exact Is.step next (fun k => by rw [terrlaw5_tilesAt.j2, if_neg hf, if_pos d2.1, hhigh, if_pos d2.2, w2, w3])
        · rw [cnt_out (fun h => d2 (m2.1 h))] at next
          refine Is.step next (fun k => ?_)
          rw [terrlaw5_tilesAt.j2, if_neg hf, hhigh, w3]
          by_cases d3 : P ≤ hy
          · rw [if_pos d3, if_neg (fun h => d2 ⟨d3, h⟩)]
          · rw [if_neg d3]
    refine Is.step hj (fun k => ?_)
    rw [terrlaw5_tilesAt.l0, if_pos hlt, hm, hP, hlow, hhigh]
    by_cases d1 : P ≤ hx
    · rw [if_pos d1]
      congr 1
      exact decide_eq_decide.2 ⟨fun h => ⟨d1, h⟩, fun h => h.2⟩
    · rw [if_neg d1, decide_eq_false (fun h => d1 h.1)]
/-! ### the law -/
theorem boxok_all (a b c d : Int) : terrlaw5_boxOk.f a b c d = some (decide (vP a b ∧ vP c d ∧ a ≤ c ∧ b ≤ d)) ∧ box_Ok.f a b c d = some (decide (vP a b ∧ vP c d ∧ a ≤ c ∧ b ≤ d)) := by
  unfold terrlaw5_boxOk.f box_Ok.f terrlaw5_ordered.f
  rw [valid_all, valid_all, pok_all, pok_all]
  simp only [Option.bind_some]
  by_cases c1 : vP a b
  · rw [if_pos (decide_eq_true c1), if_pos (decide_eq_true c1)]
    by_cases c2 : vP c d
    · rw [if_pos (decide_eq_true c2), if_pos (decide_eq_true c2)]
      by_cases c3 : a ≤ c
      · rw [if_pos c3, Option.bind_some]
        have : decide (b ≤ d) = decide (vP a b ∧ vP c d ∧ a ≤ c ∧ b ≤ d) := decide_eq_decide.2 ⟨fun h => ⟨c1, c2, c3, h⟩, fun h => h.2.2.2⟩
        rw [this]; exact ⟨rfl, rfl⟩
      · rw [if_neg c3, Option.bind_some, decide_eq_false (fun h => c3 h.2.2.1)]; exact ⟨rfl, rfl⟩
    · have h2 : ¬ decide (vP c d) = true := fun h => c2 (of_decide_eq_true h)
      rw [if_neg h2, if_neg h2, decide_eq_false (fun h => c2 h.2.1)]; exact ⟨rfl, rfl⟩
  · have h1 : ¬ decide (vP a b) = true := fun h => c1 (of_decide_eq_true h)
    rw [if_neg h1, if_neg h1, decide_eq_false (fun h => c1 h.1)]; exact ⟨rfl, rfl⟩
theorem same_l0b (l : List S34) (hl : l.length ≤ 4096) : ∀ (d i : Nat), i + d = l.length → Is (fun k => api_TileID.l0 k l l (l.length : Int) (i : Int)) true
  | 0, i, hi => Is.step (Is.pure _) (fun k => by rw [api_TileID.l0, if_neg (by omega)])
  | d + 1, i, hi => Is.step (same_l0b l hl d (i + 1) (by omega)) (fun k => by
      rw [api_TileID.l0, if_pos (by omega), if_pos (by omega), if_pos (by omega), if_pos (by omega), if_neg (by simp), wrap_id (x := (i : Int) + 1) (by omega) (by omega)]
      rfl)
theorem same_allb (l : List S34) (hl : l.length ≤ 4096) : Is (fun k => api_TileID.f k l l) true := by
  have h := same_l0b l hl l.length 0 (by omega)
  obtain ⟨K, hK⟩ := h
  refine ⟨K, fun k hk => ?_⟩
  show api_TileID.f k l l = _
  unfold api_TileID.f
  rw [if_pos rfl]
  exact hK k hk
theorem alls_of {a b c d z e : Int} {l : List S34} (hl : l.length ≤ 1024) (h1 : Is (fun k => terrlaw5_tilesAt.f k a b c d z) (l, e)) (h2 : Is (fun k => tile_All.f k a b c d z) (l, e)) : Is (fun k => terrlaw5_TileAlls.f k a b c d z) true := by
  have ht : terrlaw5_tiles.f = some true := by decide +kernel
  exact Is.bind (f := fun k t164 => (if t164 = true then ((terrlaw5_tilesAt.f k a b c d z).bind fun bt165 => ((tile_All.f k a b c d z).bind fun bt169 => (if bt169.2 = bt165.2 then ((api_TileID.f k bt169.1 bt165.1).bind fun t173 => (some t173)) else (some false)))) else (some false))) (Is.of ht) (Is.pos rfl (Is.bind h1 (Is.bind h2 (Is.pos rfl (Is.bind (same_allb l (by omega)) (Is.pure true))))))
theorem TileAlls (a b c d z : Int) : Is (fun k => terrlaw5_TileAlls.f k a b c d z) true := by
  by_cases hz : 0 ≤ z ∧ z ≤ 10
  case neg =>
    refine alls_of (l := []) (e := 1) (by simp) ?_ ?_
    · have hj : Is (fun k => terrlaw5_tilesAt.j0 k z true a b c d) ([], 1) := Is.step (Is.pure _) (fun k => by rw [terrlaw5_tilesAt.j0, if_pos rfl])
      obtain ⟨K, hK⟩ := hj
      refine ⟨K, fun k hk => ?_⟩
      show terrlaw5_tilesAt.f k a b c d z = _
      unfold terrlaw5_tilesAt.f
      by_cases h0 : z < 0
      · rw [if_pos h0]; exact hK k hk
      · rw [if_neg h0, if_pos (by omega)]; exact hK k hk
    · have hj : Is (fun k => tile_All.j0 k z true a b c d) ([], 1) := Is.step (Is.pure _) (fun k => by rw [tile_All.j0, if_pos rfl])
      obtain ⟨K, hK⟩ := hj
      refine ⟨K, fun k hk => ?_⟩
      show tile_All.f k a b c d z = _
      unfold tile_All.f
      rw [side_out z (by omega), Option.bind_some, if_pos rfl]
      exact hK k hk
  obtain ⟨n, rfl⟩ : ∃ n : Nat, z = n := ⟨z.toNat, by omega⟩
  have hn : n ≤ 10 := by omega
  obtain ⟨k1, k2⟩ := boxok_all a b c d
  have rg := sd_rng hn
  by_cases hb : vP a b ∧ vP c d ∧ a ≤ c ∧ b ≤ d
  case neg =>
    rw [decide_eq_false hb] at k1 k2
    refine alls_of (l := []) (e := 1) (by simp) ?_ ?_
    · have hj : Is (fun k => terrlaw5_tilesAt.j0 k n true a b c d) ([], 1) := Is.step (Is.pure _) (fun k => by rw [terrlaw5_tilesAt.j0, if_pos rfl])
      obtain ⟨K, hK⟩ := hj
      refine ⟨K, fun k hk => ?_⟩
      show terrlaw5_tilesAt.f k a b c d n = _
      unfold terrlaw5_tilesAt.f
      rw [if_neg (by omega), if_neg (by omega), k1, Option.bind_some]
      exact hK k hk
    · have hj : Is (fun k => tile_All.j0 k n true a b c d) ([], 1) := Is.step (Is.pure _) (fun k => by rw [tile_All.j0, if_pos rfl])
      obtain ⟨K, hK⟩ := hj
      refine ⟨K, fun k hk => ?_⟩
      show tile_All.f k a b c d n = _
      unfold tile_All.f
      rw [side_sd hn, Option.bind_some, if_neg (by omega), k2, Option.bind_some]
      exact hK k hk
  rw [decide_eq_true hb] at k1
  obtain ⟨⟨a0, -, b0, -⟩, ⟨-, a2, -, b2⟩, a1, b1⟩ := hb
  obtain ⟨x0, x1, y0, y1, hX, hY, big, fits⟩ := all_in n (sd n) (pw n) a b c d (sides_pw hn) (side_sd hn) (shl_pw hn) a0 a1 a2 b0 b1 b2
  obtain ⟨i0, i1, i2, -⟩ := col_bounds _ _ _ _ _ _ _ (sides_pw hn) hX a0 a1 a2
  obtain ⟨j0, j1, j2, -⟩ := col_bounds _ _ _ _ _ _ _ (sides_pw hn) hY b0 b1 b2
  have eX : cnt x0 x1 (pw n) = x1 - x0 + 1 := by unfold cnt; omega
  have eY : cnt y0 y1 (pw n) = y1 - y0 + 1 := by unfold cnt; omega
  have hprod : 0 ≤ (x1 - x0 + 1) * (y1 - y0 + 1) ∧ (x1 - x0 + 1) * (y1 - y0 + 1) ≤ 1048576 := by
    have q1 := Int.mul_nonneg (show 0 ≤ x1 - x0 + 1 by omega) (show 0 ≤ y1 - y0 + 1 by omega)
    have q2 := Int.mul_le_mul (show x1 - x0 + 1 ≤ 1024 by omega) (show y1 - y0 + 1 ≤ 1024 by omega) (show 0 ≤ y1 - y0 + 1 by omega) (show (0:Int) ≤ 1024 by decide)
    omega
  have hat : ∀ r, Is (fun k => terrlaw5_tilesAt.l0 k n (sd n) (cnt x0 x1 (pw n)) (cnt y0 y1 (pw n)) (pw n) (pw n) a b c d) r → Is (fun k => terrlaw5_tilesAt.f k a b c d n) r := by
    intro r hr
    have h0 := count_all n hn a b c d x0 x1 y0 y1 hX hY a0 a1 a2 b0 b1 b2 r hr (2 ^ n) 0 (by unfold pw; omega)
    have e0 : cnt x0 x1 ((0 : Nat) : Int) = 0 := by unfold cnt; omega
    have e1 : cnt y0 y1 ((0 : Nat) : Int) = 0 := by unfold cnt; omega
    rw [e0, e1] at h0
    have hj : Is (fun k => terrlaw5_tilesAt.j0 k n false a b c d) r := Is.step h0 (fun k => by
      rw [terrlaw5_tilesAt.j0, if_neg (by decide), if_pos (by omega), if_neg (by rw [shl_pw hn]; omega), quo_sd hn, shl_pw hn]
      rfl)
    obtain ⟨K, hK⟩ := hj
    refine ⟨K, fun k hk => ?_⟩
    show terrlaw5_tilesAt.f k a b c d n = _
    unfold terrlaw5_tilesAt.f
    rw [if_neg (by omega), if_neg (by omega), k1, Option.bind_some]
    exact hK k hk
  by_cases hbig : (x1 - x0 + 1) * (y1 - y0 + 1) > 1024
  · refine alls_of (l := []) (e := 2) (by simp) (hat _ ?_) ⟨1, fun k hk => ?_⟩
    · rw [eX, eY]
      exact Is.step (Is.pure _) (fun k => by rw [terrlaw5_tilesAt.l0, if_neg (by omega), wrap_id (by omega) (by omega), if_pos hbig])
    · obtain ⟨m, rfl⟩ : ∃ m, k = m + 1 := ⟨k - 1, by omega⟩
      exact big hbig m
  · obtain ⟨s1, s2⟩ := srt_T n hn a b c d x0 x1 y0 y1 hX hY a0 a1 a2 b0 b1 b2
    have hlen : (grid n x0 y0 (x1 - x0 + 1).toNat ((y1 - y0 + 1).toNat * (x1 - x0 + 1).toNat)).length ≤ 1024 := by
      rw [grid_length]
      have e : (((y1 - y0 + 1).toNat * (x1 - x0 + 1).toNat : Nat) : Int) = (x1 - x0 + 1) * (y1 - y0 + 1) := by
        rw [Int.natCast_mul, Int.toNat_of_nonneg (by omega), Int.toNat_of_nonneg (by omega), Int.mul_comm]
      omega
    have hin := tilesin_all n hn a b c d n 0 0 (Nat.le_refl n) (by rw [Nat.sub_self]; decide) (by rw [Nat.sub_self]; decide)
    rw [Nat.sub_self] at hin
    refine alls_of hlen (hat _ ?_) ⟨2100001, fun k hk => fits (by omega) k (by omega)⟩
    rw [eX, eY]
    refine Is.step (Is.bind hin ?_) (fun k => by rw [terrlaw5_tilesAt.l0, if_neg (by omega), wrap_id (by omega) (by omega), if_neg hbig]; rfl)
    rw [← s1]
    exact Is.pos s2 (Is.pure _)
end Go.Proofs.Ytojehbkadlmbjaa.U

