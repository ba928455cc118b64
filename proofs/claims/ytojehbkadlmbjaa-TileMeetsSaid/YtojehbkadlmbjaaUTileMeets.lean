/- All returns tiles that meet a box, in order, among them those of all its points: for all boxes near the middle and the zooms 8 to 10. No condition. -/
import Derived.Test.YtojehbkadlmbjaaUTb
import Derived.Test.YtojehbkadlmbjaaUTc
import Derived.Test.YtojehbkadlmbjaaQTileMeets
namespace Go.Proofs.Ytojehbkadlmbjaa.Pure
open Go.RowKit Go.Proofs.Ytojehbkadlmbjaa.Q Go.Proofs.Ytojehbkadlmbjaa.U Go.Proofs.YtojehbkadlmbjaaW.PrintWords Go.Proofs.YtojehbkadlmbjaaW.PrintLast Go.Proofs.YtojehbkadlmbjaaW.PrintMore
set_option linter.unusedSimpArgs false

theorem meet_in (a b c d e f g h : Int) (h0 : a ≤ c) (h1 : b ≤ d) (h2 : e ≤ g) (h3 : f ≤ h) (h4 : a ≤ g) (h5 : e ≤ c) (h6 : b ≤ h) (h7 : f ≤ d) : box_Meet.f a b c d e f g h = some true := by
  have m1 : a ≤ mx a e ∧ e ≤ mx a e ∧ mx a e ≤ c ∧ mx a e ≤ g := by unfold mx; split <;> omega
  have m2 : b ≤ mx b f ∧ f ≤ mx b f ∧ mx b f ≤ d ∧ mx b f ≤ h := by unfold mx; split <;> omega
  unfold box_Meet.f
  rw [has_in _ _ _ _ _ _ (by omega), Option.bind_some, if_pos rfl, has_in _ _ _ _ _ _ (by omega), Option.bind_some]

theorem cell_next (z x0 y0 : Int) (w i : Nat) (hw : 0 < w) : tile_Less.f z (cellAt z x0 y0 w i).f1 (cellAt z x0 y0 w i).f2 z (cellAt z x0 y0 w (i + 1)).f1 (cellAt z x0 y0 w (i + 1)).f2 = some true := by
  unfold tile_Less.f cellAt
  rw [if_pos rfl]
  dsimp only
  have e := Nat.div_add_mod i w
  have l := Nat.mod_lt i hw
  by_cases c : i % w + 1 < w
  · have p := place w (i / w) (i % w + 1) c
    rw [Nat.mul_comm, show w * (i / w) + (i % w + 1) = i + 1 by omega] at p
    rw [p.1, p.2, if_pos rfl, decide_eq_true (by omega)]
  · have p := place w (i / w + 1) 0 hw
    rw [Nat.add_mul, Nat.one_mul, Nat.mul_comm, show w * (i / w) + w + 0 = i + 1 by omega] at p
    rw [p.1, p.2, if_neg (by omega), decide_eq_true (by omega)]

theorem pred_of {i : Nat} (h : ¬ i = 0) : ∃ j, i = j + 1 := ⟨i - 1, by omega⟩
theorem lt_step {R q k : Nat} (h : R + (q + 1) < k + 1) : R + q < k := by omega
theorem eq_step {i q m : Nat} (h : i + (q + 1) = m) : i + 1 + q = m := by omega
theorem prev_step {i q m : Nat} (h : i + 1 + (q + 1) = m) (m1 : m ≤ 1024) : wrap64 (((i + 1 : Nat) : Int) - 1) = (i : Int) ∧ ((i + 1 : Nat) : Int) > 0 ∧ (i : Int) < (m : Int) ∧ i < m := by
  refine ⟨?_, by omega, by omega, by omega⟩
  rw [wrap_id (by omega) (by omega)]; omega

theorem meets_loop (z s n x0 x1 y0 y1 a b c d : Int) (w h m R : Nat) (hz : Sides z s n) (es : tile_Side.f z = some s) (en : shl .i64 1 z = n) (a0 : -1048576 ≤ a) (a1 : a ≤ c) (a2 : c ≤ 1048576) (b0 : -1048576 ≤ b) (b1 : b ≤ d) (b2 : d ≤ 1048576)
    (cx : Col s n a c x0 x1) (cy : Col s n b d y0 y1) (hw : (w : Int) = x1 - x0 + 1) (hh : (h : Int) = y1 - y0 + 1) (hm : m = h * w) (m1 : m ≤ 1024)
    (rest : ∀ k, R ≤ k → ((some (([(⟨a, b⟩ : S31), (⟨c, d⟩ : S31), (⟨a, d⟩ : S31), (⟨wrap64 (Int.tdiv (wrap64 (a + c)) 2), b⟩ : S31)] : List (S31)) : List (S31))).bind fun y167 => (terrkeep5_TileMeets.l1 k z (grid z x0 y0 w m) y167 (y167.length : Int) 0)) = some true) :
    ∀ (q k i : Nat), i + q = m → R + q < k → terrkeep5_TileMeets.l0 k z (grid z x0 y0 w m) (grid z x0 y0 w m) (m : Int) (i : Int) a b c d = some true := by
  obtain ⟨i0, i1, i2, -⟩ := col_bounds z s n a c x0 x1 hz cx a0 a1 a2
  obtain ⟨j0, j1, j2, -⟩ := col_bounds z s n b d y0 y1 hz cy b0 b1 b2
  have hs : 0 < s ∧ n ≤ 1024 := by unfold Sides at hz; omega
  intro q
  induction q with
  | zero =>
    intro k i hi hk
    obtain ⟨k, rfl⟩ : ∃ m, k = m + 1 := ⟨k - 1, by omega⟩
    rw [terrkeep5_TileMeets.l0, if_neg (by omega)]
    exact rest k (by omega)
  | succ q ih =>
    intro k i hi hk
    obtain ⟨k, rfl⟩ : ∃ m, k = m + 1 := ⟨k - 1, by omega⟩
    have hl : (grid z x0 y0 w m).length = m := grid_length _ _ _ _ _
    have hw0 : 0 < w := by omega
    have r0 := Nat.mod_lt i hw0
    have r1 : i / w < h := by rw [Nat.div_lt_iff_lt_mul hw0]; omega
    have ex : (cellAt z x0 y0 w i).f1 = x0 + (i % w : Nat) := rfl
    have ey : (cellAt z x0 y0 w i).f2 = y0 + (i / w : Nat) := rfl
    generalize i % w = cr at r0 ex
    generalize i / w = rr at r1 ey
    have ez : (cellAt z x0 y0 w i).f0 = z := rfl
    have gx := (col_meets z s n a c x0 x1 (x0 + (cr : Nat)) hz cx a0 a1 a2 (by omega) (by omega)).mp ⟨by omega, by omega⟩
    have gy := (col_meets z s n b d y0 y1 (y0 + (rr : Nat)) hz cy b0 b1 b2 (by omega) (by omega)).mp ⟨by omega, by omega⟩
    rw [terrkeep5_TileMeets.l0, if_pos (by omega), if_pos (by omega), if_pos (by rw [hl]; omega), grid_at _ _ _ _ _ _ (by omega), ez, if_pos rfl, ex, ey, box_in z s n _ _ hz es en (by omega) (by omega) (by omega) (by omega), Option.bind_some]
    dsimp only
    rw [meet_in _ _ _ _ _ _ _ _ (by omega) (by omega) a1 b1 (by omega) (by omega) (by omega) (by omega), Option.bind_some, if_pos rfl]
    have wi : wrap64 ((i : Int) + 1) = ((i + 1 : Nat) : Int) := by clear gx gy ih rest; rw [wrap_id (by omega) (by omega)]; omega
    clear gx gy
    rw [wi]
    by_cases c0 : i = 0
    · rw [if_neg (show ¬ ((i : Int) > 0) from fun h => by rw [c0] at h; exact absurd h (by decide))]
      exact ih k (i + 1) (eq_step hi) (lt_step hk)
    · obtain ⟨i', rfl⟩ := pred_of c0
      obtain ⟨wp, hi1, hi2, hi3⟩ := prev_step hi m1
      rw [wp, if_pos hi1, if_pos (Int.natCast_nonneg _), if_pos (by rw [hl]; exact hi2), grid_at _ _ _ _ _ _ hi3, show (cellAt z x0 y0 w i').f0 = z from rfl]
      have := cell_next z x0 y0 w i' hw0
      rw [ex, ey] at this
      rw [this, Option.bind_some, if_pos rfl]
      exact ih k (i' + 1 + 1) (eq_step hi) (lt_step hk)

theorem points_loop (z s n x0 x1 y0 y1 a b c d : Int) (w h m : Nat) (hz : Sides z s n) (es : tile_Side.f z = some s) (en : shl .i64 1 z = n) (a0 : -1048576 ≤ a) (a1 : a ≤ c) (a2 : c ≤ 1048576) (b0 : -1048576 ≤ b) (b1 : b ≤ d) (b2 : d ≤ 1048576)
    (cx : Col s n a c x0 x1) (cy : Col s n b d y0 y1) (hw : (w : Int) = x1 - x0 + 1) (hh : (h : Int) = y1 - y0 + 1) (hm : m = h * w) (m1 : m ≤ 1024) (px py : Int) (p0 : a ≤ px) (p1 : px ≤ c) (q0 : b ≤ py) (q1 : py ≤ d) (k : Nat) (hk : 2000 < k) :
    ∃ u v, tile_Of.f px py z = some (z, u, v, 0) ∧ api_TileID_31.f k (grid z x0 y0 w m) z u v = some true := by
  obtain ⟨i0, i1, i2, -⟩ := col_bounds z s n a c x0 x1 hz cx a0 a1 a2
  obtain ⟨j0, j1, j2, -⟩ := col_bounds z s n b d y0 y1 hz cy b0 b1 b2
  obtain ⟨u, v, ho, u0, u1, v0, v1, eu, ev⟩ := of_in px py z s n hz es en (by omega) (by omega) (by omega) (by omega)
  have hx := col_has z s n a c x0 x1 px hz cx a0 a1 a2 p0 p1
  have hy := col_has z s n b d y0 y1 py hz cy b0 b1 b2 q0 q1
  rw [← eu] at hx
  rw [← ev] at hy
  refine ⟨u, v, ho, ?_⟩
  obtain ⟨cu, hcu⟩ : ∃ cu : Nat, (cu : Int) = u - x0 := ⟨(u - x0).toNat, by omega⟩
  obtain ⟨cv, hcv⟩ : ∃ cv : Nat, (cv : Int) = v - y0 := ⟨(v - y0).toNat, by omega⟩
  have hlt : cv * w + cu < m := by
    have : (cv + 1) * w ≤ h * w := Nat.mul_le_mul_right w (by omega)
    rw [Nat.add_mul, Nat.one_mul] at this
    omega
  have pl := place w cv cu (by omega)
  refine contains_in _ (by rw [grid_length]; omega) z u v (cv * w + cu) (by rw [grid_length]; exact hlt) ?_ k (by rw [grid_length]; omega)
  rw [grid_at _ _ _ _ _ _ hlt]
  unfold cellAt
  rw [pl.1, pl.2, show x0 + (cu : Int) = u by omega, show y0 + (cv : Int) = v by omega]

theorem TileMeets : terrkeep5_TileMeets.Pure := by
  intro a0 a1 a2 a3 a4 _ _ _ _ _
  obtain ⟨p, hp, p0, p1⟩ := below_spec a0 20000 (by decide) (by decide)
  obtain ⟨q, hq, q0, q1⟩ := below_spec a1 20000 (by decide) (by decide)
  obtain ⟨u, hu, u0, u1⟩ := below_spec a2 9000 (by decide) (by decide)
  obtain ⟨v, hv, v0, v1⟩ := below_spec a3 9000 (by decide) (by decide)
  obtain ⟨t, ht, t0, t1⟩ := below_spec a4 3 (by decide) (by decide)
  have hzoom : terrkeep5_Zoom.f a4 = some (8 + t) := by
    unfold terrkeep5_Zoom.f
    rw [ht, Option.bind_some, wrap_id (by omega) (by omega)]
  obtain ⟨z, ez⟩ : ∃ z, z = 8 + t := ⟨_, rfl⟩
  rw [← ez] at hzoom
  obtain ⟨s, n, hs, es, en⟩ := sides z (by omega) (by omega)
  obtain ⟨a, ea⟩ : ∃ a, a = p - 10000 := ⟨_, rfl⟩
  obtain ⟨b, eb⟩ : ∃ b, b = q - 10000 := ⟨_, rfl⟩
  obtain ⟨c, ec⟩ : ∃ c, c = a + u := ⟨_, rfl⟩
  obtain ⟨d, ed⟩ : ∃ d, d = b + v := ⟨_, rfl⟩
  obtain ⟨x0, x1, y0, y1, cx, cy, -, hall⟩ := all_in z s n a b c d hs es en (by omega) (by omega) (by omega) (by omega) (by omega) (by omega)
  obtain ⟨i0, i1, i2, i3⟩ := col_bounds z s n a c x0 x1 hs cx (by omega) (by omega) (by omega)
  obtain ⟨j0, j1, j2, j3⟩ := col_bounds z s n b d y0 y1 hs cy (by omega) (by omega) (by omega)
  have hle : (x1 - x0 + 1) * (y1 - y0 + 1) ≤ 1024 := by
    have := Int.mul_le_mul (show x1 - x0 + 1 ≤ 7 by omega) (show y1 - y0 + 1 ≤ 7 by omega) (show 0 ≤ y1 - y0 + 1 by omega) (show (0:Int) ≤ 7 by decide)
    omega
  obtain ⟨w, hw⟩ : ∃ w : Nat, (x1 - x0 + 1).toNat = w := ⟨_, rfl⟩
  obtain ⟨h, hh⟩ : ∃ h : Nat, (y1 - y0 + 1).toNat = h := ⟨_, rfl⟩
  have ew : (w : Int) = x1 - x0 + 1 := by omega
  have eh : (h : Int) = y1 - y0 + 1 := by omega
  obtain ⟨K, hK⟩ : ∃ K : Nat, 2100000 < K := ⟨2100001, Nat.lt_succ_self _⟩
  have al := hall hle (K + 1) (by omega)
  rw [hw, hh] at al
  obtain ⟨m, hm⟩ : ∃ m, m = h * w := ⟨_, rfl⟩
  rw [← hm] at al
  have m1 : m ≤ 1024 := by
    have : (m : Int) ≤ 1024 := by rw [hm, Int.natCast_mul, ew, eh, Int.mul_comm]; exact hle
    omega
  have m0 : 0 < m := by rw [hm]; exact Nat.mul_pos (by omega) (by omega)
  have mid : wrap64 (Int.tdiv (wrap64 (a + c)) 2) = Int.tdiv (a + c) 2 ∧ a ≤ Int.tdiv (a + c) 2 ∧ Int.tdiv (a + c) 2 ≤ c := by
    have : a ≤ Int.tdiv (a + c) 2 ∧ Int.tdiv (a + c) 2 ≤ c := by
      rw [Int.tdiv_eq_ediv]
      by_cases k : 0 ≤ a + c ∨ (2 : Int) ∣ a + c
      · rw [if_pos k]; omega
      · rw [if_neg k, show Int.sign 2 = 1 from rfl]; omega
    exact ⟨by rw [wrap_id (x := a + c) (by omega) (by omega), wrap_id (by omega) (by omega)], this⟩
  obtain ⟨g, eg⟩ : ∃ g, g = Int.tdiv (a + c) 2 := ⟨_, rfl⟩
  rw [← eg] at mid
  have pts : ∀ k, 3000 ≤ k → ((some (([(⟨a, b⟩ : S31), (⟨c, d⟩ : S31), (⟨a, d⟩ : S31), (⟨wrap64 (Int.tdiv (wrap64 (a + c)) 2), b⟩ : S31)] : List (S31)) : List (S31))).bind fun y167 => (terrkeep5_TileMeets.l1 k z (grid z x0 y0 w m) y167 (y167.length : Int) 0)) = some true := by
    intro k hk
    obtain ⟨k, rfl⟩ : ∃ j, k = j + 5 := ⟨k - 5, by omega⟩
    rw [Option.bind_some, mid.1]
    have PL := fun (px py : Int) (h0 : a ≤ px) (h1 : px ≤ c) (h2 : b ≤ py) (h3 : py ≤ d) (k : Nat) (hk : 2000 < k) => points_loop z s n x0 x1 y0 y1 a b c d w h m hs es en (by omega) (by omega) (by omega) (by omega) (by omega) (by omega) cx cy ew eh hm m1 px py h0 h1 h2 h3 k hk
    have r0 : ∀ l : List S31, ∀ a b c d, l = [a, b, c, d] → rd_T31 l 0 = a ∧ rd_T31 l 1 = b ∧ rd_T31 l 2 = c ∧ rd_T31 l 3 = d ∧ (l.length : Int) = 4 := by
      intro l a b c d h
      subst h
      exact ⟨rfl, rfl, rfl, rfl, rfl⟩
    obtain ⟨g0, g1, g2, g3, g4⟩ := r0 _ _ _ _ _ (rfl : ([⟨a, b⟩, ⟨c, d⟩, ⟨a, d⟩, ⟨g, b⟩] : List S31) = _)
    generalize ([⟨a, b⟩, ⟨c, d⟩, ⟨a, d⟩, ⟨g, b⟩] : List S31) = Z at *
    obtain ⟨u1, v1, o1, c1⟩ := PL a b (by omega) (by omega) (by omega) (by omega) (k + 4) (by omega)
    obtain ⟨u2, v2, o2, c2⟩ := PL c d (by omega) (by omega) (by omega) (by omega) (k + 3) (by omega)
    obtain ⟨u3, v3, o3, c3⟩ := PL a d (by omega) (by omega) (by omega) (by omega) (k + 2) (by omega)
    obtain ⟨u4, v4, o4, c4⟩ := PL g b (by omega) (by omega) (by omega) (by omega) (k + 1) (by omega)
    have w0 : wrap64 (0 + 1) = 1 := wrap_id (by decide) (by decide)
    have w1 : wrap64 (1 + 1) = 2 := wrap_id (by decide) (by decide)
    have w2 : wrap64 (2 + 1) = 3 := wrap_id (by decide) (by decide)
    have w3 : wrap64 (3 + 1) = 4 := wrap_id (by decide) (by decide)
    rw [g4, terrkeep5_TileMeets.l1, if_pos (by decide), if_pos (by decide), if_pos (by omega), g0, o1, Option.bind_some, if_pos rfl, c1, Option.bind_some, if_pos rfl, w0]
    rw [terrkeep5_TileMeets.l1, if_pos (by decide), if_pos (by decide), if_pos (by omega), g1, o2, Option.bind_some, if_pos rfl, c2, Option.bind_some, if_pos rfl, w1]
    rw [terrkeep5_TileMeets.l1, if_pos (by decide), if_pos (by decide), if_pos (by omega), g2, o3, Option.bind_some, if_pos rfl, c3, Option.bind_some, if_pos rfl, w2]
    rw [terrkeep5_TileMeets.l1, if_pos (by decide), if_pos (by decide), if_pos (by omega), g3, o4, Option.bind_some, if_pos rfl, c4, Option.bind_some, if_pos rfl, w3]
    rw [terrkeep5_TileMeets.l1, if_neg (by decide)]
  refine ⟨K + 1, ?_⟩
  unfold terrkeep5_TileMeets.f
  rw [hp, Option.bind_some, hq, Option.bind_some, hu, Option.bind_some, hv, Option.bind_some, hzoom, Option.bind_some, wrap_id (x := p - 10000) (by omega) (by omega), wrap_id (x := q - 10000) (by omega) (by omega), ← ea, ← eb, wrap_id (x := a + u) (by omega) (by omega), wrap_id (x := b + v) (by omega) (by omega), ← ec, ← ed, al, Option.bind_some]
  dsimp only
  rw [if_pos rfl, terrkeep5_TileMeets.j0, if_neg (by rw [grid_length]; simp; omega), grid_length]
  exact meets_loop z s n x0 x1 y0 y1 a b c d w h m 3000 hs es en (by omega) (by omega) (by omega) (by omega) (by omega) (by omega) cx cy ew eh hm m1 pts m K 0 (by omega) (by omega)

end Go.Proofs.Ytojehbkadlmbjaa.Pure
