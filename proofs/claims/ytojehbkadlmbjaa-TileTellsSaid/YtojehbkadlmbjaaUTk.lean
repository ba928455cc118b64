/- The plain law of TileTells, last part: what each of the functions answers at one input. No condition but those stated. -/
import Derived.Test.YtojehbkadlmbjaaUTileTells
namespace Go.Proofs.Ytojehbkadlmbjaa.U
set_option linter.unusedSimpArgs false
set_option linter.unusedVariables false
open Go.RowKit Go.Proofs.Ytojehbkadlmbjaa.Q Go.Proofs.YtojehbkadlmbjaaW.PrintWords Go.Proofs.YtojehbkadlmbjaaW.PrintLast Go.Proofs.YtojehbkadlmbjaaW.PrintMore
theorem same_l0 (l : List S34) (hl : l.length ≤ 1000) : ∀ (d i : Nat), i + d = l.length → Is (fun k => api_TileID.l0 k l l (l.length : Int) (i : Int)) true
  | 0, i, hi => Is.step (Is.pure _) (fun k => by rw [api_TileID.l0, if_neg (by omega)])
  | d + 1, i, hi => Is.step (same_l0 l hl d (i + 1) (by omega)) (fun k => by
      rw [api_TileID.l0, if_pos (by omega), if_pos (by omega), if_pos (by omega), if_pos (by omega), if_neg (by simp), wrap_id (x := (i : Int) + 1) (by omega) (by omega)]
      rfl)
theorem same_all (l : List S34) (hl : l.length ≤ 1000) : Is (fun k => api_TileID.f k l l) true := by
  unfold api_TileID.f
  exact Is.pos rfl (same_l0 l hl l.length 0 (by omega))
theorem not_three {a b c x y z : Int} (h0 : a = x) (h1 : b = y) (h2 : c = z) : (!(a == x) || (!(b == y) || (!(c == z)))) = false := by subst h0 h1 h2; simp
theorem half_even (x : Nat) (hx : x ≤ 1024) : wrap64 (Int.tdiv (wrap64 ((x : Int) - (Int.tmod (x : Int) 2))) 2) = (x : Int) / 2 := by
  rw [tmod_pos (by omega), wrap_id (x := (x : Int) - (x : Int) % 2) (by omega) (by omega), tdiv_pos (by omega), wrap_id (by omega) (by omega)]; omega
/-- A tile that exists: its parent and its children are its family. -/
theorem family_all (z x y : Nat) (hz : z ≤ 10) (hx : (x : Int) < pw z) (hy : (y : Int) < pw z) : ∃ (u0 u1 u2 f : Int) (ks : List S34) (g : Int), tile_Up.f (z : Int) (x : Int) (y : Int) = some (u0, u1, u2, f) ∧ Is (fun k => tile_Kids.f k (z : Int) (x : Int) (y : Int)) (ks, g) ∧ Is (fun k => terrlaw5_family.f k (z : Int) (x : Int) (y : Int) u0 u1 u2 f ks g) true := by
  have r := sd_rng hz
  have hs := sides_pw hz
  have es := side_sd hz
  have en := shl_pw hz
  have hn : x ≤ 1024 ∧ y ≤ 1024 := by omega
  have hok := tok_in (z : Int) (sd z) (pw z) (x : Int) (y : Int) hs es en (by omega) hx (by omega) hy
  -- the children
  have hk : ∃ (ks : List S34) (g : Int), Is (fun k => tile_Kids.f k (z : Int) (x : Int) (y : Int)) (ks, g) ∧ Is (fun k => terrlaw5_family.j1 k ks g false (z : Int) (x : Int) (y : Int)) true := by
    by_cases c : z = 10
    · refine ⟨[], 4, ⟨0, fun k _ => ?_⟩, Is.step (Is.pure _) (fun k => by rw [terrlaw5_family.j1, if_neg (by decide), if_pos (by omega), if_pos rfl]; rfl)⟩
      show tile_Kids.f k (z : Int) (x : Int) (y : Int) = _
      unfold tile_Kids.f
      rw [hok, Option.bind_some, if_pos rfl, if_pos (by omega)]
    · have hkid := fun k => kids_in k (z : Int) (sd z) (pw z) (x : Int) (y : Int) hs (by omega) es en (by omega) hx (by omega) hy
      refine ⟨[⟨(z : Int) + 1, 2 * (x : Int), 2 * (y : Int)⟩, ⟨(z : Int) + 1, 2 * (x : Int) + 1, 2 * (y : Int)⟩, ⟨(z : Int) + 1, 2 * (x : Int), 2 * (y : Int) + 1⟩, ⟨(z : Int) + 1, 2 * (x : Int) + 1, 2 * (y : Int) + 1⟩], 0, ⟨5, fun k hk => ?_⟩, ?_⟩
      · obtain ⟨k, rfl⟩ : ∃ j, k = j + 5 := ⟨k - 5, by omega⟩
        exact hkid k
      · have wz : wrap64 ((z : Int) + 1) = (z : Int) + 1 := wrap_id (by omega) (by omega)
        have wx : wrap64 (2 * (x : Int)) = 2 * (x : Int) := wrap_id (by omega) (by omega)
        have wx1 : wrap64 (2 * (x : Int) + 1) = 2 * (x : Int) + 1 := wrap_id (by omega) (by omega)
        have wy : wrap64 (2 * (y : Int)) = 2 * (y : Int) := wrap_id (by omega) (by omega)
        have wy1 : wrap64 (2 * (y : Int) + 1) = 2 * (y : Int) + 1 := wrap_id (by omega) (by omega)
        refine Is.step (Is.bind (same_all [⟨(z : Int) + 1, 2 * (x : Int), 2 * (y : Int)⟩, ⟨(z : Int) + 1, 2 * (x : Int) + 1, 2 * (y : Int)⟩, ⟨(z : Int) + 1, 2 * (x : Int), 2 * (y : Int) + 1⟩, ⟨(z : Int) + 1, 2 * (x : Int) + 1, 2 * (y : Int) + 1⟩] (by simp)) (Is.pure true)) (fun k => ?_)
        rw [terrlaw5_family.j1, if_neg (by decide), if_neg (by omega), if_pos rfl, wz, wx, wx1, wy, wy1]
  obtain ⟨ks, g, hk1, hk2⟩ := hk
  by_cases c : z = 0
  · subst c
    refine ⟨0, 0, 0, 4, ks, g, ?_, hk1, ?_⟩
    · unfold tile_Up.f
      rw [hok, Option.bind_some, if_pos rfl, if_pos (by decide)]
    · have : Is (fun k => terrlaw5_family.j0 k 4 ks g false ((0 : Nat) : Int) (x : Int) (y : Int) 0 0 0) true := Is.step hk2 (fun k => by rw [terrlaw5_family.j0, if_neg (by decide), if_neg (by decide)])
      unfold terrlaw5_family.f
      exact Is.pos rfl (Is.pos rfl this)
  · have hu := up_in (z : Int) (sd z) (pw z) (x : Int) (y : Int) hs (by omega) es en (by omega) hx (by omega) hy
    refine ⟨_, _, _, _, ks, g, hu, hk1, ?_⟩
    have wz : wrap64 ((z : Int) - 1) = (z : Int) - 1 := wrap_id (by omega) (by omega)
    have e := not_three (a := (z : Int) - 1) (b := (x : Int) / 2) (c := (y : Int) / 2) wz.symm (half_even x hn.1).symm (half_even y hn.2).symm
    have : Is (fun k => terrlaw5_family.j0 k 0 ks g false (z : Int) (x : Int) (y : Int) ((z : Int) - 1) ((x : Int) / 2) ((y : Int) / 2)) true := Is.step hk2 (fun k => by rw [terrlaw5_family.j0, if_neg (by decide), if_pos (by omega), if_pos rfl, e])
    unfold terrlaw5_family.f
    exact Is.neg (by omega) this
theorem not_ok {z x y : Int} (h : ¬ okP z x y) (px py : Int) : tile_Up.f z x y = some (0, 0, 0, 1) ∧ (∀ k, tile_Kids.f k z x y = some ([], 1)) ∧ tile_Box.f z x y = some (0, 0, 0, 0) ∧ tile_Local.f z x y px py = some (0, 0) ∧ tile_World.f z x y px py = some (0, 0) := by
  have e : tile_Ok.f z x y = some false := by rw [tok_all, decide_eq_false h]
  unfold tile_Up.f tile_Kids.f tile_Box.f tile_Local.f tile_World.f
  rw [e]
  exact ⟨rfl, fun _ => rfl, rfl, rfl, rfl⟩
theorem clamp_twice (z x y px py : Int) : tile_Local.f z x y px py = tile_Local.f z x y (cl px) (cl py) ∧ tile_World.f z x y px py = tile_World.f z x y (cl px) (cl py) := by
  have hx := cl_rng px
  have hy := cl_rng py
  have e : point_Clamp.f px py = point_Clamp.f (cl px) (cl py) := by rw [clamp_all, clamp_all, cl_id hx.1 hx.2, cl_id hy.1 hy.2]
  unfold tile_Local.f tile_World.f
  rw [e]
  exact ⟨rfl, rfl⟩
theorem clamped_all (x y : Int) : terrref5_Clamped.f x y = some (cl x, cl y) := by
  have e : ∀ n : Int, lim n = cl n := fun n => by unfold lim cl mx mn; split <;> split <;> (try split) <;> (try split) <;> omega
  unfold terrref5_Clamped.f
  rw [e, e]
/-- Within a unit. -/
theorem in_unit (q b u : Int) (u0 : 8 ≤ u) (u1 : u ≤ 8192) (q0 : -1048576 ≤ q) (q1 : q ≤ 1048576) (b0 : -1048576 ≤ b) (b1 : b ≤ 1048576) : 0 ≤ wrap64 (wrap64 (q - b) - wrap64 ((q - b) / u * u)) ∧ wrap64 (wrap64 (q - b) - wrap64 ((q - b) / u * u)) < u := by
  have e := Int.mul_ediv_add_emod (q - b) u
  have m0 := Int.emod_nonneg (q - b) (show u ≠ 0 by omega)
  have m1 := Int.emod_lt_of_pos (q - b) (show 0 < u by omega)
  rw [Int.mul_comm] at e
  generalize (q - b) / u * u = m at e ⊢
  rw [wrap_id (x := q - b) (by omega) (by omega), wrap_id (x := m) (by omega) (by omega), wrap_id (x := q - b - m) (by omega) (by omega)]
  omega
theorem less_all (tz tx ty uz ux uy : Int) : ∃ (o : Int) (lt : Bool), terrref5_Order.f tz tx ty uz ux uy = some o ∧ tile_Less.f tz tx ty uz ux uy = some lt ∧ (mx (mx (mx tx ty) ux) uy < 1099511627776 → mn (mn (mn tx ty) ux) uy > -1099511627776 → lt = (decide (tz < uz) || (decide (tz = uz) && decide (o < 0)))) := by
  unfold terrref5_Order.f tile_Less.f
  have key : mx (mx (mx tx ty) ux) uy < 1099511627776 → mn (mn (mn tx ty) ux) uy > -1099511627776 → (-1099511627776 < tx ∧ tx < 1099511627776) ∧ (-1099511627776 < ty ∧ ty < 1099511627776) ∧ (-1099511627776 < ux ∧ ux < 1099511627776) ∧ (-1099511627776 < uy ∧ uy < 1099511627776) := by
    intro h1 h2
    have m1 : ∀ a b : Int, a ≤ mx a b ∧ b ≤ mx a b := fun a b => by unfold mx; split <;> omega
    have m2 : ∀ a b : Int, mn a b ≤ a ∧ mn a b ≤ b := fun a b => by unfold mn; split <;> omega
    have a1 := m1 tx ty
    have a2 := m1 (mx tx ty) ux
    have a3 := m1 (mx (mx tx ty) ux) uy
    have b1 := m2 tx ty
    have b2 := m2 (mn tx ty) ux
    have b3 := m2 (mn (mn tx ty) ux) uy
    omega
  by_cases c : ty = uy
  · rw [if_pos c, if_pos c]
    by_cases cz : tz = uz
    · rw [if_pos cz]
      refine ⟨_, _, rfl, rfl, fun h1 h2 => ?_⟩
      obtain ⟨k1, k2, k3, k4⟩ := key h1 h2
      rw [wrap_id (by omega) (by omega), decide_eq_false (show ¬ tz < uz by omega), decide_eq_true cz, Bool.false_or, Bool.true_and]
      exact decide_eq_decide.2 (by omega)
    · rw [if_neg cz]
      refine ⟨_, _, rfl, rfl, fun h1 h2 => ?_⟩
      rw [decide_eq_false cz, Bool.false_and, Bool.or_false]
  · rw [if_neg c]
    by_cases cz : tz = uz
    · rw [if_pos cz, if_neg c]
      refine ⟨_, _, rfl, rfl, fun h1 h2 => ?_⟩
      obtain ⟨k1, k2, k3, k4⟩ := key h1 h2
      rw [wrap_id (by omega) (by omega), decide_eq_false (show ¬ tz < uz by omega), decide_eq_true cz, Bool.false_or, Bool.true_and]
      exact decide_eq_decide.2 (by omega)
    · rw [if_neg cz]
      refine ⟨_, _, rfl, rfl, fun h1 h2 => ?_⟩
      rw [decide_eq_false cz, Bool.false_and, Bool.or_false]
/-- All that the law's calls answer. -/
theorem tells (tz tx ty uz ux uy px py z : Int) :
    ∃ (k : Nat) (side o o0 o1 o2 e u0 u1 u2 f g b0 b1 b2 b3 q0 q1 l0 l1 w0 w1 : Int) (ok lt v : Bool) (ks : List S34), terrlaw5_tiles.f = some true ∧
      (((z < 0 ∨ 10 < z) ∧ side = 0) ∨ (0 ≤ z ∧ z ≤ 10 ∧ wrap64 (Int.tdiv 2097152 (shl .i64 1 z)) = side ∧ ¬ shl .i64 1 z = 0)) ∧
      tile_Side.f z = some side ∧ tile_Unit.f z = some (wrap64 (Int.tdiv side 256)) ∧ tile_Ok.f tz tx ty = some ok ∧ terrref5_TileOk.f k tz tx ty = some ok ∧
      terrref5_Order.f tz tx ty uz ux uy = some o ∧ tile_Less.f tz tx ty uz ux uy = some lt ∧ (mx (mx (mx tx ty) ux) uy < 1099511627776 → mn (mn (mn tx ty) ux) uy > -1099511627776 → lt = (decide (tz < uz) || (decide (tz = uz) && decide (o < 0)))) ∧
      tile_Of.f px py z = some (o0, o1, o2, e) ∧ terrref5_Valid.f px py = some v ∧ (((side = 0 ∨ v = false) ∧ e = 1 ∧ o0 = 0 ∧ o1 = 0 ∧ o2 = 0) ∨ (¬ side = 0 ∧ v = true ∧ e = 0 ∧ terrref5_TileOf.f k px py z = some (o0, o1, o2))) ∧
      tile_Up.f tz tx ty = some (u0, u1, u2, f) ∧ tile_Kids.f k tz tx ty = some (ks, g) ∧ tile_Box.f tz tx ty = some (b0, b1, b2, b3) ∧ tile_Local.f tz tx ty px py = some (l0, l1) ∧ tile_World.f tz tx ty px py = some (w0, w1) ∧
      ((ok = false ∧ u0 = 0 ∧ u1 = 0 ∧ u2 = 0 ∧ f = 1 ∧ ks = [] ∧ g = 1 ∧ b0 = 0 ∧ b1 = 0 ∧ b2 = 0 ∧ b3 = 0 ∧ l0 = 0 ∧ l1 = 0 ∧ w0 = 0 ∧ w1 = 0) ∨
       (ok = true ∧ terrref5_TileBox.f k tz tx ty = some (b0, b1, b2, b3) ∧ terrlaw5_family.f k tz tx ty u0 u1 u2 f ks g = some true ∧ terrref5_Clamped.f px py = some (q0, q1) ∧
        w0 = wrap64 (b0 + wrap64 (q0 * wrap64 (Int.tdiv (wrap64 (b2 - b0)) 256))) ∧ w1 = wrap64 (b1 + wrap64 (q1 * wrap64 (Int.tdiv (wrap64 (b2 - b0)) 256))) ∧
        0 ≤ wrap64 (wrap64 (q0 - b0) - wrap64 (l0 * wrap64 (Int.tdiv (wrap64 (b2 - b0)) 256))) ∧ wrap64 (wrap64 (q0 - b0) - wrap64 (l0 * wrap64 (Int.tdiv (wrap64 (b2 - b0)) 256))) < wrap64 (Int.tdiv (wrap64 (b2 - b0)) 256) ∧
        0 ≤ wrap64 (wrap64 (q1 - b1) - wrap64 (l1 * wrap64 (Int.tdiv (wrap64 (b2 - b0)) 256))) ∧ wrap64 (wrap64 (q1 - b1) - wrap64 (l1 * wrap64 (Int.tdiv (wrap64 (b2 - b0)) 256))) < wrap64 (Int.tdiv (wrap64 (b2 - b0)) 256))) := by
  have ht : terrlaw5_tiles.f = some true := by decide +kernel
  obtain ⟨o, lt, ho, hlt, hl⟩ := less_all tz tx ty uz ux uy
  obtain ⟨K1, hK1⟩ := tileok_all tz tx ty
  -- the side
  have hside : ∃ side, (((z < 0 ∨ 10 < z) ∧ side = 0) ∨ (0 ≤ z ∧ z ≤ 10 ∧ wrap64 (Int.tdiv 2097152 (shl .i64 1 z)) = side ∧ ¬ shl .i64 1 z = 0 ∧ ¬ side = 0)) ∧ tile_Side.f z = some side ∧ tile_Unit.f z = some (wrap64 (Int.tdiv side 256)) := by
    by_cases c : 0 ≤ z ∧ z ≤ 10
    · obtain ⟨i, rfl⟩ : ∃ i : Nat, z = (i : Int) := ⟨z.toNat, by omega⟩
      have hi : i ≤ 10 := by omega
      have r := sd_rng hi
      have es := side_sd hi
      refine ⟨sd i, .inr ⟨c.1, c.2, quo_sd hi, by rw [shl_pw hi]; omega, by omega⟩, es, ?_⟩
      unfold tile_Unit.f
      rw [es, Option.bind_some]
    · have es := side_out z (by omega)
      refine ⟨0, .inl ⟨by omega, rfl⟩, es, ?_⟩
      unfold tile_Unit.f
      rw [es, Option.bind_some]
  obtain ⟨side, hs1, hs2, hs3⟩ := hside
  -- the tile of the point
  have hof : ∃ o0 o1 o2 e, tile_Of.f px py z = some (o0, o1, o2, e) ∧ ∃ K, ∀ k, K ≤ k → (((side = 0 ∨ decide (vP px py) = false) ∧ e = 1 ∧ o0 = 0 ∧ o1 = 0 ∧ o2 = 0) ∨ (¬ side = 0 ∧ decide (vP px py) = true ∧ e = 0 ∧ terrref5_TileOf.f k px py z = some (o0, o1, o2))) := by
    by_cases c : (0 ≤ z ∧ z ≤ 10) ∧ vP px py
    · obtain ⟨c1, c2⟩ := c
      obtain ⟨i, rfl⟩ : ∃ i : Nat, z = (i : Int) := ⟨z.toNat, by omega⟩
      have hi : i ≤ 10 := by omega
      obtain ⟨K, hK⟩ := of_all i hi px py c2.1 c2.2.1 c2.2.2.1 c2.2.2.2
      refine ⟨_, _, _, _, of_good i hi px py c2.1 c2.2.1 c2.2.2.1 c2.2.2.2, K, fun k hk => .inr ⟨?_, decide_eq_true c2, rfl, hK k hk⟩⟩
      rcases hs1 with ⟨h, _⟩ | ⟨_, _, _, _, h⟩
      · omega
      · exact h
    · refine ⟨_, _, _, _, of_bad z px py ?_, 0, fun k _ => .inl ⟨?_, rfl, rfl, rfl, rfl⟩⟩
      · by_cases c1 : 0 ≤ z ∧ z ≤ 10
        · exact .inr fun c2 => c ⟨c1, c2⟩
        · exact .inl c1
      · by_cases c2 : vP px py
        · left
          rcases hs1 with ⟨_, h⟩ | ⟨h1, h2, _⟩
          · exact h
          · exact absurd ⟨⟨h1, h2⟩, c2⟩ c
        · exact .inr (decide_eq_false c2)
  obtain ⟨o0, o1, o2, e, hof1, K2, hof2⟩ := hof
  have hs1' : ((z < 0 ∨ 10 < z) ∧ side = 0) ∨ (0 ≤ z ∧ z ≤ 10 ∧ wrap64 (Int.tdiv 2097152 (shl .i64 1 z)) = side ∧ ¬ shl .i64 1 z = 0) := hs1.imp_right fun h => ⟨h.1, h.2.1, h.2.2.1, h.2.2.2.1⟩
  by_cases c : okP tz tx ty
  · have hok : decide (okP tz tx ty) = true := decide_eq_true c
    obtain ⟨c1, c2, c3, c4, c5, c6⟩ := c
    obtain ⟨i, rfl⟩ : ∃ i : Nat, tz = (i : Int) := ⟨tz.toNat, by omega⟩
    obtain ⟨x, rfl⟩ : ∃ x : Nat, tx = (x : Int) := ⟨tx.toNat, by omega⟩
    obtain ⟨y, rfl⟩ : ∃ y : Nat, ty = (y : Int) := ⟨ty.toNat, by omega⟩
    have hi : i ≤ 10 := by omega
    rw [shl_pw hi] at c5 c6
    obtain ⟨u0, u1, u2, f, ks, g, f1, ⟨K3, f2⟩, ⟨K4, f3⟩⟩ := family_all i x y hi c5 c6
    obtain ⟨K5, hB⟩ := box_all i x y hi c5 c6
    have r := sd_rng hi
    have hbox := box_in (i : Int) (sd i) (pw i) (x : Int) (y : Int) (sides_pw hi) (side_sd hi) (shl_pw hi) c3 c5 c4 c6
    obtain ⟨un, hu1, hu2, hu3, hu4⟩ := unit_in (i : Int) (sd i) (pw i) (sides_pw hi) (side_sd hi)
    have rx := cl_rng px
    have ry := cl_rng py
    have hloc := local_in (i : Int) (sd i) (pw i) (x : Int) (y : Int) un (cl px) (cl py) (sides_pw hi) (side_sd hi) (shl_pw hi) hu1 hu3 hu4 c3 c5 c4 c6 rx.1 rx.2 ry.1 ry.2
    have hwor := world_in (i : Int) (sd i) (pw i) (x : Int) (y : Int) un (cl px) (cl py) (sides_pw hi) (side_sd hi) (shl_pw hi) hu1 hu3 hu4 c3 c5 c4 c6 rx.1 rx.2 ry.1 ry.2
    rw [← (clamp_twice _ _ _ _ _).1] at hloc
    rw [← (clamp_twice _ _ _ _ _).2] at hwor
    have bx : (x : Int) * sd i ≤ 2097152 := by have := Int.mul_le_mul_of_nonneg_right (show (x : Int) ≤ pw i by omega) (show 0 ≤ sd i by omega); omega
    have b'y : (y : Int) * sd i ≤ 2097152 := by have := Int.mul_le_mul_of_nonneg_right (show (y : Int) ≤ pw i by omega) (show 0 ≤ sd i by omega); omega
    have bx0 : 0 ≤ (x : Int) * sd i := Int.mul_nonneg (by omega) (by omega)
    have by0 : 0 ≤ (y : Int) * sd i := Int.mul_nonneg (by omega) (by omega)
    have prod : ∀ p : Int, -1048576 ≤ p → p ≤ 1048576 → -8589934592 ≤ p * un ∧ p * un ≤ 8589934592 := by
      intro p l r
      have i1 := Int.mul_le_mul_of_nonneg_right l (show (0 : Int) ≤ un by omega)
      have i2 := Int.mul_le_mul_of_nonneg_right r (show (0 : Int) ≤ un by omega)
      omega
    have px1 := prod _ rx.1 rx.2
    have py1 := prod _ ry.1 ry.2
    generalize hX : (x : Int) * sd i = X at *
    generalize hY : (y : Int) * sd i = Y at *
    have hun : wrap64 (Int.tdiv (wrap64 (X - 1048576 + sd i - (X - 1048576))) 256) = un := by
      rw [show X - 1048576 + sd i - (X - 1048576) = sd i by omega, wrap_id (x := sd i) (by omega) (by omega), tdiv_pos (by omega), wrap_id (by omega) (by omega)]
      omega
    have ux := in_unit (cl px) (X - 1048576) un hu3 hu4 rx.1 rx.2 (by omega) (by omega)
    have uy := in_unit (cl py) (Y - 1048576) un hu3 hu4 ry.1 ry.2 (by omega) (by omega)
    refine ⟨K1 + K2 + K3 + K4 + K5, side, o, o0, o1, o2, e, u0, u1, u2, f, g, _, _, _, _, cl px, cl py, _, _, _, _, true, lt, _, ks, ht, hs1', hs2, hs3, by rw [tok_all, hok], by rw [← hok]; exact hK1 _ (by omega), ho, hlt, hl, hof1, valid_all px py, hof2 _ (by omega), f1, f2 _ (by omega), hbox, hloc, hwor, .inr ⟨rfl, ?_, f3 _ (by omega), clamped_all px py, ?_, ?_, ?_, ?_, ?_, ?_⟩⟩
    · exact hB _ (by omega)
    · rw [hun, wrap_id (x := cl px * un) (by omega) (by omega), wrap_id (by omega) (by omega)]
    · rw [hun, wrap_id (x := cl py * un) (by omega) (by omega), wrap_id (by omega) (by omega)]
    · rw [hun]; exact ux.1
    · rw [hun]; exact ux.2
    · rw [hun]; exact uy.1
    · rw [hun]; exact uy.2
  · obtain ⟨n1, n2, n3, n4, n5⟩ := not_ok c px py
    have hok : decide (okP tz tx ty) = false := decide_eq_false c
    exact ⟨K1 + K2, side, o, o0, o1, o2, e, 0, 0, 0, 1, 1, 0, 0, 0, 0, 0, 0, 0, 0, 0, 0, false, lt, _, [], ht, hs1', hs2, hs3, by rw [tok_all, hok], by rw [← hok]; exact hK1 _ (by omega), ho, hlt, hl, hof1, valid_all px py, hof2 _ (by omega), n1, n2 _, n3, n4, n5, .inl ⟨rfl, rfl, rfl, rfl, rfl, rfl, rfl, rfl, rfl, rfl, rfl, rfl, rfl, rfl, rfl⟩⟩
end Go.Proofs.Ytojehbkadlmbjaa.U
