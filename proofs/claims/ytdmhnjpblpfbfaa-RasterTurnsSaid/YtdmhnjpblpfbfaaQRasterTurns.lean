/- What the Go function terrkeep5_RasterTurns comes to, and its contract. Condition: its printed twin gives an answer, which is true. -/
import Derived.Test.YtdmhnjpblpfbfaaQf18
import Derived.Test.YtdmhnjpblpfbfaaQf39
import Derived.Test.YtdmhnjpblpfbfaaQf41
import Derived.Test.YtdmhnjpblpfbfaaQf42
import Derived.Test.YtdmhnjpblpfbfaaQf46
import Derived.Test.YtdmhnjpblpfbfaaQf47
import Derived.Test.YtdmhnjpblpfbfaaQf48
import Derived.Test.YtdmhnjpblpfbfaaQf49
namespace Go.Proofs.Ytdmhnjpblpfbfaa.Q
open Go.RowKit Go.Proofs.YtdmhnjpblpfbfaaW.PrintWords Go.Proofs.YtdmhnjpblpfbfaaW.PrintLast Go.Proofs.YtdmhnjpblpfbfaaW.PrintMore
attribute [local go_sem] max2_int min2_int max_two min_two max_three min_three max_four min_four
set_option linter.unusedVariables false
set_option linter.unusedSimpArgs false
/-! ### terrkeep5_RasterTurns: function 13 -/
def terrkeep5_RasterTurns.l0 : Nat → Int → Int → List (List (S40)) → List (List (S40)) → List (List (S40)) → List (List (S40)) → Int → Int → Option (Bool)
  | 0, _, _, _, _, _, _, _, _ => none
  | k + 1, x1, x2, x7, x8, x9, x21, x22, x23 => if x23 < x22 then (if 0 ≤ x23 then (if x23 < (x21.length : Int) then ((terrmake_Below.f x1 ((rd_L2 x21 x23).length : Int)).bind fun t336 => (if 0 ≤ t336 then (if t336 ≤ ((rd_L2 x21 x23).length : Int) then ((api_Point_46.f k (([((rd_L2 x21 x23).drop (t336 : Int).toNat), ((rd_L2 x21 x23).take (t336 : Int).toNat)] : List (List (S40))))).bind fun t350 => (if x8.length < 5864062014805 then ((api_Point_47.f (rd_L2 x21 x23)).bind fun t356 => ((api_Point_48.f k t356).bind fun t359 => (if x9.length < 5864062014805 then (terrkeep5_RasterTurns.l0 k x1 x2 x7 (x8 ++ [t350]) (x9 ++ [t359]) x21 x22 (wrap64 (x23 + 1))) else (none)))) else (none))) else (none)) else (none))) else (none)) else (none)) else ((raster_Row.f k x7 x2).bind fun t363 => (if (t363.length : Int) = 1024 then ((raster_Row.f k x8 x2).bind fun t366 => ((slices_Equal_bool_bool.f k t363 t366).bind fun t369 => (if t369 = true then ((raster_Row.f k x9 x2).bind fun t370 => ((slices_Equal_bool_bool.f k t363 t370).bind fun t373 => (some t373))) else (some false)))) else (some false)))
def terrkeep5_RasterTurns.f (k : Nat) (l0 : List Int) (a1 : Int) (a2 : Int) : Option (Bool) := (terrkeep5_covered.f k).bind fun t330 => (if t330 = true then ((terrkeep5_Local.f k l0).bind fun t331 => ((terrmake_Below.f a2 1024).bind fun t334 => (terrkeep5_RasterTurns.l0 k a1 t334 t331 ([] : List (List (S40))) ([] : List (List (S40))) t331 (t331.length : Int) 0))) else (some false))
theorem terrkeep5_RasterTurns.mono_l : ∀ k, (∀ y0 y1 y2 y3 y4 y5 y6 y7, LeO (terrkeep5_RasterTurns.l0 k y0 y1 y2 y3 y4 y5 y6 y7) (terrkeep5_RasterTurns.l0 (k + 1) y0 y1 y2 y3 y4 y5 y6 y7))
  | 0 => fun _ _ _ _ _ _ _ _ r h => by simp [terrkeep5_RasterTurns.l0] at h
  | k + 1 => by
    have ih0 := terrkeep5_RasterTurns.mono_l k
    · intro y0 y1 y2 y3 y4 y5 y6 y7
      unfold terrkeep5_RasterTurns.l0
      repeat' first
      | (with_reducible exact ih0 _ _ _ _ _ _ _ _)
      | (with_reducible exact api_Point_46.mono _ _)
      | (with_reducible exact api_Point_48.mono _ _)
      | (with_reducible exact raster_Row.mono _ _ _)
      | (with_reducible exact slices_Equal_bool_bool.mono _ _ _)
      | (with_reducible exact terrkeep5_Local.mono _ _)
      | (with_reducible exact terrkeep5_covered.mono _)
      | (with_reducible exact LeO.refl _)
      | (with_reducible exact LeO.none _)
      | (with_reducible refine LeO.ite ?_ ?_)
      | (with_reducible refine LeO.bind ?_ (fun _ => ?_))
      | exact ih0 _ _ _ _ _ _ _ _
      | exact api_Point_46.mono _ _
      | exact api_Point_48.mono _ _
      | exact raster_Row.mono _ _ _
      | exact slices_Equal_bool_bool.mono _ _ _
      | exact terrkeep5_Local.mono _ _
      | exact terrkeep5_covered.mono _
      | exact LeO.none _
      | refine LeO.ite ?_ ?_
      | refine LeO.bind ?_ (fun _ => ?_)
theorem terrkeep5_RasterTurns.mono : ∀ a0 a1 a2 k, LeO (terrkeep5_RasterTurns.f k a0 a1 a2) (terrkeep5_RasterTurns.f (k + 1) a0 a1 a2) := by
  intro a0 a1 a2 k
  have ih0 := terrkeep5_RasterTurns.mono_l k
  unfold terrkeep5_RasterTurns.f
  repeat' first
      | (with_reducible exact ih0 _ _ _ _ _ _ _ _)
      | (with_reducible exact api_Point_46.mono _ _)
      | (with_reducible exact api_Point_48.mono _ _)
      | (with_reducible exact raster_Row.mono _ _ _)
      | (with_reducible exact slices_Equal_bool_bool.mono _ _ _)
      | (with_reducible exact terrkeep5_Local.mono _ _)
      | (with_reducible exact terrkeep5_covered.mono _)
      | (with_reducible exact LeO.refl _)
      | (with_reducible exact LeO.none _)
      | (with_reducible refine LeO.ite ?_ ?_)
      | (with_reducible refine LeO.bind ?_ (fun _ => ?_))
      | exact ih0 _ _ _ _ _ _ _ _
      | exact api_Point_46.mono _ _
      | exact api_Point_48.mono _ _
      | exact raster_Row.mono _ _ _
      | exact slices_Equal_bool_bool.mono _ _ _
      | exact terrkeep5_Local.mono _ _
      | exact terrkeep5_covered.mono _
      | exact LeO.none _
      | refine LeO.ite ?_ ?_
      | refine LeO.bind ?_ (fun _ => ?_)
def terrkeep5_RasterTurns.T10 : Bool × List (List Nat × List Nat) := (true, [([], []), ([], []), ([], []), ([1, 2], [1, 2]), ([], []), ([], []), ([4, 5], [4, 5]), ([3, 6], [3, 6]), ([7], [7]), ([8], [8]), ([0, 9, 8], [0, 9]), ([10, 10, 0, 1, 2, 3, 4, 5, 6, 7, 8, 9, 10], [0, 10])])
def terrkeep5_RasterTurns.B10 : List Nat := [0, 0, 0, 6, 0, 0, 48, 126, 254, 510, 1023, 2047]
theorem terrkeep5_RasterTurns.tab10 : rtab .any (opsOf Try.f13 10) = terrkeep5_RasterTurns.T10 := by kernel_rfl
theorem terrkeep5_RasterTurns.bits10 : waitsOk terrkeep5_RasterTurns.T10.2 terrkeep5_RasterTurns.B10 = true := by kernel_rfl
set_option maxHeartbeats 8000000 in
set_option maxRecDepth 100000 in
theorem terrkeep5_RasterTurns.calls (k : Nat) (A0 : Option Addr) (c0 : Nat) (l0 : List Int) (a1 : Int) (a2 : Int) (r : Bool) (w : World) (hr0 : Kd.C (Kd.int .i64) w A0 l0.length l0) (hc0 : l0.length ≤ c0) (h : terrkeep5_RasterTurns.f k l0 a1 a2 = some r) (hr : r = true) :
    Calls Try.prog 13 #[.slice A0 l0.length c0, .int .i64 a1, .int .i64 a2] w fun e w' => e = .returned (.bool r) ∧ Below w.heap.size w w' := by
  have HR0 := Aside0.mk hr0
  have HC0 := Aside0.mk hc0
  clear hr0 hc0
  have HB := Aside0.mk (Below.refl w.heap.size w)
  have H : ((terrkeep5_covered.f k).bind fun t330 => (if t330 = true then ((terrkeep5_Local.f k l0).bind fun t331 => ((terrmake_Below.f a2 1024).bind fun t334 => (terrkeep5_RasterTurns.l0 k a1 t334 t331 ([] : List (List (S40))) ([] : List (List (S40))) t331 (t331.length : Int) 0))) else (some false))) = some r := h
  clear h
  replace H := Option.bind_eq_some_iff.mp H
  obtain ⟨t330, A40, H⟩ := H
  replace H : (if t330 = true then ((terrkeep5_Local.f k l0).bind fun t331 => ((terrmake_Below.f a2 1024).bind fun t334 => (terrkeep5_RasterTurns.l0 k a1 t334 t331 ([] : List (List (S40))) ([] : List (List (S40))) t331 (t331.length : Int) 0))) else (some false)) = some r := H
  have A4 := Aside0.mk A40
  clear A40
  by_cases c5 : t330 = true
  · subst c5
    have H1 : ((terrkeep5_Local.f k l0).bind fun t331 => ((terrmake_Below.f a2 1024).bind fun t334 => (terrkeep5_RasterTurns.l0 k a1 t334 t331 ([] : List (List (S40))) ([] : List (List (S40))) t331 (t331.length : Int) 0))) = some r := by rw [if_pos rfl] at H; exact H
    clear H
    have H := H1
    clear H1
    replace H := Option.bind_eq_some_iff.mp H
    obtain ⟨t331, A60, H⟩ := H
    replace H : ((terrmake_Below.f a2 1024).bind fun t334 => (terrkeep5_RasterTurns.l0 k a1 t334 t331 ([] : List (List (S40))) ([] : List (List (S40))) t331 (t331.length : Int) 0)) = some r := H
    have A6 := Aside0.mk A60
    clear A60
    replace H := Option.bind_eq_some_iff.mp H
    obtain ⟨t334, A70, H⟩ := H
    replace H : (terrkeep5_RasterTurns.l0 k a1 t334 t331 ([] : List (List (S40))) ([] : List (List (S40))) t331 (t331.length : Int) 0) = some r := H
    have A7 := Aside0.mk A70
    clear A70
    have H' := Aside0.mk H
    clear H
    go_enter Try.func13, Try.ntmps13
    go_wp2_with (first | ((with_reducible refine gate_callee (f := 41) rfl ?_); refine goesL_ (some 15) rfl rfl Try.func41 (by kernel_rfl) rfl #[] rfl (by (try simp only [List.map_toArray, List.map_cons, List.map_nil]); first | done | rfl | (simp only [List.length_drop, List.length_take]; rfl)) ?_; (with_reducible refine (terrkeep5_covered.calls k  true _ A4.out).mono ?_); rintro e w8 ⟨rfl, hb⟩; refine ⟨_, rfl, ?_⟩; have n0_ := Aside0.mk (below_step (by repeat (first | (with_reducible first | exact HB.out | apply below_alloc | apply pw_below_drewN | apply below_drew1) | exact HB.out)) hb); clear HB; have HB := n0_; clear n0_; (try clear hb); (try clear hb2); (try clear hk); (try clear hi)) | ((with_reducible refine gate_callee (f := 42) rfl ?_); refine goesL_ (some 18) rfl rfl Try.func42 (by kernel_rfl) rfl #[.slice A0 l0.length c0] rfl (by (try simp only [List.map_toArray, List.map_cons, List.map_nil]); first | done | rfl | (simp only [List.length_drop, List.length_take]; rfl)) ?_; (with_reducible refine (terrkeep5_Local.calls k _ _ l0 t331 _ ?side1 ?side2 A6.out).mono ?_); (case side1 => repeat (first | exact (Kd.C_below HR0.out HB.out) | (with_reducible refine Kd.C_alloc ?_ _) | (with_reducible refine Kd.C_drewN ?_ _) | (with_reducible refine Kd.C_drew ?_))); (case side2 => exact HC0.out); rintro e w9 ⟨v332, rfl, ho0, hb⟩; refine ⟨_, rfl, ?_⟩; have n0_ := Aside0.mk (Kd.N_lower (Kd.N_mono (ok' := fun k_ => True) (Kd.S_N (Kd.S_bound ho0)) (fun k_ hk_ => trivial)) (below_size (by repeat (first | (with_reducible first | exact HB.out | apply below_alloc | apply pw_below_drewN | apply below_drew1) | exact HB.out)))); have n1_ := Aside0.mk (below_step (by repeat (first | (with_reducible first | exact HB.out | apply below_alloc | apply pw_below_drewN | apply below_drew1) | exact HB.out)) hb); clear HB; have HO333 := n0_; have HB := n1_; clear n0_ n1_; (try clear hb); (try clear hb2); (try clear hk); (try clear hi); (try clear ho0)) | ((with_reducible refine gate_callee (f := 18) rfl ?_); refine goesL_ (some 20) rfl rfl Try.func18 (by kernel_rfl) rfl #[.int .i64 a2, .int .i64 1024] rfl (by (try simp only [List.map_toArray, List.map_cons, List.map_nil]); first | done | rfl | (simp only [List.length_drop, List.length_take]; rfl)) ?_; (with_reducible refine (terrmake_Below.calls a2 1024 t334 _ A7.out).mono ?_); rintro e w' ⟨rfl, ⟨nd, rfl⟩⟩; refine ⟨_, rfl, ?_⟩; obtain ⟨Ao10, co10, eo10⟩ := Kd.N_slice HO333.out; subst eo10))
    go_loopg [8, 9, 23] k (fun kq v8 v9 v23 w' => ∃ (x8_1 : List (List (S40))) (x9_1 : List (List (S40))) (x23_1 : Int), v23 = .int .i64 x23_1 ∧ Aside0 (terrkeep5_RasterTurns.l0 kq a1 t334 t331 x8_1 x9_1 t331 (t331.length : Int) x23_1 = some r) ∧ Aside0 (kq ≤ k) ∧ Aside0 (Kd.N (Kd.slice 40 k40) 54 w' w.heap.size (fun k_ => some k_ ≠ (v8 : Value).ownBlock ∧ some k_ ≠ (v9 : Value).ownBlock) (.slice Ao10 t331.length co10) t331) ∧ Aside0 (Kd.N (Kd.slice 40 k40) 54 w' w.heap.size (fun k_ => some k_ ≠ ((.slice Ao10 t331.length co10) : Value).ownBlock ∧ some k_ ≠ (v9 : Value).ownBlock ∧ some k_ ≠ ((.slice Ao10 t331.length co10) : Value).ownBlock) v8 x8_1) ∧ Aside0 (Kd.N (Kd.slice 40 k40) 54 w' w.heap.size (fun k_ => some k_ ≠ ((.slice Ao10 t331.length co10) : Value).ownBlock ∧ some k_ ≠ (v8 : Value).ownBlock ∧ some k_ ≠ ((.slice Ao10 t331.length co10) : Value).ownBlock) v9 x9_1) ∧ Aside0 (Kd.N (Kd.slice 40 k40) 54 w' w.heap.size (fun k_ => some k_ ≠ (v8 : Value).ownBlock ∧ some k_ ≠ (v9 : Value).ownBlock) (.slice Ao10 t331.length co10) t331) ∧ Aside0 (Below w.heap.size w w'))
    case atStart => exact ⟨(([] : List (List (S40)))), (([] : List (List (S40)))), (0), (by first | rfl | (simp; done) | (simp [*]; done)), H', ⟨Nat.le_refl _⟩, ⟨by (with_reducible repeat (first | apply Kd.N_alloc | apply Kd.N_drewN | apply Kd.N_drew)); exact Kd.N_mono HO333.out (fun _ hk => ⟨(by simp [Value.ownBlock]), (by simp [Value.ownBlock])⟩)⟩, ⟨by first | exact Kd.S_nil _ _ _ _ _ | exact Kd.N_nil _ _ _ _ _ | exact Kd.V_nil _ _ _ _ _ | exact Kd.Q_nil _ _ _ _ _ | exact Kd.R_nil _ _ _ _ _⟩, ⟨by first | exact Kd.S_nil _ _ _ _ _ | exact Kd.N_nil _ _ _ _ _ | exact Kd.V_nil _ _ _ _ _ | exact Kd.Q_nil _ _ _ _ _ | exact Kd.R_nil _ _ _ _ _⟩, ⟨by (with_reducible repeat (first | apply Kd.N_alloc | apply Kd.N_drewN | apply Kd.N_drew)); exact Kd.N_mono HO333.out (fun _ hk => ⟨(by simp [Value.ownBlock]), (by simp [Value.ownBlock])⟩)⟩, ⟨by repeat (first | (with_reducible first | exact HB.out | apply below_alloc | apply pw_below_drewN | apply below_drew1) | exact HB.out)⟩⟩
    case round =>
      clear H'
      try clear c1
      try clear p2
      try clear c4
      try clear c5
      try clear p5
      obtain ⟨x8_1, x9_1, x23_1, rfl, HA, HK1, HO_7, HO_8, HO_9, HO_21, HB⟩ := hrel
      cases gk with
      | zero => exact absurd HA.out (by simp [terrkeep5_RasterTurns.l0])
      | succ k1 =>
        have H := HA.out
        clear HA
        simp only [terrkeep5_RasterTurns.l0] at H
        by_cases c11 : x23_1 < (t331.length : Int)
        · rw [if_pos c11] at H
          have c11b0 : decide (x23_1 < (t331.length : Int)) = true := decide_eq_true c11
          clear c11
          by_cases c12 : 0 ≤ x23_1
          · rw [if_pos c12] at H
            have c12b0 : decide (0 ≤ x23_1) = true := decide_eq_true c12
            clear c12
            by_cases c13 : x23_1 < (t331.length : Int)
            · rw [if_pos c13] at H
              have c13b0 : decide (x23_1 < (t331.length : Int)) = true := decide_eq_true c13
              clear c13
              replace H := Option.bind_eq_some_iff.mp H
              obtain ⟨t336, A140, H⟩ := H
              replace H : (if 0 ≤ t336 then (if t336 ≤ ((rd_L2 t331 x23_1).length : Int) then ((api_Point_46.f k1 (([((rd_L2 t331 x23_1).drop (t336 : Int).toNat), ((rd_L2 t331 x23_1).take (t336 : Int).toNat)] : List (List (S40))))).bind fun t350 => (if x8_1.length < 5864062014805 then ((api_Point_47.f (rd_L2 t331 x23_1)).bind fun t356 => ((api_Point_48.f k1 t356).bind fun t359 => (if x9_1.length < 5864062014805 then (terrkeep5_RasterTurns.l0 k1 a1 t334 t331 (x8_1 ++ [t350]) (x9_1 ++ [t359]) t331 (t331.length : Int) (wrap64 (x23_1 + 1))) else (none)))) else (none))) else (none)) else (none)) = some r := H
              have A14 := Aside0.mk A140
              clear A140
              by_cases c15 : 0 ≤ t336
              · rw [if_pos c15] at H
                have c15b0 := eq_true c15
                have c15b1 : decide (0 ≤ t336) = true := decide_eq_true c15
                clear c15
                by_cases c16 : t336 ≤ ((rd_L2 t331 x23_1).length : Int)
                · rw [if_pos c16] at H
                  have c16b0 := eq_true c16
                  have c16b1 : decide (t336 ≤ ((rd_L2 t331 x23_1).length : Int)) = true := decide_eq_true c16
                  clear c16
                  obtain ⟨y337, hy337⟩ : ∃ y_ : List (S40), y_ = ((rd_L2 t331 x23_1).drop (t336 : Int).toNat) := ⟨_, rfl⟩
                  replace H : ((api_Point_46.f k1 (([y337, ((rd_L2 t331 x23_1).take (t336 : Int).toNat)] : List (List (S40))))).bind fun t350 => (if x8_1.length < 5864062014805 then ((api_Point_47.f (rd_L2 t331 x23_1)).bind fun t356 => ((api_Point_48.f k1 t356).bind fun t359 => (if x9_1.length < 5864062014805 then (terrkeep5_RasterTurns.l0 k1 a1 t334 t331 (x8_1 ++ [t350]) (x9_1 ++ [t359]) t331 (t331.length : Int) (wrap64 (x23_1 + 1))) else (none)))) else (none))) = some r := by first | (rw [hy337]; with_reducible exact H) | (have H2_ := (Option.bind_some _ _).symm.trans H; rw [hy337]; with_reducible exact H2_) | (have H2_ := (Option.bind_some _ _).symm.trans H; with_reducible exact H2_) | with_reducible exact H | (rw [hy337]; exact H) | exact H
                  have Ny337 := Aside0.mk hy337
                  clear hy337
                  have c17b0 := eq_true (of_decide_eq_true (by first | (with_reducible assumption) | assumption) : 0 ≤ t336)
                  have c18b0 := eq_true (of_decide_eq_true (by first | (with_reducible assumption) | assumption) : t336 ≤ ((rd_L2 t331 x23_1).length : Int))
                  obtain ⟨y342, hy342⟩ : ∃ y_ : List (S40), y_ = ((rd_L2 t331 x23_1).take (t336 : Int).toNat) := ⟨_, rfl⟩
                  replace H : ((api_Point_46.f k1 (([y337, y342] : List (List (S40))))).bind fun t350 => (if x8_1.length < 5864062014805 then ((api_Point_47.f (rd_L2 t331 x23_1)).bind fun t356 => ((api_Point_48.f k1 t356).bind fun t359 => (if x9_1.length < 5864062014805 then (terrkeep5_RasterTurns.l0 k1 a1 t334 t331 (x8_1 ++ [t350]) (x9_1 ++ [t359]) t331 (t331.length : Int) (wrap64 (x23_1 + 1))) else (none)))) else (none))) = some r := by first | (rw [hy342]; with_reducible exact H) | (have H2_ := (Option.bind_some _ _).symm.trans H; rw [hy342]; with_reducible exact H2_) | (have H2_ := (Option.bind_some _ _).symm.trans H; with_reducible exact H2_) | with_reducible exact H | (rw [hy342]; exact H) | exact H
                  have Ny342 := Aside0.mk hy342
                  clear hy342
                  obtain ⟨y347, hy347⟩ : ∃ y_ : List (List (S40)), y_ = (([y337, y342] : List (List (S40)))) := ⟨_, rfl⟩
                  replace H : ((api_Point_46.f k1 y347).bind fun t350 => (if x8_1.length < 5864062014805 then ((api_Point_47.f (rd_L2 t331 x23_1)).bind fun t356 => ((api_Point_48.f k1 t356).bind fun t359 => (if x9_1.length < 5864062014805 then (terrkeep5_RasterTurns.l0 k1 a1 t334 t331 (x8_1 ++ [t350]) (x9_1 ++ [t359]) t331 (t331.length : Int) (wrap64 (x23_1 + 1))) else (none)))) else (none))) = some r := by first | (rw [hy347]; with_reducible exact H) | (have H2_ := (Option.bind_some _ _).symm.trans H; rw [hy347]; with_reducible exact H2_) | (have H2_ := (Option.bind_some _ _).symm.trans H; with_reducible exact H2_) | with_reducible exact H | (rw [hy347]; exact H) | exact H
                  have Ny347 := Aside0.mk hy347
                  clear hy347
                  replace H := Option.bind_eq_some_iff.mp H
                  obtain ⟨t350, A190, H⟩ := H
                  replace H : (if x8_1.length < 5864062014805 then ((api_Point_47.f (rd_L2 t331 x23_1)).bind fun t356 => ((api_Point_48.f k1 t356).bind fun t359 => (if x9_1.length < 5864062014805 then (terrkeep5_RasterTurns.l0 k1 a1 t334 t331 (x8_1 ++ [t350]) (x9_1 ++ [t359]) t331 (t331.length : Int) (wrap64 (x23_1 + 1))) else (none)))) else (none)) = some r := H
                  have A19 := Aside0.mk A190
                  clear A190
                  by_cases c20 : x8_1.length < 5864062014805
                  · rw [if_pos c20] at H
                    have LMc20 := Aside0.mk c20
                    clear c20
                    obtain ⟨y353, hy353⟩ : ∃ y_ : List (List (S40)), y_ = (x8_1 ++ [t350]) := ⟨_, rfl⟩
                    replace H : ((api_Point_47.f (rd_L2 t331 x23_1)).bind fun t356 => ((api_Point_48.f k1 t356).bind fun t359 => (if x9_1.length < 5864062014805 then (terrkeep5_RasterTurns.l0 k1 a1 t334 t331 y353 (x9_1 ++ [t359]) t331 (t331.length : Int) (wrap64 (x23_1 + 1))) else (none)))) = some r := by first | (rw [hy353]; with_reducible exact H) | (have H2_ := (Option.bind_some _ _).symm.trans H; rw [hy353]; with_reducible exact H2_) | (have H2_ := (Option.bind_some _ _).symm.trans H; with_reducible exact H2_) | with_reducible exact H | (rw [hy353]; exact H) | exact H
                    have Ny353 := Aside0.mk hy353
                    clear hy353
                    replace H := Option.bind_eq_some_iff.mp H
                    obtain ⟨t356, A210, H⟩ := H
                    replace H : ((api_Point_48.f k1 t356).bind fun t359 => (if x9_1.length < 5864062014805 then (terrkeep5_RasterTurns.l0 k1 a1 t334 t331 y353 (x9_1 ++ [t359]) t331 (t331.length : Int) (wrap64 (x23_1 + 1))) else (none))) = some r := H
                    have A21 := Aside0.mk A210
                    clear A210
                    replace H := Option.bind_eq_some_iff.mp H
                    obtain ⟨t359, A220, H⟩ := H
                    replace H : (if x9_1.length < 5864062014805 then (terrkeep5_RasterTurns.l0 k1 a1 t334 t331 y353 (x9_1 ++ [t359]) t331 (t331.length : Int) (wrap64 (x23_1 + 1))) else (none)) = some r := H
                    have A22 := Aside0.mk A220
                    clear A220
                    by_cases c23 : x9_1.length < 5864062014805
                    · rw [if_pos c23] at H
                      have LMc23 := Aside0.mk c23
                      clear c23
                      obtain ⟨y360, hy360⟩ : ∃ y_ : List (List (S40)), y_ = (x9_1 ++ [t359]) := ⟨_, rfl⟩
                      replace H : (terrkeep5_RasterTurns.l0 k1 a1 t334 t331 y353 y360 t331 (t331.length : Int) (wrap64 (x23_1 + 1))) = some r := by first | (rw [hy360]; with_reducible exact H) | (have H2_ := (Option.bind_some _ _).symm.trans H; rw [hy360]; with_reducible exact H2_) | (have H2_ := (Option.bind_some _ _).symm.trans H; with_reducible exact H2_) | with_reducible exact H | (rw [hy360]; exact H) | exact H
                      have Ny360 := Aside0.mk hy360
                      clear hy360
                      have H' := Aside0.mk H
                      clear H
                      have p335 : 0 ≤ (x23_1 : Int) := of_decide_eq_true (by first | (with_reducible assumption) | assumption)
                      have q335 : x23_1 < (t331.length : Int) := of_decide_eq_true (by first | (with_reducible assumption) | assumption)
                      obtain ⟨ad335, A335_0, c335_0, e335, hx335_0, hl335_0, hi335_0⟩ := at_L2 (Kd.N_reads' HO_21.out).2.2 x23_1 p335 q335
                      cases e335
                      obtain ⟨ce335, hce335, hMe335, hcc335⟩ := Kd.N_get HO_21.out [] x23_1 p335 (by first | exact q335 | exact of_decide_eq_true (by first | (with_reducible assumption) | assumption) | (have e_ := (Kd.N_reads' HO_21.out).1; omega))
                      obtain ⟨ua335_0, uc335_0, rfl, ul335_0, ge335_0⟩ := Kd.FK_slice_open hMe335
                      have hv335_0 := hcc335 0 _ rfl
                      rw [Nat.add_zero, show ((Kd.slice 40 k40)).sz = 1 from rfl, Nat.mul_one] at hv335_0
                      replace hv335_0 := Option.some.inj (hv335_0.symm.trans hx335_0)
                      injection hv335_0 with hva_ hvn_ hvc_
                      rw [hva_] at ge335_0
                      rw [hvc_] at ul335_0
                      have HL335_0 := Aside0.mk (show Kd.V k40 40 _ w.heap.size _ _ (rd_L2 t331 x23_1) from Kd.V_mk ul335_0 ge335_0)
                      clear hva_ hvn_ hvc_ ge335_0 ul335_0
                      clear hcc335 hce335
                      have HR335_0 := Aside0.mk hi335_0
                      have HC335_0 := Aside0.mk hl335_0
                      clear hi335_0 hl335_0
                      replace p335 := eq_true p335
                      replace q335 := eq_true q335
                      try go_wp2_with (first | ((with_reducible refine gate_callee (f := 18) rfl ?_); refine goesL_ (some 30) rfl rfl Try.func18 (by kernel_rfl) rfl #[.int .i64 a1, .int .i64 ((rd_L2 t331 x23_1).length : Int)] rfl (by (try simp only [List.map_toArray, List.map_cons, List.map_nil]); first | done | rfl | (simp only [List.length_drop, List.length_take]; rfl)) ?_; (with_reducible refine (terrmake_Below.calls a1 ((rd_L2 t331 x23_1).length : Int) t336 _ A14.out).mono ?_); rintro e w' ⟨rfl, ⟨nd, rfl⟩⟩; refine ⟨_, rfl, ?_⟩))
                      (try (rw [drewN_self wr]; generalize hq_ : World.drewN wr _ = wr; have n0_ : Aside0 (Kd.V k40 40 wr w.heap.size (fun k_ => some k_ ≠ (.slice (some ad335) t331.length co10 : Value).ownBlock ∧ some k_ ≠ (u8 : Value).ownBlock ∧ some k_ ≠ (u9 : Value).ownBlock) (.slice A335_0 (rd_L2 t331 x23_1).length c335_0) (rd_L2 t331 x23_1)) := ⟨by rw [← hq_]; exact (by (with_reducible repeat (first | apply Kd.V_alloc | apply Kd.V_drewN | apply Kd.V_drew)); exact Kd.V_mono HL335_0.out (fun _ hk => by first | exact ⟨hk.2, ⟨hk.1.1, hk.1.2⟩⟩ | (simp_all; done) | grind))⟩; have n1_ : Aside0 (Kd.N (Kd.slice 40 k40) 54 wr w.heap.size (fun k_ => some k_ ≠ (u8 : Value).ownBlock ∧ some k_ ≠ (u9 : Value).ownBlock) (.slice (some ad335) t331.length co10) t331) := ⟨by rw [← hq_]; exact (by (with_reducible repeat (first | apply Kd.N_alloc | apply Kd.N_drewN | apply Kd.N_drew)); exact HO_21.out)⟩; have n2_ : Aside0 (Kd.N (Kd.slice 40 k40) 54 wr w.heap.size (fun k_ => some k_ ≠ (u8 : Value).ownBlock ∧ some k_ ≠ (u9 : Value).ownBlock) (.slice (some ad335) t331.length co10) t331) := ⟨by rw [← hq_]; exact (by (with_reducible repeat (first | apply Kd.N_alloc | apply Kd.N_drewN | apply Kd.N_drew)); exact HO_7.out)⟩; have n3_ : Aside0 (Kd.N (Kd.slice 40 k40) 54 wr w.heap.size (fun k_ => some k_ ≠ (.slice (some ad335) t331.length co10 : Value).ownBlock ∧ some k_ ≠ (.slice (some ad335) t331.length co10 : Value).ownBlock ∧ some k_ ≠ (u9 : Value).ownBlock) u8 x8_1) := ⟨by rw [← hq_]; exact (by (with_reducible repeat (first | apply Kd.N_alloc | apply Kd.N_drewN | apply Kd.N_drew)); exact Kd.N_mono HO_8.out (fun _ hk => by first | exact ⟨hk.2.2, ⟨hk.1, hk.2.1⟩⟩ | (simp_all; done) | grind))⟩; have n4_ : Aside0 (Kd.N (Kd.slice 40 k40) 54 wr w.heap.size (fun k_ => some k_ ≠ (.slice (some ad335) t331.length co10 : Value).ownBlock ∧ some k_ ≠ (.slice (some ad335) t331.length co10 : Value).ownBlock ∧ some k_ ≠ (u8 : Value).ownBlock) u9 x9_1) := ⟨by rw [← hq_]; exact (by (with_reducible repeat (first | apply Kd.N_alloc | apply Kd.N_drewN | apply Kd.N_drew)); exact Kd.N_mono HO_9.out (fun _ hk => by first | exact ⟨hk.2.2, ⟨hk.1, hk.2.1⟩⟩ | (simp_all; done) | grind))⟩; have n5_ : Aside0 (Below w.heap.size w wr) := ⟨by rw [← hq_]; exact (by repeat (first | (with_reducible first | exact HB.out | apply below_alloc | apply pw_below_drewN | apply below_drew1) | exact HB.out))⟩; have n6_ : Aside0 (Kd.C k40 wr A335_0 (rd_L2 t331 x23_1).length (rd_L2 t331 x23_1)) := ⟨by rw [← hq_]; exact (by repeat (first | (with_reducible exact HR335_0.out) | (with_reducible refine Kd.C_alloc ?_ _) | (with_reducible refine Kd.C_drewN ?_ _) | (with_reducible refine Kd.C_drew ?_) | exact HR335_0.out))⟩; clear HL335_0 HO_21 HO_7 HO_8 HO_9 HB HR335_0 hq_; have HL335_0 := n0_; have HO_21 := n1_; have HO_7 := n2_; have HO_8 := n3_; have HO_9 := n4_; have HB := n5_; have HR335_0 := n6_; clear n0_ n1_ n2_ n3_ n4_ n5_ n6_))
                      have n0_ := Aside0.mk (Kd.N_drew HO_7.out)
                      have n1_ := Aside0.mk (Kd.N_drew HO_8.out)
                      have n2_ := Aside0.mk (Kd.N_drew HO_9.out)
                      have n3_ := Aside0.mk (Kd.N_drew HO_21.out)
                      have n4_ := Aside0.mk (Kd.V_drew HL335_0.out)
                      have n5_ := Aside0.mk (Kd.C_drew HR335_0.out)
                      have n6_ := Aside0.mk (below_drew1 HB.out)
                      clear HO_7
                      clear HO_8
                      clear HO_9
                      clear HO_21
                      clear HL335_0
                      clear HR335_0
                      clear HB
                      have HO_7 := n0_
                      have HO_8 := n1_
                      have HO_9 := n2_
                      have HO_21 := n3_
                      have HL335_0 := n4_
                      have HR335_0 := n5_
                      have HB := n6_
                      clear n0_ n1_ n2_ n3_ n4_ n5_ n6_
                      have q25 : (t336 : Int) ≤ (((rd_L2 t331 x23_1).length : Int) : Int) := of_decide_eq_true (by first | (with_reducible assumption) | assumption)
                      obtain ⟨i025, hi025, _, hsz25, _⟩ := info_parts info40
                      have hroom25 : (rd_L2 t331 x23_1).length ≤ c335_0 := HC335_0.out
                      have hC25 : Kd.F k40 _ _ A335_0 (rd_L2 t331 x23_1).length (rd_L2 t331 x23_1) := (Kd.V_at (base := w.heap.size) HL335_0.out).2.2
                      have q025 : (0 : Int) ≤ (t336 : Int) := of_decide_eq_true (by first | (with_reducible assumption) | assumption)
                      have hcut25 := cut_from (P := Try.prog) 54 40 .i64 Try.underlying54 hi025 2 hsz25 A335_0 (rd_L2 t331 x23_1).length c335_0 t336 q025 q25
                      have hr25 := Kd.F_cut (m := (t336 : Int).toNat) (c := c335_0) hC25 (by omega) hroom25
                      obtain ⟨A25, hA25⟩ : ∃ A1, A1 = (if c335_0 = (t336 : Int).toNat then A335_0 else (A335_0 : Option Addr).map (·.add ((t336 : Int).toNat * 2))) := ⟨_, rfl⟩
                      obtain ⟨c25, hc25⟩ : ∃ c1, c1 = c335_0 - (t336 : Int).toNat := ⟨_, rfl⟩
                      have hy25 : y337.length = (rd_L2 t331 x23_1).length - (t336 : Int).toNat := (by rw [Ny337.out, List.length_drop] <;> omega)
                      rw [show (rd_L2 t331 x23_1).drop (t336 : Int).toNat = y337 from Ny337.out.symm] at hr25
                      replace hr25 : Kd.F k40 _ _ A25 y337.length y337 := (by rw [hA25]; exact hr25)
                      rw [← hy25, ← hA25, ← hc25] at hcut25
                      have HO341 := Aside0.mk (show Kd.V k40 40 _ w.heap.size _ (.slice A25 y337.length c25) y337 from Kd.V_mk (by rw [hy25, hc25]; exact Nat.sub_le_sub_right hroom25 _) hr25)
                      have HC341 := Aside0.mk (show y337.length ≤ c25 from by rw [hy25, hc25]; exact Nat.sub_le_sub_right hroom25 _)
                      clear hr25 hC25 hroom25 hi025 hsz25 hc25
                      have KY25 := Aside0.mk hy25
                      have KA25 := Aside0.mk hA25
                      clear hy25 hA25
                      replace q25 := eq_true q25
                      have q26 : (t336 : Int) ≤ (((rd_L2 t331 x23_1).length : Int) : Int) := of_decide_eq_true (by first | (with_reducible assumption) | assumption)
                      obtain ⟨i026, hi026, _, hsz26, _⟩ := info_parts info40
                      have hroom26 : (rd_L2 t331 x23_1).length ≤ c335_0 := HC335_0.out
                      have hC26 : Kd.F k40 _ _ A335_0 (rd_L2 t331 x23_1).length (rd_L2 t331 x23_1) := (Kd.V_at (base := w.heap.size) HL335_0.out).2.2
                      have hcut26 := cut_to (P := Try.prog) 54 40 .i64 Try.underlying54 hi026 A335_0 (rd_L2 t331 x23_1).length c335_0 t336 (of_decide_eq_true (by first | (with_reducible assumption) | assumption)) q26 hroom26
                      have hr26 := Kd.F_take (m := (t336 : Int).toNat) hC26 (by omega)
                      have hy26 : y342.length = (t336 : Int).toNat := (by rw [Ny342.out, List.length_take]; omega)
                      rw [← Ny342.out] at hr26
                      rw [← hy26] at hcut26
                      have HO346 := Aside0.mk (show Kd.V k40 40 _ w.heap.size _ (.slice A335_0 y342.length c335_0) y342 from Kd.V_mk (by omega) hr26)
                      have HC346 := Aside0.mk (show y342.length ≤ c335_0 from by omega)
                      clear hr26 hC26 hroom26 hi026 hsz26
                      have KY26 := Aside0.mk hy26
                      clear hy26
                      replace q26 := eq_true q26
                      refine start_ (n := 12) (S := fun w' => True) (ds := []) #[false, false, false, false, false, false, false, false, false, false, false, false] (by kernel_rfl) rfl rfl trivial (fun hHeld => ?_); refine with_tabW terrkeep5_RasterTurns.tab10 terrkeep5_RasterTurns.bits10 (fun HT_ HW_ => ?_)
                      generalize wr.drew = w24 at HO_7 HO_8 HO_9 HO_21 HL335_0 HR335_0 HB HO341 HO346 hHeld ⊢
                      refine pure_ (i := 0) (N := some 31) (v := ?_) (a' := ?_) #[true, false, false, false, false, false, false, false, false, false, false, false] rfl rfl (any_of HT_.out (by kernel_rfl)) (fun _ _ _ h => h) (Or.inl ⟨by rfl, ?_⟩) ?_ ?_
                      rotate_left
                      · intro w'
                        go_simp
                        with_reducible rfl
                      rotate_left
                      · simp only [Act.put, List.setIfInBounds_toArray, List.set_cons_zero, List.set_cons_succ, i64_w, i32_w]
                        rfl
                      refine pure_ (i := 1) (N := some 32) (v := ?_) (a' := ?_) #[true, true, false, false, false, false, false, false, false, false, false, false] rfl rfl (any_of HT_.out (by kernel_rfl)) (fun _ _ _ h => h) (Or.inl ⟨by rfl, ?_⟩) ?_ ?_
                      rotate_left
                      · intro w'
                        go_simp
                        with_reducible rfl
                      rotate_left
                      · simp only [Act.put, List.setIfInBounds_toArray, List.set_cons_zero, List.set_cons_succ, i64_w, i32_w]
                        rfl
                      refine pure_ (i := 2) (N := some 33) (v := ?_) (a' := ?_) #[true, true, true, false, false, false, false, false, false, false, false, false] rfl rfl (any_of HT_.out (by kernel_rfl)) (fun _ _ _ h => h) (Or.inl ⟨by rfl, ?_⟩) ?_ ?_
                      rotate_left
                      · intro w'
                        go_simp
                        with_reducible rfl
                      rotate_left
                      · simp only [Act.put, List.setIfInBounds_toArray, List.set_cons_zero, List.set_cons_succ, i64_w, i32_w]
                        rfl
                      refine pure_ (i := 3) (N := some 34) (v := ?_) (a' := ?_) #[true, true, true, true, false, false, false, false, false, false, false, false] rfl rfl (any_of HT_.out (by kernel_rfl)) (fun _ _ _ h => h) (Or.inl ⟨by rfl, ?_⟩) ?_ ?_
                      rotate_left
                      · intro w'
                        go_simp
                        with_reducible rfl
                      rotate_left
                      · simp only [Act.put, List.setIfInBounds_toArray, List.set_cons_zero, List.set_cons_succ, i64_w, i32_w]
                        rfl
                      refine pure_ (i := 4) (N := some 35) (v := ?_) (a' := ?_) #[true, true, true, true, true, false, false, false, false, false, false, false] rfl rfl (any_of HT_.out (by kernel_rfl)) (fun _ _ _ h => h) (Or.inl ⟨by rfl, ?_⟩) ?_ ?_
                      rotate_left
                      · intro w'
                        go_simp
                        with_reducible rfl
                      rotate_left
                      · simp only [Act.put, List.setIfInBounds_toArray, List.set_cons_zero, List.set_cons_succ, i64_w, i32_w]
                        rfl
                      refine pure_ (i := 5) (N := some 36) (v := ?_) (a' := ?_) #[true, true, true, true, true, true, false, false, false, false, false, false] rfl rfl (any_of HT_.out (by kernel_rfl)) (fun _ _ _ h => h) (Or.inl ⟨by rfl, ?_⟩) ?_ ?_
                      rotate_left
                      · intro w'
                        go_simp
                        with_reducible rfl
                      rotate_left
                      · simp only [Act.put, List.setIfInBounds_toArray, List.set_cons_zero, List.set_cons_succ, i64_w, i32_w]
                        rfl
                      refine pure_ (i := 6) (N := some 37) (v := ?_) (a' := ?_) #[true, true, true, true, true, true, true, false, false, false, false, false] rfl rfl (any_of HT_.out (by kernel_rfl)) (fun _ _ _ h => h) (Or.inl ⟨by rfl, ?_⟩) ?_ ?_
                      rotate_left
                      · intro w'
                        go_simp
                        with_reducible rfl
                      rotate_left
                      · simp only [Act.put, List.setIfInBounds_toArray, List.set_cons_zero, List.set_cons_succ, i64_w, i32_w]
                        rfl
                      refine one_ (i := 7) (N := some 38) #[true, true, true, true, true, true, true, true, false, false, false, false] rfl rfl (one_of HT_.out (by kernel_rfl)) (by decide) (fun K hK => ?_)
                      refine Kd.N_lit_step (Kd.slice 40 k40) _ 54 ?hg (N' := 38) ?hd (xs := ([y337, y342] : List (List (S40)))) (inner := [.slice A25 y337.length c25, .slice A335_0 y342.length c335_0]) (ok := (fun k_ => some k_ ≠ (u8 : Value).ownBlock ∧ some k_ ≠ (u9 : Value).ownBlock ∧ some k_ ≠ (.slice (some ad335) t331.length co10 : Value).ownBlock)) (okp := (fun k_ => some k_ ≠ (u8 : Value).ownBlock ∧ some k_ ≠ (u9 : Value).ownBlock ∧ some k_ ≠ (.slice (some ad335) t331.length co10 : Value).ownBlock)) ?hr ?hp (fun _ hk => by first | exact hk | (simp_all; done) | grind) ((show ∀ k_, w24.heap.size ≤ k_ → (fun k_ => some k_ ≠ (u8 : Value).ownBlock ∧ some k_ ≠ (u9 : Value).ownBlock ∧ some k_ ≠ (.slice (some ad335) t331.length co10 : Value).ownBlock) k_ from fun k_ hk => ⟨Kd.fresh' (Kd.N_lt (by (with_reducible repeat (first | apply Kd.N_alloc | apply Kd.N_drewN | apply Kd.N_drew)); exact HO_8.out)) k_ hk, Kd.fresh' (Kd.N_lt (by (with_reducible repeat (first | apply Kd.N_alloc | apply Kd.N_drewN | apply Kd.N_drew)); exact HO_9.out)) k_ hk, Kd.fresh' (Kd.N_lt (by (with_reducible repeat (first | apply Kd.N_alloc | apply Kd.N_drewN | apply Kd.N_drew)); exact HO_21.out)) k_ hk⟩) _ (Nat.le_refl _)) (Below.refl _ _) (Nat.le_refl _) (by simp) ?_; (case hd => rfl); (case hg => rfl); (case hr => first | (go_simp; done) | (go_simp; rfl)); (case hp => exact (Reps.one (show Kd.FK (Kd.slice 40 k40) _ _ y337 [.slice A25 y337.length c25] from (Kd.FK_slice_mk (Kd.V_reads' (Kd.V_mono (ok' := (fun k_ => some k_ ≠ (u8 : Value).ownBlock ∧ some k_ ≠ (u9 : Value).ownBlock ∧ some k_ ≠ (.slice (some ad335) t331.length co10 : Value).ownBlock)) (HO341.out) (fun k_ hk => by first | exact ⟨hk.1.1, ⟨hk.1.2, hk.2⟩⟩ | (simp_all; done) | grind))).2.1 (Kd.V_F (Kd.V_mono (ok' := (fun k_ => some k_ ≠ (u8 : Value).ownBlock ∧ some k_ ≠ (u9 : Value).ownBlock ∧ some k_ ≠ (.slice (some ad335) t331.length co10 : Value).ownBlock)) (HO341.out) (fun k_ hk => by first | exact ⟨hk.1.1, ⟨hk.1.2, hk.2⟩⟩ | (simp_all; done) | grind))))) (Reps.one (show Kd.FK (Kd.slice 40 k40) _ _ y342 [.slice A335_0 y342.length c335_0] from (Kd.FK_slice_mk (Kd.V_reads' (Kd.V_mono (ok' := (fun k_ => some k_ ≠ (u8 : Value).ownBlock ∧ some k_ ≠ (u9 : Value).ownBlock ∧ some k_ ≠ (.slice (some ad335) t331.length co10 : Value).ownBlock)) (HO346.out) (fun k_ hk => by first | exact ⟨hk.1.1, ⟨hk.1.2, hk.2⟩⟩ | (simp_all; done) | grind))).2.1 (Kd.V_F (Kd.V_mono (ok' := (fun k_ => some k_ ≠ (u8 : Value).ownBlock ∧ some k_ ≠ (u9 : Value).ownBlock ∧ some k_ ≠ (.slice (some ad335) t331.length co10 : Value).ownBlock)) (HO346.out) (fun k_ hk => by first | exact ⟨hk.1.1, ⟨hk.1.2, hk.2⟩⟩ | (simp_all; done) | grind))))) (Reps.none _ _))))
                      intro v348 w27 ho28 hb hg_ hnew_
                      clear hg_ hnew_
                      (first | rw [← Ny347.out] at ho28 | (simp only [Int.reduceToNat] at ho28; rw [← Ny347.out] at ho28))
                      have n0_ := Aside0.mk (Kd.N_elder' (by (with_reducible repeat (first | apply Kd.N_alloc | apply Kd.N_drewN | apply Kd.N_drew)); exact HO_7.out) (Kd.N_base ho28) hb)
                      have n1_ := Aside0.mk (Kd.N_elder' (by (with_reducible repeat (first | apply Kd.N_alloc | apply Kd.N_drewN | apply Kd.N_drew)); exact HO_8.out) (Kd.N_base ho28) hb)
                      have n2_ := Aside0.mk (Kd.N_elder' (by (with_reducible repeat (first | apply Kd.N_alloc | apply Kd.N_drewN | apply Kd.N_drew)); exact HO_9.out) (Kd.N_base ho28) hb)
                      have n3_ := Aside0.mk (Kd.N_elder' (by (with_reducible repeat (first | apply Kd.N_alloc | apply Kd.N_drewN | apply Kd.N_drew)); exact HO_21.out) (Kd.N_base ho28) hb)
                      have n4_ := Aside0.mk (Kd.V_elder' (by (with_reducible repeat (first | apply Kd.V_alloc | apply Kd.V_drewN | apply Kd.V_drew)); exact HL335_0.out) (Kd.N_base ho28) hb)
                      have n5_ := Aside0.mk (Kd.V_elder' (by (with_reducible repeat (first | apply Kd.V_alloc | apply Kd.V_drewN | apply Kd.V_drew)); exact HO341.out) (Kd.N_base ho28) hb)
                      have n6_ := Aside0.mk (Kd.V_elder' (by (with_reducible repeat (first | apply Kd.V_alloc | apply Kd.V_drewN | apply Kd.V_drew)); exact HO346.out) (Kd.N_base ho28) hb)
                      have n7_ := Aside0.mk (Kd.N_lower ho28 (below_size (by repeat (first | (with_reducible first | exact HB.out | apply below_alloc | apply pw_below_drewN | apply below_drew1) | exact HB.out))))
                      have n8_ := Aside0.mk (Kd.C_below (by repeat (first | (with_reducible exact HR335_0.out) | (with_reducible refine Kd.C_alloc ?_ _) | (with_reducible refine Kd.C_drewN ?_ _) | (with_reducible refine Kd.C_drew ?_) | exact HR335_0.out)) hb)
                      have n9_ := Aside0.mk (below_step (by repeat (first | (with_reducible first | exact HB.out | apply below_alloc | apply pw_below_drewN | apply below_drew1) | exact HB.out)) hb)
                      clear HO_7
                      clear HO_8
                      clear HO_9
                      clear HO_21
                      clear HL335_0
                      clear HO341
                      clear HO346
                      clear HR335_0
                      clear HB
                      have HO_7 := n0_
                      have HO_8 := n1_
                      have HO_9 := n2_
                      have HO_21 := n3_
                      have HL335_0 := n4_
                      have HO341 := n5_
                      have HO346 := n6_
                      have HO349 := n7_
                      have HR335_0 := n8_
                      have HB := n9_
                      clear n0_ n1_ n2_ n3_ n4_ n5_ n6_ n7_ n8_ n9_
                      clear hb ho28
                      obtain ⟨Ao29, co29, eo29⟩ := Kd.N_slice HO349.out
                      (first | subst eo29 | (injection eo29 with f1_ f2_ f3_; have f4_ := f1_.symm; have f5_ := f3_.symm; clear f1_ f2_ f3_; subst f4_; subst f5_))
                      refine hK.out _ _ trivial (fun hHeld => ?_)
                      clear hK K
                      refine norm_ (a' := ?_) ?_ ?_
                      rotate_left
                      · show Act.put _ (some 38) _ = _
                        simp only [Act.put, List.setIfInBounds_toArray, List.set_cons_zero, List.set_cons_succ, i64_w, i32_w]
                        rfl
                      refine one_ (i := 8) (N := some 39) #[true, true, true, true, true, true, true, true, true, false, false, false] rfl rfl (one_of HT_.out (by kernel_rfl)) (by decide) (fun K hK => ?_)
                      refine goes_ Try.func46 (by kernel_rfl) rfl #[.slice Ao29 y347.length co29] (by rfl) rfl rfl (by (try simp only [List.map_toArray, List.map_cons, List.map_nil]); first | done | rfl | (simp only [List.length_drop, List.length_take]; rfl)) ?_
                      with_reducible refine (api_Point_46.calls k1 _ _ y347 t350 _ ?side1 ?side2 A19.out).mono ?_
                      (case side1 => repeat (first | exact (Kd.N_reads' HO349.out).2.2 | (with_reducible refine Kd.C_alloc ?_ _) | (with_reducible refine Kd.C_drewN ?_ _) | (with_reducible refine Kd.C_drew ?_)))
                      (case side2 => exact (Kd.N_reads' HO349.out).2.1)
                      rintro e w30 ⟨v351, rfl, ho0, hb⟩
                      refine ⟨_, rfl, ?_⟩
                      have n0_ := Aside0.mk (Kd.N_elder' (by (with_reducible repeat (first | apply Kd.N_alloc | apply Kd.N_drewN | apply Kd.N_drew)); exact HO_7.out) (Kd.R_base ho0) hb)
                      have n1_ := Aside0.mk (Kd.N_elder' (by (with_reducible repeat (first | apply Kd.N_alloc | apply Kd.N_drewN | apply Kd.N_drew)); exact HO_8.out) (Kd.R_base ho0) hb)
                      have n2_ := Aside0.mk (Kd.N_elder' (by (with_reducible repeat (first | apply Kd.N_alloc | apply Kd.N_drewN | apply Kd.N_drew)); exact HO_9.out) (Kd.R_base ho0) hb)
                      have n3_ := Aside0.mk (Kd.N_elder' (by (with_reducible repeat (first | apply Kd.N_alloc | apply Kd.N_drewN | apply Kd.N_drew)); exact HO_21.out) (Kd.R_base ho0) hb)
                      have n4_ := Aside0.mk (Kd.V_elder' (by (with_reducible repeat (first | apply Kd.V_alloc | apply Kd.V_drewN | apply Kd.V_drew)); exact HL335_0.out) (Kd.R_base ho0) hb)
                      have n5_ := Aside0.mk (Kd.V_elder' (by (with_reducible repeat (first | apply Kd.V_alloc | apply Kd.V_drewN | apply Kd.V_drew)); exact HO341.out) (Kd.R_base ho0) hb)
                      have n6_ := Aside0.mk (Kd.V_elder' (by (with_reducible repeat (first | apply Kd.V_alloc | apply Kd.V_drewN | apply Kd.V_drew)); exact HO346.out) (Kd.R_base ho0) hb)
                      have n7_ := Aside0.mk (Kd.N_elder' (by (with_reducible repeat (first | apply Kd.N_alloc | apply Kd.N_drewN | apply Kd.N_drew)); exact HO349.out) (Kd.R_base ho0) hb)
                      have n8_ := Aside0.mk (Kd.R_lower ho0 (below_size (by repeat (first | (with_reducible first | exact HB.out | apply below_alloc | apply pw_below_drewN | apply below_drew1) | exact HB.out))))
                      have n9_ := Aside0.mk (Kd.C_below (by repeat (first | (with_reducible exact HR335_0.out) | (with_reducible refine Kd.C_alloc ?_ _) | (with_reducible refine Kd.C_drewN ?_ _) | (with_reducible refine Kd.C_drew ?_) | exact HR335_0.out)) hb)
                      have n10_ := Aside0.mk (below_step (by repeat (first | (with_reducible first | exact HB.out | apply below_alloc | apply pw_below_drewN | apply below_drew1) | exact HB.out)) hb)
                      clear HO_7
                      clear HO_8
                      clear HO_9
                      clear HO_21
                      clear HL335_0
                      clear HO341
                      clear HO346
                      clear HO349
                      clear HR335_0
                      clear HB
                      have HO_7 := n0_
                      have HO_8 := n1_
                      have HO_9 := n2_
                      have HO_21 := n3_
                      have HL335_0 := n4_
                      have HO341 := n5_
                      have HO346 := n6_
                      have HO349 := n7_
                      have HO352 := n8_
                      have HR335_0 := n9_
                      have HB := n10_
                      clear n0_ n1_ n2_ n3_ n4_ n5_ n6_ n7_ n8_ n9_ n10_
                      (try clear hb)
                      (try clear hb2)
                      (try clear hk)
                      (try clear hi)
                      (try clear ho0)
                      obtain ⟨Ao32, co32, eo32⟩ := Kd.R_slice HO352.out
                      (first | subst eo32 | (injection eo32 with f1_ f2_ f3_; have f4_ := f1_.symm; have f5_ := f3_.symm; clear f1_ f2_ f3_; subst f4_; subst f5_))
                      refine hK.out _ _ trivial (fun hHeld => ?_)
                      clear hK K
                      refine norm_ (a' := ?_) ?_ ?_
                      rotate_left
                      · show Act.put _ (some 39) _ = _
                        simp only [Act.put, List.setIfInBounds_toArray, List.set_cons_zero, List.set_cons_succ, i64_w, i32_w]
                        rfl
                      refine one_ (i := 9) (N := some 40) #[true, true, true, true, true, true, true, true, true, true, false, false] rfl rfl (one_of HT_.out (by kernel_rfl)) (by decide) (fun K hK => ?_)
                      refine value_ (w1 := ?_) (v := ?_) (by rfl) rfl ?_ ?_
                      rotate_left 2
                      · go_simp
                        constructor
                        · rfl
                        · rfl
                      refine hK.out _ _ trivial (fun hHeld => ?_)
                      clear hK K
                      refine norm_ (a' := ?_) ?_ ?_
                      rotate_left
                      · show Act.put _ (some 40) _ = _
                        simp only [Act.put, List.setIfInBounds_toArray, List.set_cons_zero, List.set_cons_succ, i64_w, i32_w]
                        rfl
                      refine one_ (i := 10) (N := some 41) #[true, true, true, true, true, true, true, true, true, true, true, false] rfl rfl (one_of HT_.out (by kernel_rfl)) (by decide) (fun K hK => ?_)
                      refine Kd.N_append_step (Kd.slice 40 k40) (w0 := w) w.heap.size (by rfl) (.tmp 31) (.tmp 40) 58 54 (.slice none 0 0) 24 rfl Try.underlying58 info54 rfl (by decide) (by omega) u8 x8_1 t350 [.slice Ao32 t350.length co32] (fun k_ => some k_ ≠ (.slice (some ad335) t331.length co10 : Value).ownBlock ∧ some k_ ≠ (u9 : Value).ownBlock ∧ some k_ ≠ (.slice (some ad335) t331.length co10 : Value).ownBlock ∧ some k_ ≠ (.slice Ao29 y347.length co29 : Value).ownBlock) (fun k_ => ((fun k_ => some k_ ≠ (.slice (some ad335) t331.length co10 : Value).ownBlock ∧ some k_ ≠ (u9 : Value).ownBlock ∧ some k_ ≠ (.slice (some ad335) t331.length co10 : Value).ownBlock ∧ some k_ ≠ (.slice Ao29 y347.length co29 : Value).ownBlock)) k_ ∧ some k_ ≠ (u8 : Value).ownBlock) rfl rfl ?aP (fun _ hk => by first | exact hk | (simp_all; done) | grind) ?aF ?aO ?aB ?aS ?aL ?_
                      (case aP => exact (Kd.FK_slice_mk (Kd.R_reads' (Kd.R_mono (ok' := (fun k_ => ((fun k_ => some k_ ≠ (.slice (some ad335) t331.length co10 : Value).ownBlock ∧ some k_ ≠ (u9 : Value).ownBlock ∧ some k_ ≠ (.slice (some ad335) t331.length co10 : Value).ownBlock ∧ some k_ ≠ (.slice Ao29 y347.length co29 : Value).ownBlock)) k_ ∧ some k_ ≠ (u8 : Value).ownBlock)) (Kd.R_apart' (Kd.R_apart' (Kd.R_apart' (Kd.R_apart' (HO352.out) (Kd.N_typed HO_9.out) (by decide)) (Kd.N_typed HO_21.out) (by decide)) (Kd.N_typed HO349.out) (by decide)) (Kd.N_typed HO_8.out) (by decide)) (fun k_ hk => by first | exact ⟨⟨hk.1.1.1.1.2, ⟨hk.1.1.1.2, ⟨hk.1.1.2, hk.1.2⟩⟩⟩, hk.2⟩ | (simp_all; done) | grind))).2.1 (Kd.R_F (Kd.R_mono (ok' := (fun k_ => ((fun k_ => some k_ ≠ (.slice (some ad335) t331.length co10 : Value).ownBlock ∧ some k_ ≠ (u9 : Value).ownBlock ∧ some k_ ≠ (.slice (some ad335) t331.length co10 : Value).ownBlock ∧ some k_ ≠ (.slice Ao29 y347.length co29 : Value).ownBlock)) k_ ∧ some k_ ≠ (u8 : Value).ownBlock)) (Kd.R_apart' (Kd.R_apart' (Kd.R_apart' (Kd.R_apart' (HO352.out) (Kd.N_typed HO_9.out) (by decide)) (Kd.N_typed HO_21.out) (by decide)) (Kd.N_typed HO349.out) (by decide)) (Kd.N_typed HO_8.out) (by decide)) (fun k_ hk => by first | exact ⟨⟨hk.1.1.1.1.2, ⟨hk.1.1.1.2, ⟨hk.1.1.2, hk.1.2⟩⟩⟩, hk.2⟩ | (simp_all; done) | grind)))))
                      (case aB => exact (by repeat (first | (with_reducible first | exact HB.out | apply below_alloc | apply pw_below_drewN | apply below_drew1) | exact HB.out)))
                      (case aF => exact (fun k_ hk => ⟨Kd.fresh' (Kd.N_lt (by (with_reducible repeat (first | apply Kd.N_alloc | apply Kd.N_drewN | apply Kd.N_drew)); exact HO_7.out)) k_ hk, Kd.fresh' (Kd.N_lt (by (with_reducible repeat (first | apply Kd.N_alloc | apply Kd.N_drewN | apply Kd.N_drew)); exact HO_9.out)) k_ hk, Kd.fresh' (Kd.N_lt (by (with_reducible repeat (first | apply Kd.N_alloc | apply Kd.N_drewN | apply Kd.N_drew)); exact HO_21.out)) k_ hk, Kd.fresh' (Kd.N_lt (by (with_reducible repeat (first | apply Kd.N_alloc | apply Kd.N_drewN | apply Kd.N_drew)); exact HO349.out)) k_ hk⟩))
                      (case aO => exact (by (with_reducible repeat (first | apply Kd.N_alloc | apply Kd.N_drewN | apply Kd.N_drew)); exact Kd.N_mono HO_8.out (fun _ hk => by first | exact ⟨hk.1.1.1, ⟨hk.1.1.2.1, ⟨hk.1.1.2.2, hk.1.2⟩⟩⟩ | (simp_all; done) | grind)))
                      (case aS => exact (below_size (by repeat (first | (with_reducible first | exact HB.out | apply below_alloc | apply pw_below_drewN | apply below_drew1) | exact HB.out))))
                      (case aL => have := LMc20.out; omega)
                      intro v354 w31 ho hb hg hat
                      rw [← Ny353.out] at ho
                      have n0_ := Aside0.mk (Kd.N_afterv (ok := (fun k_ => some k_ ≠ (u9 : Value).ownBlock ∧ some k_ ≠ (.slice Ao29 y347.length co29 : Value).ownBlock ∧ some k_ ≠ (.slice Ao32 t350.length co32 : Value).ownBlock)) (by (with_reducible repeat (first | apply Kd.N_alloc | apply Kd.N_drewN | apply Kd.N_drew)); exact Kd.N_mono HO_7.out (fun _ hk => by first | exact ⟨⟨hk.1.1.2, ⟨hk.1.2, hk.2⟩⟩, hk.1.1.1⟩ | (simp_all; done) | grind)) hg hat)
                      have n1_ := Aside0.mk (Kd.N_afterv (ok := (fun k_ => some k_ ≠ (.slice (some ad335) t331.length co10 : Value).ownBlock ∧ some k_ ≠ (.slice (some ad335) t331.length co10 : Value).ownBlock ∧ some k_ ≠ (.slice Ao29 y347.length co29 : Value).ownBlock ∧ some k_ ≠ (.slice Ao32 t350.length co32 : Value).ownBlock)) (by (with_reducible repeat (first | apply Kd.N_alloc | apply Kd.N_drewN | apply Kd.N_drew)); exact Kd.N_mono HO_9.out (fun _ hk => by first | exact ⟨⟨hk.1.1.1, ⟨hk.1.1.2.2, ⟨hk.1.2, hk.2⟩⟩⟩, hk.1.1.2.1⟩ | (simp_all; done) | grind)) hg hat)
                      have n2_ := Aside0.mk (Kd.N_afterv (ok := (fun k_ => some k_ ≠ (u9 : Value).ownBlock ∧ some k_ ≠ (.slice Ao29 y347.length co29 : Value).ownBlock ∧ some k_ ≠ (.slice Ao32 t350.length co32 : Value).ownBlock)) (by (with_reducible repeat (first | apply Kd.N_alloc | apply Kd.N_drewN | apply Kd.N_drew)); exact Kd.N_mono HO_21.out (fun _ hk => by first | exact ⟨⟨hk.1.1.2, ⟨hk.1.2, hk.2⟩⟩, hk.1.1.1⟩ | (simp_all; done) | grind)) hg hat)
                      have n3_ := Aside0.mk (Kd.V_afterv (ok := (fun k_ => some k_ ≠ (u9 : Value).ownBlock ∧ some k_ ≠ (.slice (some ad335) t331.length co10 : Value).ownBlock ∧ some k_ ≠ (.slice Ao29 y347.length co29 : Value).ownBlock ∧ some k_ ≠ (.slice Ao32 t350.length co32 : Value).ownBlock)) (by (with_reducible repeat (first | apply Kd.V_alloc | apply Kd.V_drewN | apply Kd.V_drew)); exact Kd.V_mono HL335_0.out (fun _ hk => by first | exact ⟨⟨hk.1.1.1.2, ⟨hk.1.1.2, ⟨hk.1.2, hk.2⟩⟩⟩, hk.1.1.1.1⟩ | (simp_all; done) | grind)) hg hat)
                      have n4_ := Aside0.mk (Kd.V_afterv (ok := (fun k_ => some k_ ≠ (u9 : Value).ownBlock ∧ some k_ ≠ (.slice (some ad335) t331.length co10 : Value).ownBlock ∧ some k_ ≠ (.slice Ao29 y347.length co29 : Value).ownBlock ∧ some k_ ≠ (.slice Ao32 t350.length co32 : Value).ownBlock)) (by (with_reducible repeat (first | apply Kd.V_alloc | apply Kd.V_drewN | apply Kd.V_drew)); exact Kd.V_mono HO341.out (fun _ hk => by first | exact ⟨⟨hk.1.1.1.2, ⟨hk.1.1.2, ⟨hk.1.2, hk.2⟩⟩⟩, hk.1.1.1.1⟩ | (simp_all; done) | grind)) hg hat)
                      have n5_ := Aside0.mk (Kd.V_afterv (ok := (fun k_ => some k_ ≠ (u9 : Value).ownBlock ∧ some k_ ≠ (.slice (some ad335) t331.length co10 : Value).ownBlock ∧ some k_ ≠ (.slice Ao29 y347.length co29 : Value).ownBlock ∧ some k_ ≠ (.slice Ao32 t350.length co32 : Value).ownBlock)) (by (with_reducible repeat (first | apply Kd.V_alloc | apply Kd.V_drewN | apply Kd.V_drew)); exact Kd.V_mono HO346.out (fun _ hk => by first | exact ⟨⟨hk.1.1.1.2, ⟨hk.1.1.2, ⟨hk.1.2, hk.2⟩⟩⟩, hk.1.1.1.1⟩ | (simp_all; done) | grind)) hg hat)
                      have n6_ := Aside0.mk (Kd.N_afterv (ok := (fun k_ => some k_ ≠ (u9 : Value).ownBlock ∧ some k_ ≠ (.slice (some ad335) t331.length co10 : Value).ownBlock ∧ some k_ ≠ (.slice Ao32 t350.length co32 : Value).ownBlock)) (by (with_reducible repeat (first | apply Kd.N_alloc | apply Kd.N_drewN | apply Kd.N_drew)); exact Kd.N_mono HO349.out (fun _ hk => by first | exact ⟨⟨hk.1.2.1, ⟨hk.1.2.2, hk.2⟩⟩, hk.1.1⟩ | (simp_all; done) | grind)) hg hat)
                      have n7_ := Aside0.mk (hb)
                      have n8_ := Aside0.mk (ho)
                      clear HO_7
                      clear HO_9
                      clear HO_21
                      clear HL335_0
                      clear HO341
                      clear HO346
                      clear HO349
                      clear HB
                      clear HO_8
                      clear HO352
                      have HO_7 := n0_
                      have HO_9 := n1_
                      have HO_21 := n2_
                      have HL335_0 := n3_
                      have HO341 := n4_
                      have HO346 := n5_
                      have HO349 := n6_
                      have HB := n7_
                      have HO355 := n8_
                      clear n0_ n1_ n2_ n3_ n4_ n5_ n6_ n7_ n8_
                      clear ho hb hg hat
                      refine hK.out _ _ trivial (fun hHeld => ?_)
                      clear hK K
                      refine norm_ (a' := ?_) ?_ ?_
                      rotate_left
                      · show Act.put _ (some 41) _ = _
                        simp only [Act.put, List.setIfInBounds_toArray, List.set_cons_zero, List.set_cons_succ, i64_w, i32_w]
                        rfl
                      refine pure_ (i := 11) (N := some 8) (v := ?_) (a' := ?_) #[true, true, true, true, true, true, true, true, true, true, true, true] rfl rfl (any_of HT_.out (by kernel_rfl)) (fun _ _ _ h => h) (Or.inl ⟨by rfl, ?_⟩) ?_ ?_
                      rotate_left
                      · intro w'
                        go_simp
                        with_reducible rfl
                      rotate_left
                      · simp only [Act.put, List.setIfInBounds_toArray, List.set_cons_zero, List.set_cons_succ, i64_w, i32_w]
                        rfl
                      refine done_ (done_of HT_.out (by kernel_rfl)) ?_
                      try go_wp2_with (first | ((with_reducible refine gate_callee (f := 47) rfl ?_); refine goesL_ (some 43) rfl rfl Try.func47 (by kernel_rfl) rfl #[.slice A335_0 (rd_L2 t331 x23_1).length c335_0] rfl (by (try simp only [List.map_toArray, List.map_cons, List.map_nil]); first | done | rfl | (simp only [List.length_drop, List.length_take]; rfl)) ?_; (with_reducible refine (api_Point_47.calls _ _ (rd_L2 t331 x23_1) t356 _ ?side1 ?side2 A21.out).mono ?_); (case side1 => repeat (first | exact ((Kd.V_reads' (by (with_reducible repeat (first | apply Kd.V_alloc | apply Kd.V_drewN | apply Kd.V_drew)); exact HL335_0.out)).2.2) | (with_reducible refine Kd.C_alloc ?_ _) | (with_reducible refine Kd.C_drewN ?_ _) | (with_reducible refine Kd.C_drew ?_))); (case side2 => exact HC335_0.out); rintro e w33 ⟨v357, rfl, ho0, hb⟩; refine ⟨_, rfl, ?_⟩; have n0_ := Aside0.mk (Kd.N_elder' (by (with_reducible repeat (first | apply Kd.N_alloc | apply Kd.N_drewN | apply Kd.N_drew)); exact HO_7.out) (Kd.R_base ho0) hb); have n1_ := Aside0.mk (Kd.N_elder' (by (with_reducible repeat (first | apply Kd.N_alloc | apply Kd.N_drewN | apply Kd.N_drew)); exact HO_9.out) (Kd.R_base ho0) hb); have n2_ := Aside0.mk (Kd.N_elder' (by (with_reducible repeat (first | apply Kd.N_alloc | apply Kd.N_drewN | apply Kd.N_drew)); exact HO_21.out) (Kd.R_base ho0) hb); have n3_ := Aside0.mk (Kd.V_elder' (by (with_reducible repeat (first | apply Kd.V_alloc | apply Kd.V_drewN | apply Kd.V_drew)); exact HL335_0.out) (Kd.R_base ho0) hb); have n4_ := Aside0.mk (Kd.V_elder' (by (with_reducible repeat (first | apply Kd.V_alloc | apply Kd.V_drewN | apply Kd.V_drew)); exact HO341.out) (Kd.R_base ho0) hb); have n5_ := Aside0.mk (Kd.V_elder' (by (with_reducible repeat (first | apply Kd.V_alloc | apply Kd.V_drewN | apply Kd.V_drew)); exact HO346.out) (Kd.R_base ho0) hb); have n6_ := Aside0.mk (Kd.N_elder' (by (with_reducible repeat (first | apply Kd.N_alloc | apply Kd.N_drewN | apply Kd.N_drew)); exact HO349.out) (Kd.R_base ho0) hb); have n7_ := Aside0.mk (Kd.N_elder' (by (with_reducible repeat (first | apply Kd.N_alloc | apply Kd.N_drewN | apply Kd.N_drew)); exact HO355.out) (Kd.R_base ho0) hb); have n8_ := Aside0.mk (Kd.R_lower ho0 (below_size (by repeat (first | (with_reducible first | exact HB.out | apply below_alloc | apply pw_below_drewN | apply below_drew1) | exact HB.out)))); have n9_ := Aside0.mk (below_step (by repeat (first | (with_reducible first | exact HB.out | apply below_alloc | apply pw_below_drewN | apply below_drew1) | exact HB.out)) hb); clear HO_7; clear HO_9; clear HO_21; clear HL335_0; clear HO341; clear HO346; clear HO349; clear HO355; clear HB; have HO_7 := n0_; have HO_9 := n1_; have HO_21 := n2_; have HL335_0 := n3_; have HO341 := n4_; have HO346 := n5_; have HO349 := n6_; have HO355 := n7_; have HO358 := n8_; have HB := n9_; clear n0_ n1_ n2_ n3_ n4_ n5_ n6_ n7_ n8_ n9_; (try clear hb); (try clear hb2); (try clear hk); (try clear hi); (try clear ho0); obtain ⟨Ao34, co34, eo34⟩ := Kd.R_slice HO358.out; subst eo34) | ((with_reducible refine gate_callee (f := 48) rfl ?_); refine goesL_ (some 45) rfl rfl Try.func48 (by kernel_rfl) rfl #[.slice Ao34 t356.length co34] rfl (by (try simp only [List.map_toArray, List.map_cons, List.map_nil]); first | done | rfl | (simp only [List.length_drop, List.length_take]; rfl)) ?_; (with_reducible refine (api_Point_48.calls k1 (fun k_ => some k_ = (.slice Ao34 t356.length co34 : Value).ownBlock) (.slice Ao34 t356.length co34) t356 t359 w _ ?side1 ?side2 A22.out).mono ?_); (case side1 => repeat (first | (with_reducible first | exact HB.out | apply below_alloc | apply pw_below_drewN | apply below_drew1) | exact HB.out)); (case side2 => exact Kd.R_tight rfl HO358.out); rintro e w35 ⟨rfl, hy0, hb, hkp⟩; refine ⟨_, rfl, ?_⟩; have n0_ := Aside0.mk (Kd.N_mono (ok' := fun k_ => some k_ ≠ (u9 : Value).ownBlock ∧ some k_ ≠ (.slice Ao29 y347.length co29 : Value).ownBlock ∧ some k_ ≠ (v354 : Value).ownBlock ∧ some k_ ≠ (.slice Ao34 t356.length co34 : Value).ownBlock) (Kd.N_keptB (HO_7.out) hkp (fun k_ hk_ hs_ => (hk_.2) hs_)) (fun k_ hk_ => ⟨hk_.1.1.1.1, hk_.1.1.1.2.1, hk_.1.1.2, hk_.1.2⟩)); have n1_ := Aside0.mk (Kd.N_mono (ok' := fun k_ => some k_ ≠ (.slice (some ad335) t331.length co10 : Value).ownBlock ∧ some k_ ≠ (.slice (some ad335) t331.length co10 : Value).ownBlock ∧ some k_ ≠ (.slice Ao29 y347.length co29 : Value).ownBlock ∧ some k_ ≠ (v354 : Value).ownBlock ∧ some k_ ≠ (.slice Ao34 t356.length co34 : Value).ownBlock) (Kd.N_keptB (HO_9.out) hkp (fun k_ hk_ hs_ => (hk_.2) hs_)) (fun k_ hk_ => ⟨hk_.1.1.1.1, hk_.1.1.1.2.1, hk_.1.1.1.2.2.1, hk_.1.1.2, hk_.1.2⟩)); have n2_ := Aside0.mk (Kd.N_mono (ok' := fun k_ => some k_ ≠ (u9 : Value).ownBlock ∧ some k_ ≠ (.slice Ao29 y347.length co29 : Value).ownBlock ∧ some k_ ≠ (v354 : Value).ownBlock ∧ some k_ ≠ (.slice Ao34 t356.length co34 : Value).ownBlock) (Kd.N_keptB (HO_21.out) hkp (fun k_ hk_ hs_ => (hk_.2) hs_)) (fun k_ hk_ => ⟨hk_.1.1.1.1, hk_.1.1.1.2.1, hk_.1.1.2, hk_.1.2⟩)); have n3_ := Aside0.mk (Kd.V_mono (ok' := fun k_ => some k_ ≠ (u9 : Value).ownBlock ∧ some k_ ≠ (.slice (some ad335) t331.length co10 : Value).ownBlock ∧ some k_ ≠ (.slice Ao29 y347.length co29 : Value).ownBlock ∧ some k_ ≠ (v354 : Value).ownBlock ∧ some k_ ≠ (.slice Ao34 t356.length co34 : Value).ownBlock) (Kd.V_keptB (HO341.out) hkp (fun k_ hk_ hs_ => (hk_.2) hs_)) (fun k_ hk_ => ⟨hk_.1.1.1.1, hk_.1.1.1.2.1, hk_.1.1.1.2.2.1, hk_.1.1.2, hk_.1.2⟩)); have n4_ := Aside0.mk (Kd.V_mono (ok' := fun k_ => some k_ ≠ (u9 : Value).ownBlock ∧ some k_ ≠ (.slice (some ad335) t331.length co10 : Value).ownBlock ∧ some k_ ≠ (.slice Ao29 y347.length co29 : Value).ownBlock ∧ some k_ ≠ (v354 : Value).ownBlock ∧ some k_ ≠ (.slice Ao34 t356.length co34 : Value).ownBlock) (Kd.V_keptB (HO346.out) hkp (fun k_ hk_ hs_ => (hk_.2) hs_)) (fun k_ hk_ => ⟨hk_.1.1.1.1, hk_.1.1.1.2.1, hk_.1.1.1.2.2.1, hk_.1.1.2, hk_.1.2⟩)); have n5_ := Aside0.mk (Kd.N_mono (ok' := fun k_ => some k_ ≠ (u9 : Value).ownBlock ∧ some k_ ≠ (.slice (some ad335) t331.length co10 : Value).ownBlock ∧ some k_ ≠ (v354 : Value).ownBlock ∧ some k_ ≠ (.slice Ao34 t356.length co34 : Value).ownBlock) (Kd.N_keptB (HO349.out) hkp (fun k_ hk_ hs_ => (hk_.2) hs_)) (fun k_ hk_ => ⟨hk_.1.1.1.1, hk_.1.1.1.2.1, hk_.1.1.2, hk_.1.2⟩)); have n6_ := Aside0.mk (Kd.N_mono (ok' := fun k_ => some k_ ≠ (.slice (some ad335) t331.length co10 : Value).ownBlock ∧ some k_ ≠ (u9 : Value).ownBlock ∧ some k_ ≠ (.slice (some ad335) t331.length co10 : Value).ownBlock ∧ some k_ ≠ (.slice Ao29 y347.length co29 : Value).ownBlock ∧ some k_ ≠ (.slice Ao34 t356.length co34 : Value).ownBlock) (Kd.N_keptB (HO355.out) hkp (fun k_ hk_ hs_ => (hk_.2) hs_)) (fun k_ hk_ => ⟨hk_.1.1.1, hk_.1.1.2.1, hk_.1.1.2.2.1, hk_.1.1.2.2.2, hk_.1.2⟩)); have n7_ := Aside0.mk (Kd.R_reok rfl hy0 (fun k_ e_ => HO358.out.1 k_ e_)); have n8_ := Aside0.mk (hb); clear HO_7; clear HO_9; clear HO_21; clear HO341; clear HO346; clear HO349; clear HO355; clear HO358; clear HB; clear HL335_0; have HO_7 := n0_; have HO_9 := n1_; have HO_21 := n2_; have HO341 := n3_; have HO346 := n4_; have HO349 := n5_; have HO355 := n6_; have HO358 := n7_; have HB := n8_; clear n0_ n1_ n2_ n3_ n4_ n5_ n6_ n7_ n8_; (try clear hb); (try clear hkp); (try clear hy0)) | ((with_reducible refine gate_builtin (b := .append) (xs := #[.tmp 46, .tmp 48]) rfl ?_); at_builtin; refine Kd.N_append (Kd.slice 40 k40) (w0 := w) w.heap.size rfl (.tmp 46) (.tmp 48) 58 54 (.slice none 0 0) 24 rfl Try.underlying58 info54 rfl (by decide) (by omega) u9 x9_1 t359 [.slice Ao34 t356.length co34] (fun k_ => some k_ ≠ (.slice (some ad335) t331.length co10 : Value).ownBlock ∧ some k_ ≠ (.slice (some ad335) t331.length co10 : Value).ownBlock ∧ some k_ ≠ (.slice Ao29 y347.length co29 : Value).ownBlock ∧ some k_ ≠ (v354 : Value).ownBlock) (fun k_ => ((fun k_ => some k_ ≠ (.slice (some ad335) t331.length co10 : Value).ownBlock ∧ some k_ ≠ (.slice (some ad335) t331.length co10 : Value).ownBlock ∧ some k_ ≠ (.slice Ao29 y347.length co29 : Value).ownBlock ∧ some k_ ≠ (v354 : Value).ownBlock)) k_ ∧ some k_ ≠ (u9 : Value).ownBlock) rfl rfl ?aP (fun _ hk => by first | exact hk | (simp_all; done) | grind) ?aF ?aO ?aB ?aS ?aL ?_; (case aP => have r1_ := Kd.R_apart' (HO358.out) (Kd.N_typed HO_21.out) (by decide); have r2_ := Kd.R_apart' r1_ (Kd.N_typed HO349.out) (by decide); have r3_ := Kd.R_apart' r2_ (Kd.N_typed HO355.out) (by decide); have r4_ := Kd.R_apart' r3_ (Kd.N_typed HO_9.out) (by decide); have r5_ := Kd.R_mono (ok' := (fun k_ => ((fun k_ => some k_ ≠ (.slice (some ad335) t331.length co10 : Value).ownBlock ∧ some k_ ≠ (.slice (some ad335) t331.length co10 : Value).ownBlock ∧ some k_ ≠ (.slice Ao29 y347.length co29 : Value).ownBlock ∧ some k_ ≠ (v354 : Value).ownBlock)) k_ ∧ some k_ ≠ (u9 : Value).ownBlock)) r4_ (fun k_ hk => ⟨⟨hk.1.1.1.2, ⟨hk.1.1.1.2, ⟨hk.1.1.2, hk.1.2⟩⟩⟩, hk.2⟩); have e5_ := (Kd.R_reads' r5_).1; rw [e5_] at r5_ ⊢; exact Kd.FK_slice_mk (Kd.R_reads' r5_).2.1 (Kd.R_F r5_)); (case aB => exact (by repeat (first | (with_reducible first | exact HB.out | apply below_alloc | apply pw_below_drewN | apply below_drew1) | exact HB.out))); (case aF => exact (fun k_ hk => ⟨Kd.fresh' (Kd.N_lt (by (with_reducible repeat (first | apply Kd.N_alloc | apply Kd.N_drewN | apply Kd.N_drew)); exact HO_7.out)) k_ hk, Kd.fresh' (Kd.N_lt (by (with_reducible repeat (first | apply Kd.N_alloc | apply Kd.N_drewN | apply Kd.N_drew)); exact HO_21.out)) k_ hk, Kd.fresh' (Kd.N_lt (by (with_reducible repeat (first | apply Kd.N_alloc | apply Kd.N_drewN | apply Kd.N_drew)); exact HO349.out)) k_ hk, Kd.fresh' (Kd.N_lt (by (with_reducible repeat (first | apply Kd.N_alloc | apply Kd.N_drewN | apply Kd.N_drew)); exact HO355.out)) k_ hk⟩)); (case aO => exact (by (with_reducible repeat (first | apply Kd.N_alloc | apply Kd.N_drewN | apply Kd.N_drew)); exact Kd.N_mono HO_9.out (fun _ hk => by first | exact ⟨hk.1, ⟨hk.2.1, ⟨hk.2.2.1, hk.2.2.2.1⟩⟩⟩ | (simp_all; done) | grind))); (case aS => exact (below_size (by repeat (first | (with_reducible first | exact HB.out | apply below_alloc | apply pw_below_drewN | apply below_drew1) | exact HB.out)))); (case aL => have := LMc23.out; omega); intro v361 w36 ho hb hg hat; rw [← Ny360.out] at ho; have n0_ := Aside0.mk (Kd.N_afterv (ok := (fun k_ => some k_ ≠ (.slice Ao29 y347.length co29 : Value).ownBlock ∧ some k_ ≠ (v354 : Value).ownBlock ∧ some k_ ≠ (.slice Ao34 t356.length co34 : Value).ownBlock)) (by (with_reducible repeat (first | apply Kd.N_alloc | apply Kd.N_drewN | apply Kd.N_drew)); exact Kd.N_mono HO_7.out (fun _ hk => by first | exact ⟨⟨hk.2.1, ⟨hk.2.2.1, hk.2.2.2⟩⟩, hk.1⟩ | (simp_all; done) | grind)) hg hat); have n1_ := Aside0.mk (Kd.N_afterv (ok := (fun k_ => some k_ ≠ (.slice Ao29 y347.length co29 : Value).ownBlock ∧ some k_ ≠ (v354 : Value).ownBlock ∧ some k_ ≠ (.slice Ao34 t356.length co34 : Value).ownBlock)) (by (with_reducible repeat (first | apply Kd.N_alloc | apply Kd.N_drewN | apply Kd.N_drew)); exact Kd.N_mono HO_21.out (fun _ hk => by first | exact ⟨⟨hk.2.1, ⟨hk.2.2.1, hk.2.2.2⟩⟩, hk.1⟩ | (simp_all; done) | grind)) hg hat); have n2_ := Aside0.mk (Kd.V_afterv (ok := (fun k_ => some k_ ≠ (.slice (some ad335) t331.length co10 : Value).ownBlock ∧ some k_ ≠ (.slice Ao29 y347.length co29 : Value).ownBlock ∧ some k_ ≠ (v354 : Value).ownBlock ∧ some k_ ≠ (.slice Ao34 t356.length co34 : Value).ownBlock)) (by (with_reducible repeat (first | apply Kd.V_alloc | apply Kd.V_drewN | apply Kd.V_drew)); exact Kd.V_mono HO341.out (fun _ hk => by first | exact ⟨⟨hk.2.1, ⟨hk.2.2.1, ⟨hk.2.2.2.1, hk.2.2.2.2⟩⟩⟩, hk.1⟩ | (simp_all; done) | grind)) hg hat); have n3_ := Aside0.mk (Kd.V_afterv (ok := (fun k_ => some k_ ≠ (.slice (some ad335) t331.length co10 : Value).ownBlock ∧ some k_ ≠ (.slice Ao29 y347.length co29 : Value).ownBlock ∧ some k_ ≠ (v354 : Value).ownBlock ∧ some k_ ≠ (.slice Ao34 t356.length co34 : Value).ownBlock)) (by (with_reducible repeat (first | apply Kd.V_alloc | apply Kd.V_drewN | apply Kd.V_drew)); exact Kd.V_mono HO346.out (fun _ hk => by first | exact ⟨⟨hk.2.1, ⟨hk.2.2.1, ⟨hk.2.2.2.1, hk.2.2.2.2⟩⟩⟩, hk.1⟩ | (simp_all; done) | grind)) hg hat); have n4_ := Aside0.mk (Kd.N_afterv (ok := (fun k_ => some k_ ≠ (.slice (some ad335) t331.length co10 : Value).ownBlock ∧ some k_ ≠ (v354 : Value).ownBlock ∧ some k_ ≠ (.slice Ao34 t356.length co34 : Value).ownBlock)) (by (with_reducible repeat (first | apply Kd.N_alloc | apply Kd.N_drewN | apply Kd.N_drew)); exact Kd.N_mono HO349.out (fun _ hk => by first | exact ⟨⟨hk.2.1, ⟨hk.2.2.1, hk.2.2.2⟩⟩, hk.1⟩ | (simp_all; done) | grind)) hg hat); have n5_ := Aside0.mk (Kd.N_afterv (ok := (fun k_ => some k_ ≠ (.slice (some ad335) t331.length co10 : Value).ownBlock ∧ some k_ ≠ (.slice (some ad335) t331.length co10 : Value).ownBlock ∧ some k_ ≠ (.slice Ao29 y347.length co29 : Value).ownBlock ∧ some k_ ≠ (.slice Ao34 t356.length co34 : Value).ownBlock)) (by (with_reducible repeat (first | apply Kd.N_alloc | apply Kd.N_drewN | apply Kd.N_drew)); exact Kd.N_mono HO355.out (fun _ hk => by first | exact ⟨⟨hk.1, ⟨hk.2.2.1, ⟨hk.2.2.2.1, hk.2.2.2.2⟩⟩⟩, hk.2.1⟩ | (simp_all; done) | grind)) hg hat); have n6_ := Aside0.mk (hb); have n7_ := Aside0.mk (ho); clear HO_7; clear HO_21; clear HO341; clear HO346; clear HO349; clear HO355; clear HB; clear HO_9; clear HO358; have HO_7 := n0_; have HO_21 := n1_; have HO341 := n2_; have HO346 := n3_; have HO349 := n4_; have HO355 := n5_; have HB := n6_; have HO362 := n7_; clear n0_ n1_ n2_ n3_ n4_ n5_ n6_ n7_; clear ho hb hg hat))
                      go_roundg k1
                      case measure => have := HK1.out; omega
                      case rel => exact ⟨(y353), (y360), (wrap64 (x23_1 + 1)), (by first | rfl | (simp; done) | (simp [*]; done)), H', ⟨by have := HK1.out; omega⟩, ⟨by (with_reducible repeat (first | apply Kd.N_alloc | apply Kd.N_drewN | apply Kd.N_drew)); exact Kd.N_mono HO_7.out (fun _ hk => by first | exact ⟨hk.1.2.1, hk.2⟩ | (simp_all; done) | grind)⟩, ⟨by (with_reducible repeat (first | apply Kd.N_alloc | apply Kd.N_drewN | apply Kd.N_drew)); exact Kd.N_mono HO355.out (fun _ hk => by first | exact ⟨hk.1.1, ⟨hk.2, hk.1.2.1⟩⟩ | (simp_all; done) | grind)⟩, ⟨by (with_reducible repeat (first | apply Kd.N_alloc | apply Kd.N_drewN | apply Kd.N_drew)); exact Kd.N_mono HO362.out (fun _ hk => by first | exact ⟨hk.1, ⟨hk.2.2.2, hk.2.1⟩⟩ | (simp_all; done) | grind)⟩, ⟨by (with_reducible repeat (first | apply Kd.N_alloc | apply Kd.N_drewN | apply Kd.N_drew)); exact Kd.N_mono HO_21.out (fun _ hk => by first | exact ⟨hk.1.2.1, hk.2⟩ | (simp_all; done) | grind)⟩, ⟨by repeat (first | (with_reducible first | exact HB.out | apply below_alloc | apply pw_below_drewN | apply below_drew1) | exact HB.out)⟩⟩
                    · rw [if_neg c23] at H
                      exact absurd H (by simp)
                  · rw [if_neg c20] at H
                    exact absurd H (by simp)
                · rw [if_neg c16] at H
                  exact absurd H (by simp)
              · rw [if_neg c15] at H
                exact absurd H (by simp)
            · rw [if_neg c13] at H
              exact absurd H (by simp)
          · rw [if_neg c12] at H
            exact absurd H (by simp)
        · rw [if_neg c11] at H
          have c11b0 : decide (x23_1 < (t331.length : Int)) = false := decide_eq_false c11
          clear c11
          replace H := Option.bind_eq_some_iff.mp H
          obtain ⟨t363, A370, H⟩ := H
          replace H : (if (t363.length : Int) = 1024 then ((raster_Row.f k1 x8_1 t334).bind fun t366 => ((slices_Equal_bool_bool.f k1 t363 t366).bind fun t369 => (if t369 = true then ((raster_Row.f k1 x9_1 t334).bind fun t370 => ((slices_Equal_bool_bool.f k1 t363 t370).bind fun t373 => (some t373))) else (some false)))) else (some false)) = some r := H
          have A37 := Aside0.mk A370
          clear A370
          by_cases c38 : (t363.length : Int) = 1024
          · rw [if_pos c38] at H
            have c38b0 : ((t363.length : Int) == 1024) = true := beq_iff_eq.mpr c38
            have c38b1 : ((t363.length : Int) != 1024) = false := bne_eq_false_iff_eq.mpr c38
            clear c38
            replace H := Option.bind_eq_some_iff.mp H
            obtain ⟨t366, A390, H⟩ := H
            replace H : ((slices_Equal_bool_bool.f k1 t363 t366).bind fun t369 => (if t369 = true then ((raster_Row.f k1 x9_1 t334).bind fun t370 => ((slices_Equal_bool_bool.f k1 t363 t370).bind fun t373 => (some t373))) else (some false))) = some r := H
            have A39 := Aside0.mk A390
            clear A390
            replace H := Option.bind_eq_some_iff.mp H
            obtain ⟨t369, A400, H⟩ := H
            replace H : (if t369 = true then ((raster_Row.f k1 x9_1 t334).bind fun t370 => ((slices_Equal_bool_bool.f k1 t363 t370).bind fun t373 => (some t373))) else (some false)) = some r := H
            have A40 := Aside0.mk A400
            clear A400
            by_cases c41 : t369 = true
            · subst c41
              have H1 : ((raster_Row.f k1 x9_1 t334).bind fun t370 => ((slices_Equal_bool_bool.f k1 t363 t370).bind fun t373 => (some t373))) = some r := by rw [if_pos rfl] at H; exact H
              clear H
              have H := H1
              clear H1
              replace H := Option.bind_eq_some_iff.mp H
              obtain ⟨t370, A420, H⟩ := H
              replace H : ((slices_Equal_bool_bool.f k1 t363 t370).bind fun t373 => (some t373)) = some r := H
              have A42 := Aside0.mk A420
              clear A420
              replace H := Option.bind_eq_some_iff.mp H
              obtain ⟨t373, A430, H⟩ := H
              replace H : (some t373) = some r := H
              have A43 := Aside0.mk A430
              clear A430
              clear hr
              obtain rfl := Option.some.inj H
              go_wp2_with (first | ((with_reducible refine gate_callee (f := 39) rfl ?_); refine goesL_ (some 53) rfl rfl Try.func39 (by kernel_rfl) rfl #[.slice Ao10 t331.length co10, .int .i64 t334] rfl (by (try simp only [List.map_toArray, List.map_cons, List.map_nil]); first | done | rfl | (simp only [List.length_drop, List.length_take]; rfl)) ?_; (with_reducible refine (raster_Row.calls k1 _ _ t331 t334 t363 _ ?side1 ?side2 A37.out).mono ?_); (case side1 => repeat (first | exact (Kd.N_reads' HO_7.out).2.2 | (with_reducible refine Kd.C_alloc ?_ _) | (with_reducible refine Kd.C_drewN ?_ _) | (with_reducible refine Kd.C_drew ?_))); (case side2 => exact (Kd.N_reads' HO_7.out).2.1); rintro e w44 ⟨v364, rfl, ho0, hb⟩; refine ⟨_, rfl, ?_⟩; have n0_ := Aside0.mk (Kd.N_elder' (by (with_reducible repeat (first | apply Kd.N_alloc | apply Kd.N_drewN | apply Kd.N_drew)); exact HO_7.out) (Kd.R_base ho0) hb); have n1_ := Aside0.mk (Kd.N_elder' (by (with_reducible repeat (first | apply Kd.N_alloc | apply Kd.N_drewN | apply Kd.N_drew)); exact HO_8.out) (Kd.R_base ho0) hb); have n2_ := Aside0.mk (Kd.N_elder' (by (with_reducible repeat (first | apply Kd.N_alloc | apply Kd.N_drewN | apply Kd.N_drew)); exact HO_9.out) (Kd.R_base ho0) hb); have n3_ := Aside0.mk (Kd.N_elder' (by (with_reducible repeat (first | apply Kd.N_alloc | apply Kd.N_drewN | apply Kd.N_drew)); exact HO_21.out) (Kd.R_base ho0) hb); have n4_ := Aside0.mk (Kd.R_lower ho0 (below_size (by repeat (first | (with_reducible first | exact HB.out | apply below_alloc | apply pw_below_drewN | apply below_drew1) | exact HB.out)))); have n5_ := Aside0.mk (below_step (by repeat (first | (with_reducible first | exact HB.out | apply below_alloc | apply pw_below_drewN | apply below_drew1) | exact HB.out)) hb); clear HO_7; clear HO_8; clear HO_9; clear HO_21; clear HB; have HO_7 := n0_; have HO_8 := n1_; have HO_9 := n2_; have HO_21 := n3_; have HO365 := n4_; have HB := n5_; clear n0_ n1_ n2_ n3_ n4_ n5_; (try clear hb); (try clear hb2); (try clear hk); (try clear hi); (try clear ho0); obtain ⟨Ao45, co45, eo45⟩ := Kd.R_slice HO365.out; subst eo45; obtain ⟨Ao46, co46, eo46⟩ := Kd.N_slice HO_8.out; subst eo46) | (go_at_call 39; (with_reducible refine (raster_Row.calls k1 _ _ x8_1 t334 t366 _ ?side1 ?side2 A39.out).mono ?_); (case side1 => repeat (first | exact (Kd.N_reads' HO_8.out).2.2 | (with_reducible refine Kd.C_alloc ?_ _) | (with_reducible refine Kd.C_drewN ?_ _) | (with_reducible refine Kd.C_drew ?_))); (case side2 => exact (Kd.N_reads' HO_8.out).2.1); rintro e w47 ⟨v367, rfl, ho0, hb⟩; have n0_ := Aside0.mk (Kd.N_elder' (by (with_reducible repeat (first | apply Kd.N_alloc | apply Kd.N_drewN | apply Kd.N_drew)); exact HO_7.out) (Kd.R_base ho0) hb); have n1_ := Aside0.mk (Kd.N_elder' (by (with_reducible repeat (first | apply Kd.N_alloc | apply Kd.N_drewN | apply Kd.N_drew)); exact HO_8.out) (Kd.R_base ho0) hb); have n2_ := Aside0.mk (Kd.N_elder' (by (with_reducible repeat (first | apply Kd.N_alloc | apply Kd.N_drewN | apply Kd.N_drew)); exact HO_9.out) (Kd.R_base ho0) hb); have n3_ := Aside0.mk (Kd.N_elder' (by (with_reducible repeat (first | apply Kd.N_alloc | apply Kd.N_drewN | apply Kd.N_drew)); exact HO_21.out) (Kd.R_base ho0) hb); have n4_ := Aside0.mk (Kd.R_elder' (by (with_reducible repeat (first | apply Kd.R_alloc | apply Kd.R_drewN | apply Kd.R_drew)); exact HO365.out) (Kd.R_base ho0) hb); have n5_ := Aside0.mk (Kd.R_lower (Kd.R_new' ho0 (Kd.R_lt (by (with_reducible repeat (first | apply Kd.R_alloc | apply Kd.R_drewN | apply Kd.R_drew)); exact HO365.out))) (below_size (by repeat (first | (with_reducible first | exact HB.out | apply below_alloc | apply pw_below_drewN | apply below_drew1) | exact HB.out)))); have n6_ := Aside0.mk (below_step (by repeat (first | (with_reducible first | exact HB.out | apply below_alloc | apply pw_below_drewN | apply below_drew1) | exact HB.out)) hb); clear HO_7; clear HO_8; clear HO_9; clear HO_21; clear HO365; clear HB; have HO_7 := n0_; have HO_8 := n1_; have HO_9 := n2_; have HO_21 := n3_; have HO365 := n4_; have HO368 := n5_; have HB := n6_; clear n0_ n1_ n2_ n3_ n4_ n5_ n6_; (try clear hb); (try clear hb2); (try clear hk); (try clear hi); (try clear ho0); obtain ⟨Ao48, co48, eo48⟩ := Kd.R_slice HO368.out; subst eo48) | (go_at_call 49; (with_reducible refine (slices_Equal_bool_bool.calls k1 _ _ t363 _ _ t366 true _ ?side1 ?side2 ?side3 ?side4 A40.out).mono ?_); (case side1 => repeat (first | exact (Kd.R_reads' HO365.out).2.2 | (with_reducible refine Kd.C_alloc ?_ _) | (with_reducible refine Kd.C_drewN ?_ _) | (with_reducible refine Kd.C_drew ?_))); (case side2 => exact (Kd.R_reads' HO365.out).2.1); (case side3 => repeat (first | exact (Kd.R_reads' HO368.out).2.2 | (with_reducible refine Kd.C_alloc ?_ _) | (with_reducible refine Kd.C_drewN ?_ _) | (with_reducible refine Kd.C_drew ?_))); (case side4 => exact (Kd.R_reads' HO368.out).2.1); rintro e w' ⟨rfl, ⟨nd, rfl⟩⟩; obtain ⟨Ao49, co49, eo49⟩ := Kd.N_slice HO_9.out; subst eo49) | (go_at_call 39; (with_reducible refine (raster_Row.calls k1 _ _ x9_1 t334 t370 _ ?side1 ?side2 A42.out).mono ?_); (case side1 => repeat (first | exact (Kd.N_reads' HO_9.out).2.2 | (with_reducible refine Kd.C_alloc ?_ _) | (with_reducible refine Kd.C_drewN ?_ _) | (with_reducible refine Kd.C_drew ?_))); (case side2 => exact (Kd.N_reads' HO_9.out).2.1); rintro e w50 ⟨v371, rfl, ho0, hb⟩; have n0_ := Aside0.mk (Kd.N_elder' (by (with_reducible repeat (first | apply Kd.N_alloc | apply Kd.N_drewN | apply Kd.N_drew)); exact HO_7.out) (Kd.R_base ho0) hb); have n1_ := Aside0.mk (Kd.N_elder' (by (with_reducible repeat (first | apply Kd.N_alloc | apply Kd.N_drewN | apply Kd.N_drew)); exact HO_8.out) (Kd.R_base ho0) hb); have n2_ := Aside0.mk (Kd.N_elder' (by (with_reducible repeat (first | apply Kd.N_alloc | apply Kd.N_drewN | apply Kd.N_drew)); exact HO_9.out) (Kd.R_base ho0) hb); have n3_ := Aside0.mk (Kd.N_elder' (by (with_reducible repeat (first | apply Kd.N_alloc | apply Kd.N_drewN | apply Kd.N_drew)); exact HO_21.out) (Kd.R_base ho0) hb); have n4_ := Aside0.mk (Kd.R_elder' (by (with_reducible repeat (first | apply Kd.R_alloc | apply Kd.R_drewN | apply Kd.R_drew)); exact HO365.out) (Kd.R_base ho0) hb); have n5_ := Aside0.mk (Kd.R_elder' (by (with_reducible repeat (first | apply Kd.R_alloc | apply Kd.R_drewN | apply Kd.R_drew)); exact HO368.out) (Kd.R_base ho0) hb); have n6_ := Aside0.mk (Kd.R_lower (Kd.R_new' (Kd.R_new' ho0 (Kd.R_lt (by (with_reducible repeat (first | apply Kd.R_alloc | apply Kd.R_drewN | apply Kd.R_drew)); exact HO365.out))) (Kd.R_lt (by (with_reducible repeat (first | apply Kd.R_alloc | apply Kd.R_drewN | apply Kd.R_drew)); exact HO368.out))) (below_size (by repeat (first | (with_reducible first | exact HB.out | apply below_alloc | apply pw_below_drewN | apply below_drew1) | exact HB.out)))); have n7_ := Aside0.mk (below_step (by repeat (first | (with_reducible first | exact HB.out | apply below_alloc | apply pw_below_drewN | apply below_drew1) | exact HB.out)) hb); clear HO_7; clear HO_8; clear HO_9; clear HO_21; clear HO365; clear HO368; clear HB; have HO_7 := n0_; have HO_8 := n1_; have HO_9 := n2_; have HO_21 := n3_; have HO365 := n4_; have HO368 := n5_; have HO372 := n6_; have HB := n7_; clear n0_ n1_ n2_ n3_ n4_ n5_ n6_ n7_; (try clear hb); (try clear hb2); (try clear hk); (try clear hi); (try clear ho0); obtain ⟨Ao51, co51, eo51⟩ := Kd.R_slice HO372.out; subst eo51) | (go_at_call 49; (with_reducible refine (slices_Equal_bool_bool.calls k1 _ _ t363 _ _ t370 t373 _ ?side1 ?side2 ?side3 ?side4 A43.out).mono ?_); (case side1 => repeat (first | exact (Kd.R_reads' HO365.out).2.2 | (with_reducible refine Kd.C_alloc ?_ _) | (with_reducible refine Kd.C_drewN ?_ _) | (with_reducible refine Kd.C_drew ?_))); (case side2 => exact (Kd.R_reads' HO365.out).2.1); (case side3 => repeat (first | exact (Kd.R_reads' HO372.out).2.2 | (with_reducible refine Kd.C_alloc ?_ _) | (with_reducible refine Kd.C_drewN ?_ _) | (with_reducible refine Kd.C_drew ?_))); (case side4 => exact (Kd.R_reads' HO372.out).2.1); rintro e w' ⟨rfl, ⟨nd, rfl⟩⟩))
              go_ret
              exact ⟨by first | rfl | (simp [errW_none, errW_some] <;> rfl) | (simp [*, errW_none, errW_some] <;> rfl), by repeat (first | (with_reducible first | exact HB.out | apply below_alloc | apply pw_below_drewN | apply below_drew1) | exact HB.out)⟩
            · replace c41 := Bool.eq_false_iff.mpr c41
              subst c41
              have H1 : (some false) = some r := by rw [if_neg (show ¬ (false = true) by decide)] at H; exact H
              clear H
              have H := H1
              clear H1
              exact absurd (H.trans (congrArg some hr)) (by decide)
          · rw [if_neg c38] at H
            have c38b0 : ((t363.length : Int) == 1024) = false := beq_eq_false_iff_ne.mpr c38
            have c38b1 : ((t363.length : Int) != 1024) = true := bne_iff_ne.mpr c38
            exact absurd (H.trans (congrArg some hr)) (by decide)
  · replace c5 := Bool.eq_false_iff.mpr c5
    subst c5
    have H1 : (some false) = some r := by rw [if_neg (show ¬ (false = true) by decide)] at H; exact H
    clear H
    have H := H1
    clear H1
    exact absurd (H.trans (congrArg some hr)) (by decide)

/-- THE ONE PURE STATEMENT of terrkeep5_RasterTurns: yours. -/
def terrkeep5_RasterTurns.Pure : Prop := ∀ (l0 : List Int) (a1 : Int) (a2 : Int), l0.length ≤ maxLen → l0.length * 8 ≤ 140737488351232 → (∀ x ∈ l0, (Lit.int .i64 x).wf = true) → (Lit.int .i64 a1).wf = true → (Lit.int .i64 a2).wf = true → ∃ k, terrkeep5_RasterTurns.f k l0 a1 a2 = some true
theorem terrkeep5_RasterTurns.walk (P : terrkeep5_RasterTurns.Pure) (a0 : Option Addr) (len0 cap0 : Nat) (z0 : List Int) (a1 : Int) (a2 : Int) (w : World) (w0 : (a0 = none ∧ len0 = 0 ∧ cap0 = 0 ∧ z0 = []) ∨ ∃ x, a0 = some x ∧ len0 ≤ cap0 ∧ cap0 ≤ maxLen ∧ z0.length = cap0 ∧ (∀ i, i < z0.length → w.cell? (x.add i) = some (.int .i64 (z0.getD i 0))) ∧ ∀ n ∈ z0, (Lit.int .i64 n).wf = true) (y0 : len0 * 8 ≤ 140737488351232) (w1 : (Lit.int .i64 a1).wf = true) (w2 : (Lit.int .i64 a2).wf = true) :
    Calls Try.prog 13 #[.slice a0 len0 cap0, .int .i64 a1, .int .i64 a2] w fun e w' => e = .returned (.bool true) ∧ Below w.heap.size w w' := by
  obtain ⟨l0, rfl, hr0, hm0, hw0, hc0⟩ := ReadsInt.ofRowC w0
  obtain ⟨k, h⟩ := P l0 a1 a2 hm0 y0 hw0 w1 w2
  refine (terrkeep5_RasterTurns.calls k _ _ l0 a1 a2 true w (Kd.C_of_reads (d := (0 : Int)) (h1 := fun _ => rfl) hr0) hc0 h rfl).mono ?_
  rintro e w' ⟨rfl, hd⟩
  exact ⟨rfl, hd⟩
end Go.Proofs.Ytdmhnjpblpfbfaa.Q
