/- What the Go function terrlaw5_RasterRows comes to, and its contract. Condition: its printed twin gives an answer, which is true. -/
import Derived.Test.YtdmhnjpblpfbfaaQf39
import Derived.Test.YtdmhnjpblpfbfaaQf38
import Derived.Test.YtdmhnjpblpfbfaaQf40
namespace Go.Proofs.Ytdmhnjpblpfbfaa.Q
open Go.RowKit Go.Proofs.YtdmhnjpblpfbfaaW.PrintWords Go.Proofs.YtdmhnjpblpfbfaaW.PrintLast Go.Proofs.YtdmhnjpblpfbfaaW.PrintMore
attribute [local go_sem] max2_int min2_int max_two min_two max_three min_three max_four min_four
set_option linter.unusedVariables false
set_option linter.unusedSimpArgs false
/-! ### terrlaw5_RasterRows: function 9 -/
mutual
def terrlaw5_RasterRows.j0 : Nat → List (List (S40)) → Int → List Bool → Bool → Option (Bool)
  | 0, _, _, _, _ => none
  | k + 1, x0, x1, x5, x18 => if x18 = true then (some ((x5.length : Int) == 0)) else (if (x5.length : Int) = 1024 then (terrlaw5_RasterRows.l0 k x0 x1 x5 (x5.length : Int) 0) else (some false))
def terrlaw5_RasterRows.l0 : Nat → List (List (S40)) → Int → List Bool → Int → Int → Option (Bool)
  | 0, _, _, _, _, _ => none
  | k + 1, x0, x1, x25, x26, x27 => if x27 < x26 then (if 0 ≤ x27 then (if x27 < (x25.length : Int) then ((terrref5_Sampled.f k x0 x27 x1).bind fun t273 => (if ((rdOf false x25 x27) != t273) = true then (some false) else (terrlaw5_RasterRows.l0 k x0 x1 x25 x26 (wrap64 (x27 + 1))))) else (none)) else (none)) else (some true)
end
def terrlaw5_RasterRows.f (k : Nat) (l0 : List (List (S40))) (a1 : Int) : Option (Bool) := (terrlaw5_covers.f k).bind fun t268 => (if t268 = true then ((raster_Row.f k l0 a1).bind fun t269 => (if a1 < 0 then (terrlaw5_RasterRows.j0 k l0 a1 t269 true) else (terrlaw5_RasterRows.j0 k l0 a1 t269 (decide (a1 ≥ 1024))))) else (some false))
theorem terrlaw5_RasterRows.mono_l : ∀ k, (∀ y0 y1 y2 y3, LeO (terrlaw5_RasterRows.j0 k y0 y1 y2 y3) (terrlaw5_RasterRows.j0 (k + 1) y0 y1 y2 y3)) ∧ (∀ y0 y1 y2 y3 y4, LeO (terrlaw5_RasterRows.l0 k y0 y1 y2 y3 y4) (terrlaw5_RasterRows.l0 (k + 1) y0 y1 y2 y3 y4))
  | 0 => ⟨fun _ _ _ _ r h => by simp [terrlaw5_RasterRows.j0] at h, fun _ _ _ _ _ r h => by simp [terrlaw5_RasterRows.l0] at h⟩
  | k + 1 => by
    obtain ⟨ih0, ih1⟩ := terrlaw5_RasterRows.mono_l k
    refine ⟨?_, ?_⟩
    · intro y0 y1 y2 y3
      unfold terrlaw5_RasterRows.j0
      repeat' first
      | (with_reducible exact ih0 _ _ _ _)
      | (with_reducible exact ih1 _ _ _ _ _)
      | (with_reducible exact raster_Row.mono _ _ _)
      | (with_reducible exact terrlaw5_covers.mono _)
      | (with_reducible exact terrref5_Sampled.mono _ _ _ _)
      | (with_reducible exact LeO.refl _)
      | (with_reducible exact LeO.none _)
      | (with_reducible refine LeO.ite ?_ ?_)
      | (with_reducible refine LeO.bind ?_ (fun _ => ?_))
      | exact ih0 _ _ _ _
      | exact ih1 _ _ _ _ _
      | exact raster_Row.mono _ _ _
      | exact terrlaw5_covers.mono _
      | exact terrref5_Sampled.mono _ _ _ _
      | exact LeO.none _
      | refine LeO.ite ?_ ?_
      | refine LeO.bind ?_ (fun _ => ?_)
    · intro y0 y1 y2 y3 y4
      unfold terrlaw5_RasterRows.l0
      repeat' first
      | (with_reducible exact ih0 _ _ _ _)
      | (with_reducible exact ih1 _ _ _ _ _)
      | (with_reducible exact raster_Row.mono _ _ _)
      | (with_reducible exact terrlaw5_covers.mono _)
      | (with_reducible exact terrref5_Sampled.mono _ _ _ _)
      | (with_reducible exact LeO.refl _)
      | (with_reducible exact LeO.none _)
      | (with_reducible refine LeO.ite ?_ ?_)
      | (with_reducible refine LeO.bind ?_ (fun _ => ?_))
      | exact ih0 _ _ _ _
      | exact ih1 _ _ _ _ _
      | exact raster_Row.mono _ _ _
      | exact terrlaw5_covers.mono _
      | exact terrref5_Sampled.mono _ _ _ _
      | exact LeO.none _
      | refine LeO.ite ?_ ?_
      | refine LeO.bind ?_ (fun _ => ?_)
theorem terrlaw5_RasterRows.mono : ∀ a0 a1 k, LeO (terrlaw5_RasterRows.f k a0 a1) (terrlaw5_RasterRows.f (k + 1) a0 a1) := by
  intro a0 a1 k
  obtain ⟨ih0, ih1⟩ := terrlaw5_RasterRows.mono_l k
  unfold terrlaw5_RasterRows.f
  repeat' first
      | (with_reducible exact ih0 _ _ _ _)
      | (with_reducible exact ih1 _ _ _ _ _)
      | (with_reducible exact raster_Row.mono _ _ _)
      | (with_reducible exact terrlaw5_covers.mono _)
      | (with_reducible exact terrref5_Sampled.mono _ _ _ _)
      | (with_reducible exact LeO.refl _)
      | (with_reducible exact LeO.none _)
      | (with_reducible refine LeO.ite ?_ ?_)
      | (with_reducible refine LeO.bind ?_ (fun _ => ?_))
      | exact ih0 _ _ _ _
      | exact ih1 _ _ _ _ _
      | exact raster_Row.mono _ _ _
      | exact terrlaw5_covers.mono _
      | exact terrref5_Sampled.mono _ _ _ _
      | exact LeO.none _
      | refine LeO.ite ?_ ?_
      | refine LeO.bind ?_ (fun _ => ?_)
set_option maxHeartbeats 8000000 in
set_option maxRecDepth 100000 in
theorem terrlaw5_RasterRows.calls (k : Nat) (A0 : Option Addr) (c0 : Nat) (l0 : List (List (S40))) (a1 : Int) (r : Bool) (w : World) (hr0 : Kd.C (Kd.slice 40 k40) w A0 l0.length l0) (hc0 : l0.length ≤ c0) (h : terrlaw5_RasterRows.f k l0 a1 = some r) (hr : r = true) :
    Calls Try.prog 9 #[.slice A0 l0.length c0, .int .i64 a1] w fun e w' => e = .returned (.bool r) ∧ Below w.heap.size w w' := by
  have HR0 := Aside0.mk hr0
  have HC0 := Aside0.mk hc0
  clear hr0 hc0
  have HB := Aside0.mk (Below.refl w.heap.size w)
  have H : ((terrlaw5_covers.f k).bind fun t268 => (if t268 = true then ((raster_Row.f k l0 a1).bind fun t269 => (if a1 < 0 then (terrlaw5_RasterRows.j0 k l0 a1 t269 true) else (terrlaw5_RasterRows.j0 k l0 a1 t269 (decide (a1 ≥ 1024))))) else (some false))) = some r := h
  clear h
  replace H := Option.bind_eq_some_iff.mp H
  obtain ⟨t268, A30, H⟩ := H
  replace H : (if t268 = true then ((raster_Row.f k l0 a1).bind fun t269 => (if a1 < 0 then (terrlaw5_RasterRows.j0 k l0 a1 t269 true) else (terrlaw5_RasterRows.j0 k l0 a1 t269 (decide (a1 ≥ 1024))))) else (some false)) = some r := H
  have A3 := Aside0.mk A30
  clear A30
  by_cases c4 : t268 = true
  · subst c4
    have H1 : ((raster_Row.f k l0 a1).bind fun t269 => (if a1 < 0 then (terrlaw5_RasterRows.j0 k l0 a1 t269 true) else (terrlaw5_RasterRows.j0 k l0 a1 t269 (decide (a1 ≥ 1024))))) = some r := by rw [if_pos rfl] at H; exact H
    clear H
    have H := H1
    clear H1
    replace H := Option.bind_eq_some_iff.mp H
    obtain ⟨t269, A50, H⟩ := H
    replace H : (if a1 < 0 then (terrlaw5_RasterRows.j0 k l0 a1 t269 true) else (terrlaw5_RasterRows.j0 k l0 a1 t269 (decide (a1 ≥ 1024)))) = some r := H
    have A5 := Aside0.mk A50
    clear A50
    have HC6 := Aside0.mk H
    clear H
    go_enter Try.func9, Try.ntmps9
    go_upto_region 4 with (first | ((with_reducible refine gate_callee (f := 38) rfl ?_); refine goesL_ (some 8) rfl rfl Try.func38 (by kernel_rfl) rfl #[] rfl (by (try simp only [List.map_toArray, List.map_cons, List.map_nil]); first | done | rfl | (simp only [List.length_drop, List.length_take]; rfl)) ?_; (with_reducible refine (terrlaw5_covers.calls k  true _ A3.out).mono ?_); rintro e w7 ⟨rfl, hb⟩; refine ⟨_, rfl, ?_⟩; have n0_ := Aside0.mk (below_step (by repeat (first | (with_reducible first | exact HB.out | apply below_alloc | apply pw_below_drewN | apply below_drew1) | exact HB.out)) hb); clear HB; have HB := n0_; clear n0_; (try clear hb); (try clear hb2); (try clear hk); (try clear hi)) | ((with_reducible refine gate_callee (f := 39) rfl ?_); refine goesL_ (some 12) rfl rfl Try.func39 (by kernel_rfl) rfl #[.slice A0 l0.length c0, .int .i64 a1] rfl (by (try simp only [List.map_toArray, List.map_cons, List.map_nil]); first | done | rfl | (simp only [List.length_drop, List.length_take]; rfl)) ?_; (with_reducible refine (raster_Row.calls k _ _ l0 a1 t269 _ ?side1 ?side2 A5.out).mono ?_); (case side1 => repeat (first | exact (Kd.C_below HR0.out HB.out) | (with_reducible refine Kd.C_alloc ?_ _) | (with_reducible refine Kd.C_drewN ?_ _) | (with_reducible refine Kd.C_drew ?_))); (case side2 => exact HC0.out); rintro e w8 ⟨v270, rfl, ho0, hb⟩; refine ⟨_, rfl, ?_⟩; have n0_ := Aside0.mk (Kd.R_lower ho0 (below_size (by repeat (first | (with_reducible first | exact HB.out | apply below_alloc | apply pw_below_drewN | apply below_drew1) | exact HB.out)))); have n1_ := Aside0.mk (below_step (by repeat (first | (with_reducible first | exact HB.out | apply below_alloc | apply pw_below_drewN | apply below_drew1) | exact HB.out)) hb); clear HB; have HO271 := n0_; have HB := n1_; clear n0_ n1_; (try clear hb); (try clear hb2); (try clear hk); (try clear hi); (try clear ho0)))
    (try simp only [Act.put, List.setIfInBounds_toArray, List.set_cons_zero, List.set_cons_succ])
    go_cut [18] (fun v18 wc => ∃ (kq : Nat) (x18_5 : Bool), v18 = .bool x18_5 ∧ Aside0 (terrlaw5_RasterRows.j0 kq l0 a1 t269 x18_5 = some r) ∧ Aside0 (kq ≤ k) ∧ Aside0 (Kd.R Kd.bool 4 wc w.heap.size (fun _ => True) v270 t269) ∧ Aside0 (Below w.heap.size w wc))
    case first =>
      have H := HC6.out
      clear HC6
      by_cases c9 : a1 < 0
      · rw [if_pos c9] at H
        have c9b0 : decide (a1 < 0) = true := decide_eq_true c9
        clear c9
        (first | rw [c9b0] | (simp only [i64_w, i32_w]; rw [c9b0]) | skip)
        have H' := Aside0.mk H
        clear H
        go_wp2
        go_meet
        case rel => exact ⟨_, (true), (by first | rfl | (simp; done) | (simp [*]; done)), H', ⟨by first | omega | exact Nat.le_refl _⟩, ⟨by (with_reducible repeat (first | apply Kd.R_alloc | apply Kd.R_drewN | apply Kd.R_drew)); exact HO271.out⟩, ⟨by repeat (first | (with_reducible first | exact HB.out | apply below_alloc | apply pw_below_drewN | apply below_drew1) | exact HB.out)⟩⟩
      · rw [if_neg c9] at H
        have c9b0 : decide (a1 < 0) = false := decide_eq_false c9
        clear c9
        (first | rw [c9b0] | (simp only [i64_w, i32_w]; rw [c9b0]) | skip)
        have H' := Aside0.mk H
        clear H
        go_wp2
        go_meet
        case rel => exact ⟨_, (decide (a1 ≥ 1024)), (by first | rfl | (simp; done) | (simp [*]; done)), H', ⟨by first | omega | exact Nat.le_refl _⟩, ⟨by (with_reducible repeat (first | apply Kd.R_alloc | apply Kd.R_drewN | apply Kd.R_drew)); exact HO271.out⟩, ⟨by repeat (first | (with_reducible first | exact HB.out | apply below_alloc | apply pw_below_drewN | apply below_drew1) | exact HB.out)⟩⟩
    case rest =>
      clear HC6
      try clear p2
      try clear c3
      try clear c4
      try clear c9
      try clear c9b0
      obtain ⟨kq, x18_5, rfl, HA, HJ5, HO_5, HB⟩ := hcut
      cases kq with
      | zero => exact absurd HA.out (by simp [terrlaw5_RasterRows.j0])
      | succ kj5 =>
        have H := HA.out
        clear HA
        simp only [terrlaw5_RasterRows.j0] at H
        by_cases c10 : x18_5 = true
        · subst c10
          have H1 : (some ((t269.length : Int) == 0)) = some r := by rw [if_pos rfl] at H; exact H
          clear H
          have H := H1
          clear H1
          clear hr
          obtain rfl := Option.some.inj H
          obtain ⟨Ao11, co11, eo11⟩ := Kd.R_slice HO_5.out
          subst eo11
          go_wp2
          go_ret
          exact ⟨by first | rfl | (simp [errW_none, errW_some] <;> rfl) | (simp [*, errW_none, errW_some] <;> rfl), by repeat (first | (with_reducible first | exact HB.out | apply below_alloc | apply pw_below_drewN | apply below_drew1) | exact HB.out)⟩
        · replace c10 := Bool.eq_false_iff.mpr c10
          subst c10
          have H1 : (if (t269.length : Int) = 1024 then (terrlaw5_RasterRows.l0 kj5 l0 a1 t269 (t269.length : Int) 0) else (some false)) = some r := by rw [if_neg (show ¬ (false = true) by decide)] at H; exact H
          clear H
          have H := H1
          clear H1
          by_cases c12 : (t269.length : Int) = 1024
          · rw [if_pos c12] at H
            have c12b0 : ((t269.length : Int) == 1024) = true := beq_iff_eq.mpr c12
            have c12b1 : ((t269.length : Int) != 1024) = false := bne_eq_false_iff_eq.mpr c12
            clear c12
            have H' := Aside0.mk H
            clear H
            obtain ⟨Ao13, co13, eo13⟩ := Kd.R_slice HO_5.out
            subst eo13
            go_wp2
            go_loopg [27] kj5 (fun kq v27 w' => ∃ (x27_2 : Int), v27 = .int .i64 x27_2 ∧ Aside0 (terrlaw5_RasterRows.l0 kq l0 a1 t269 (t269.length : Int) x27_2 = some r) ∧ Aside0 (kq ≤ kj5) ∧ Aside0 (Kd.R Kd.bool 4 w' w.heap.size (fun _ => True) (.slice Ao13 t269.length co13) t269) ∧ Aside0 (Below w.heap.size w w'))
            case atStart => exact ⟨(0), (by first | rfl | (simp; done) | (simp [*]; done)), H', ⟨Nat.le_refl _⟩, ⟨by (with_reducible repeat (first | apply Kd.R_alloc | apply Kd.R_drewN | apply Kd.R_drew)); exact HO_5.out⟩, ⟨by repeat (first | (with_reducible first | exact HB.out | apply below_alloc | apply pw_below_drewN | apply below_drew1) | exact HB.out)⟩⟩
            case round =>
              clear H'
              try clear c1
              try clear p2
              try clear c3
              try clear c4
              try clear c9
              try clear c9b0
              try clear c10
              try clear c12
              try clear c12b0
              try clear c12b1
              try clear p2
              obtain ⟨x27_2, rfl, HA, HK2, HO_25, HB⟩ := hrel
              cases gk with
              | zero => exact absurd HA.out (by simp [terrlaw5_RasterRows.l0])
              | succ k2 =>
                have H := HA.out
                clear HA
                simp only [terrlaw5_RasterRows.l0] at H
                by_cases c14 : x27_2 < (t269.length : Int)
                · rw [if_pos c14] at H
                  have c14b0 : decide (x27_2 < (t269.length : Int)) = true := decide_eq_true c14
                  clear c14
                  by_cases c15 : 0 ≤ x27_2
                  · rw [if_pos c15] at H
                    have c15b0 : decide (0 ≤ x27_2) = true := decide_eq_true c15
                    clear c15
                    by_cases c16 : x27_2 < (t269.length : Int)
                    · rw [if_pos c16] at H
                      have c16b0 : decide (x27_2 < (t269.length : Int)) = true := decide_eq_true c16
                      clear c16
                      replace H := Option.bind_eq_some_iff.mp H
                      obtain ⟨t273, A170, H⟩ := H
                      replace H : (if ((rdOf false t269 x27_2) != t273) = true then (some false) else (terrlaw5_RasterRows.l0 k2 l0 a1 t269 (t269.length : Int) (wrap64 (x27_2 + 1)))) = some r := H
                      have A17 := Aside0.mk A170
                      clear A170
                      by_cases c18 : ((rdOf false t269 x27_2) != t273) = true
                      · rw [if_pos c18] at H
                        have c18b0 : ((rdOf false t269 x27_2) != t273) = true := c18
                        (try (have c18b1 : decide ((rdOf false t269 x27_2) = t273) = false := by simpa using c18))
                        (try (have c18b2 : ((rdOf false t269 x27_2) == t273) = false := by simpa using c18))
                        (try (have c18b3 : ¬ ((rdOf false t269 x27_2) = t273) := by simpa using c18))
                        clear c18
                        exact absurd (H.trans (congrArg some hr)) (by decide)
                      · rw [if_neg c18] at H
                        have c18b0 : ((rdOf false t269 x27_2) != t273) = false := by simpa using c18
                        (try (have c18b1 : decide ((rdOf false t269 x27_2) = t273) = true := by simpa using c18))
                        (try (have c18b2 : ((rdOf false t269 x27_2) == t273) = true := by simpa using c18))
                        clear c18
                        have H' := Aside0.mk H
                        clear H
                        have p272 : 0 ≤ (x27_2 : Int) := of_decide_eq_true (by first | (with_reducible assumption) | assumption)
                        have q272 : x27_2 < (t269.length : Int) := of_decide_eq_true (by first | (with_reducible assumption) | assumption)
                        obtain ⟨ad272, e272, hx272_0⟩ := Kd.at_bool (Kd.R_reads' HO_25.out).2.2 x27_2 p272 q272
                        cases e272
                        replace p272 := eq_true p272
                        replace q272 := eq_true q272
                        go_wp2_with (first | ((with_reducible refine gate_callee (f := 40) rfl ?_); refine goesL_ (some 36) rfl rfl Try.func40 (by kernel_rfl) rfl #[.slice A0 l0.length c0, .int .i64 x27_2, .int .i64 a1] rfl (by (try simp only [List.map_toArray, List.map_cons, List.map_nil]); first | done | rfl | (simp only [List.length_drop, List.length_take]; rfl)) ?_; (with_reducible refine (terrref5_Sampled.calls k2 _ _ l0 x27_2 a1 t273 _ ?side1 ?side2 A17.out).mono ?_); (case side1 => repeat (first | exact (Kd.C_below HR0.out HB.out) | (with_reducible refine Kd.C_alloc ?_ _) | (with_reducible refine Kd.C_drewN ?_ _) | (with_reducible refine Kd.C_drew ?_))); (case side2 => exact HC0.out); rintro e w19 ⟨rfl, hb⟩; refine ⟨_, rfl, ?_⟩; have n0_ := Aside0.mk (Kd.R_below (by (with_reducible repeat (first | apply Kd.R_alloc | apply Kd.R_drewN | apply Kd.R_drew)); exact HO_25.out) hb); have n1_ := Aside0.mk (below_step (by repeat (first | (with_reducible first | exact HB.out | apply below_alloc | apply pw_below_drewN | apply below_drew1) | exact HB.out)) hb); clear HO_25; clear HB; have HO_25 := n0_; have HB := n1_; clear n0_ n1_; (try clear hb); (try clear hb2); (try clear hk); (try clear hi)))
                        go_roundg k2
                        case measure => have := HJ5.out; have := HK2.out; omega
                        case rel => exact ⟨(wrap64 (x27_2 + 1)), (by first | rfl | (simp; done) | (simp [*]; done)), H', ⟨by have := HJ5.out; have := HK2.out; omega⟩, ⟨by (with_reducible repeat (first | apply Kd.R_alloc | apply Kd.R_drewN | apply Kd.R_drew)); exact HO_25.out⟩, ⟨by repeat (first | (with_reducible first | exact HB.out | apply below_alloc | apply pw_below_drewN | apply below_drew1) | exact HB.out)⟩⟩
                    · rw [if_neg c16] at H
                      exact absurd H (by simp)
                  · rw [if_neg c15] at H
                    exact absurd H (by simp)
                · rw [if_neg c14] at H
                  have c14b0 : decide (x27_2 < (t269.length : Int)) = false := decide_eq_false c14
                  clear c14
                  clear hr
                  obtain rfl := Option.some.inj H
                  go_wp2
                  go_ret
                  exact ⟨by first | rfl | (simp [errW_none, errW_some] <;> rfl) | (simp [*, errW_none, errW_some] <;> rfl), by repeat (first | (with_reducible first | exact HB.out | apply below_alloc | apply pw_below_drewN | apply below_drew1) | exact HB.out)⟩
          · rw [if_neg c12] at H
            have c12b0 : ((t269.length : Int) == 1024) = false := beq_eq_false_iff_ne.mpr c12
            have c12b1 : ((t269.length : Int) != 1024) = true := bne_iff_ne.mpr c12
            exact absurd (H.trans (congrArg some hr)) (by decide)
  · replace c4 := Bool.eq_false_iff.mpr c4
    subst c4
    have H1 : (some false) = some r := by rw [if_neg (show ¬ (false = true) by decide)] at H; exact H
    clear H
    have H := H1
    clear H1
    exact absurd (H.trans (congrArg some hr)) (by decide)
end Go.Proofs.Ytdmhnjpblpfbfaa.Q
