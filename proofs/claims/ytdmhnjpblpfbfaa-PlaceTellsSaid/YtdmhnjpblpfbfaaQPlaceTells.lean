/- What the Go function terrlaw5_PlaceTells comes to, and its contract. Condition: its printed twin gives an answer, which is true. -/
import Derived.Test.YtdmhnjpblpfbfaaQf26
import Derived.Test.YtdmhnjpblpfbfaaQf17
import Derived.Test.YtdmhnjpblpfbfaaQf22
import Derived.Test.YtdmhnjpblpfbfaaQf24
import Derived.Test.YtdmhnjpblpfbfaaQf25
import Derived.Test.YtdmhnjpblpfbfaaQf27
import Derived.Test.YtdmhnjpblpfbfaaQf28
import Derived.Test.YtdmhnjpblpfbfaaQf29
import Derived.Test.YtdmhnjpblpfbfaaQf30
namespace Go.Proofs.Ytdmhnjpblpfbfaa.Q
open Go.RowKit Go.Proofs.YtdmhnjpblpfbfaaW.PrintWords Go.Proofs.YtdmhnjpblpfbfaaW.PrintLast Go.Proofs.YtdmhnjpblpfbfaaW.PrintMore
attribute [local go_sem] max2_int min2_int max_two min_two max_three min_three max_four min_four
set_option linter.unusedVariables false
set_option linter.unusedSimpArgs false
/-! ### terrlaw5_PlaceTells: function 5 -/
mutual
def terrlaw5_PlaceTells.j0 : Nat → List (S36) → List Int → List Int → Int → Bool → Option (Bool)
  | 0, _, _, _, _, _ => none
  | k + 1, x0, x1, x6, x7, x55 => if x55 = true then (some false) else ((terrlaw5_chosen.f k x0 x1).bind fun t219 => (if t219 = true then ((terrlaw5_worth.f k x0 x1).bind fun t220 => (if t220 > x7 then (some false) else (if t220 = x7 then ((slices_Compare_int_int.f k x1 x6).bind fun t221 => (if t221 < 0 then (some false) else (terrlaw5_PlaceTells.j1 k x0 x6))) else (terrlaw5_PlaceTells.j1 k x0 x6)))) else (terrlaw5_PlaceTells.j1 k x0 x6)))
def terrlaw5_PlaceTells.j1 : Nat → List (S36) → List Int → Option (Bool)
  | 0, _, _ => none
  | k + 1, x0, x6 => terrlaw5_PlaceTells.l0 k x0 x6 1 x0 (x0.length : Int) 0
def terrlaw5_PlaceTells.l0 : Nat → List (S36) → List Int → Int → List (S36) → Int → Int → Option (Bool)
  | 0, _, _, _, _, _, _ => none
  | k + 1, x0, x6, x10, x76, x77, x78 => if x78 < x77 then (if 0 ≤ x78 then (if x78 < (x76.length : Int) then (terrlaw5_PlaceTells.l0 k x0 x6 (wrap64 (x10 * (wrap64 ((((rd_T36 x76 x78).f1).length : Int) + 1)))) x76 x77 (wrap64 (x78 + 1))) else (none)) else (none)) else (if x10 > 60000 then (some true) else ((terrlaw5_bestOf.f k x0).bind fun t224 => ((slices_Equal_int_int.f k x6 t224).bind fun t227 => (some t227))))
end
def terrlaw5_PlaceTells.f (k : Nat) (l0 : List (S36)) (l1 : List Int) : Option (Bool) := (terrlaw5_alone.f k).bind fun t209 => (if t209 = true then ((terrlaw5_wantsFault.f k l0).bind fun t210 => ((place_Best.f k l0).bind fun bt211 => ((place_Check.f k l0).bind fun t216 => (if t216 = t210 then (if t210 = 0 then (if bt211.2.2 = 0 then ((terrlaw5_chosen.f k l0 bt211.1).bind fun t217 => (if t217 = true then ((terrlaw5_worth.f k l0 bt211.1).bind fun t218 => (terrlaw5_PlaceTells.j0 k l0 l1 bt211.1 bt211.2.1 (t218 != bt211.2.1))) else (terrlaw5_PlaceTells.j0 k l0 l1 bt211.1 bt211.2.1 true))) else (terrlaw5_PlaceTells.j0 k l0 l1 bt211.1 bt211.2.1 true)) else (if bt211.2.2 = t210 then (if bt211.2.1 = 0 then (some ((bt211.1.length : Int) == 0)) else (some false)) else (some false))) else (some false))))) else (some false))
set_option maxHeartbeats 8000000 in
set_option maxRecDepth 100000 in
theorem terrlaw5_PlaceTells.calls (k : Nat) (A0 : Option Addr) (c0 : Nat) (l0 : List (S36)) (A1 : Option Addr) (c1 : Nat) (l1 : List Int) (r : Bool) (w : World) (hr0 : Kd.C k36 w A0 l0.length l0) (hc0 : l0.length ≤ c0) (hr1 : Kd.C (Kd.int .i64) w A1 l1.length l1) (hc1 : l1.length ≤ c1) (h : terrlaw5_PlaceTells.f k l0 l1 = some r) (hr : r = true) :
    Calls Try.prog 5 #[.slice A0 l0.length c0, .slice A1 l1.length c1] w fun e w' => e = .returned (.bool r) ∧ Below w.heap.size w w' := by
  have hu36 := Try.underlying36
  have HR0 := Aside0.mk hr0
  have HC0 := Aside0.mk hc0
  clear hr0 hc0
  have HR1 := Aside0.mk hr1
  have HC1 := Aside0.mk hc1
  clear hr1 hc1
  have HB := Aside0.mk (Below.refl w.heap.size w)
  have H : ((terrlaw5_alone.f k).bind fun t209 => (if t209 = true then ((terrlaw5_wantsFault.f k l0).bind fun t210 => ((place_Best.f k l0).bind fun bt211 => ((place_Check.f k l0).bind fun t216 => (if t216 = t210 then (if t210 = 0 then (if bt211.2.2 = 0 then ((terrlaw5_chosen.f k l0 bt211.1).bind fun t217 => (if t217 = true then ((terrlaw5_worth.f k l0 bt211.1).bind fun t218 => (terrlaw5_PlaceTells.j0 k l0 l1 bt211.1 bt211.2.1 (t218 != bt211.2.1))) else (terrlaw5_PlaceTells.j0 k l0 l1 bt211.1 bt211.2.1 true))) else (terrlaw5_PlaceTells.j0 k l0 l1 bt211.1 bt211.2.1 true)) else (if bt211.2.2 = t210 then (if bt211.2.1 = 0 then (some ((bt211.1.length : Int) == 0)) else (some false)) else (some false))) else (some false))))) else (some false))) = some r := h
  clear h
  replace H := Option.bind_eq_some_iff.mp H
  obtain ⟨t209, A30, H⟩ := H
  replace H : (if t209 = true then ((terrlaw5_wantsFault.f k l0).bind fun t210 => ((place_Best.f k l0).bind fun bt211 => ((place_Check.f k l0).bind fun t216 => (if t216 = t210 then (if t210 = 0 then (if bt211.2.2 = 0 then ((terrlaw5_chosen.f k l0 bt211.1).bind fun t217 => (if t217 = true then ((terrlaw5_worth.f k l0 bt211.1).bind fun t218 => (terrlaw5_PlaceTells.j0 k l0 l1 bt211.1 bt211.2.1 (t218 != bt211.2.1))) else (terrlaw5_PlaceTells.j0 k l0 l1 bt211.1 bt211.2.1 true))) else (terrlaw5_PlaceTells.j0 k l0 l1 bt211.1 bt211.2.1 true)) else (if bt211.2.2 = t210 then (if bt211.2.1 = 0 then (some ((bt211.1.length : Int) == 0)) else (some false)) else (some false))) else (some false))))) else (some false)) = some r := H
  have A3 := Aside0.mk A30
  clear A30
  by_cases c4 : t209 = true
  · subst c4
    have H1 : ((terrlaw5_wantsFault.f k l0).bind fun t210 => ((place_Best.f k l0).bind fun bt211 => ((place_Check.f k l0).bind fun t216 => (if t216 = t210 then (if t210 = 0 then (if bt211.2.2 = 0 then ((terrlaw5_chosen.f k l0 bt211.1).bind fun t217 => (if t217 = true then ((terrlaw5_worth.f k l0 bt211.1).bind fun t218 => (terrlaw5_PlaceTells.j0 k l0 l1 bt211.1 bt211.2.1 (t218 != bt211.2.1))) else (terrlaw5_PlaceTells.j0 k l0 l1 bt211.1 bt211.2.1 true))) else (terrlaw5_PlaceTells.j0 k l0 l1 bt211.1 bt211.2.1 true)) else (if bt211.2.2 = t210 then (if bt211.2.1 = 0 then (some ((bt211.1.length : Int) == 0)) else (some false)) else (some false))) else (some false))))) = some r := by rw [if_pos rfl] at H; exact H
    clear H
    have H := H1
    clear H1
    replace H := Option.bind_eq_some_iff.mp H
    obtain ⟨t210, A50, H⟩ := H
    replace H : ((place_Best.f k l0).bind fun bt211 => ((place_Check.f k l0).bind fun t216 => (if t216 = t210 then (if t210 = 0 then (if bt211.2.2 = 0 then ((terrlaw5_chosen.f k l0 bt211.1).bind fun t217 => (if t217 = true then ((terrlaw5_worth.f k l0 bt211.1).bind fun t218 => (terrlaw5_PlaceTells.j0 k l0 l1 bt211.1 bt211.2.1 (t218 != bt211.2.1))) else (terrlaw5_PlaceTells.j0 k l0 l1 bt211.1 bt211.2.1 true))) else (terrlaw5_PlaceTells.j0 k l0 l1 bt211.1 bt211.2.1 true)) else (if bt211.2.2 = t210 then (if bt211.2.1 = 0 then (some ((bt211.1.length : Int) == 0)) else (some false)) else (some false))) else (some false)))) = some r := H
    have A5 := Aside0.mk A50
    clear A50
    replace H := Option.bind_eq_some_iff.mp H
    obtain ⟨⟨t211, t212, t213⟩, A60, H⟩ := H
    replace H : ((place_Check.f k l0).bind fun t216 => (if t216 = t210 then (if t210 = 0 then (if t213 = 0 then ((terrlaw5_chosen.f k l0 t211).bind fun t217 => (if t217 = true then ((terrlaw5_worth.f k l0 t211).bind fun t218 => (terrlaw5_PlaceTells.j0 k l0 l1 t211 t212 (t218 != t212))) else (terrlaw5_PlaceTells.j0 k l0 l1 t211 t212 true))) else (terrlaw5_PlaceTells.j0 k l0 l1 t211 t212 true)) else (if t213 = t210 then (if t212 = 0 then (some ((t211.length : Int) == 0)) else (some false)) else (some false))) else (some false))) = some r := H
    have A6 := Aside0.mk A60
    clear A60
    replace H := Option.bind_eq_some_iff.mp H
    obtain ⟨t216, A70, H⟩ := H
    replace H : (if t216 = t210 then (if t210 = 0 then (if t213 = 0 then ((terrlaw5_chosen.f k l0 t211).bind fun t217 => (if t217 = true then ((terrlaw5_worth.f k l0 t211).bind fun t218 => (terrlaw5_PlaceTells.j0 k l0 l1 t211 t212 (t218 != t212))) else (terrlaw5_PlaceTells.j0 k l0 l1 t211 t212 true))) else (terrlaw5_PlaceTells.j0 k l0 l1 t211 t212 true)) else (if t213 = t210 then (if t212 = 0 then (some ((t211.length : Int) == 0)) else (some false)) else (some false))) else (some false)) = some r := H
    have A7 := Aside0.mk A70
    clear A70
    by_cases c8 : t216 = t210
    · rw [if_pos c8] at H
      have c8b0 : (t216 == t210) = true := beq_iff_eq.mpr c8
      have c8b1 : (t216 != t210) = false := bne_eq_false_iff_eq.mpr c8
      clear c8
      by_cases c9 : t210 = 0
      · rw [if_pos c9] at H
        have c9b0 : (t210 == 0) = true := beq_iff_eq.mpr c9
        have c9b1 : (t210 != 0) = false := bne_eq_false_iff_eq.mpr c9
        clear c9
        have HC10 := Aside0.mk H
        clear H
        go_enter Try.func5, Try.ntmps5
        go_upto_region 9 with (first | ((with_reducible refine gate_callee (f := 24) rfl ?_); refine goesL_ (some 13) rfl rfl Try.func24 (by kernel_rfl) rfl #[] rfl (by (try simp only [List.map_toArray, List.map_cons, List.map_nil]); first | done | rfl | (simp only [List.length_drop, List.length_take]; rfl)) ?_; (with_reducible refine (terrlaw5_alone.calls k  true _ A3.out).mono ?_); rintro e w11 ⟨rfl, hb⟩; refine ⟨_, rfl, ?_⟩; have n0_ := Aside0.mk (below_step (by repeat (first | (with_reducible first | exact HB.out | apply below_alloc | apply pw_below_drewN | apply below_drew1) | exact HB.out)) hb); clear HB; have HB := n0_; clear n0_; (try clear hb); (try clear hb2); (try clear hk); (try clear hi)) | ((with_reducible refine gate_callee (f := 25) rfl ?_); refine goesL_ (some 16) rfl rfl Try.func25 (by kernel_rfl) rfl #[.slice A0 l0.length c0] rfl (by (try simp only [List.map_toArray, List.map_cons, List.map_nil]); first | done | rfl | (simp only [List.length_drop, List.length_take]; rfl)) ?_; (with_reducible refine (terrlaw5_wantsFault.calls k _ _ l0 t210 _ ?side1 ?side2 A5.out).mono ?_); (case side1 => repeat (first | exact (Kd.C_below HR0.out HB.out) | (with_reducible refine Kd.C_alloc ?_ _) | (with_reducible refine Kd.C_drewN ?_ _) | (with_reducible refine Kd.C_drew ?_))); (case side2 => exact HC0.out); rintro e w12 ⟨rfl, hb⟩; refine ⟨_, rfl, ?_⟩; have n0_ := Aside0.mk (below_step (by repeat (first | (with_reducible first | exact HB.out | apply below_alloc | apply pw_below_drewN | apply below_drew1) | exact HB.out)) hb); clear HB; have HB := n0_; clear n0_; (try clear hb); (try clear hb2); (try clear hk); (try clear hi)) | ((with_reducible refine gate_callee (f := 17) rfl ?_); refine goesL_ (some 19) rfl rfl Try.func17 (by kernel_rfl) rfl #[.slice A0 l0.length c0] rfl (by (try simp only [List.map_toArray, List.map_cons, List.map_nil]); first | done | rfl | (simp only [List.length_drop, List.length_take]; rfl)) ?_; (with_reducible refine (place_Best.calls k _ _ l0 t211 t212 t213 _ ?side1 ?side2 A6.out).mono ?_); (case side1 => repeat (first | exact (Kd.C_below HR0.out HB.out) | (with_reducible refine Kd.C_alloc ?_ _) | (with_reducible refine Kd.C_drewN ?_ _) | (with_reducible refine Kd.C_drew ?_))); (case side2 => exact HC0.out); rintro e w13 ⟨v214, rfl, ho0, hb⟩; refine ⟨_, rfl, ?_⟩; have n0_ := Aside0.mk (Kd.R_lower ho0 (below_size (by repeat (first | (with_reducible first | exact HB.out | apply below_alloc | apply pw_below_drewN | apply below_drew1) | exact HB.out)))); have n1_ := Aside0.mk (below_step (by repeat (first | (with_reducible first | exact HB.out | apply below_alloc | apply pw_below_drewN | apply below_drew1) | exact HB.out)) hb); clear HB; have HO215 := n0_; have HB := n1_; clear n0_ n1_; (try clear hb); (try clear hb2); (try clear hk); (try clear hi); (try clear ho0)) | ((with_reducible refine gate_callee (f := 26) rfl ?_); refine goesL_ (some 24) rfl rfl Try.func26 (by kernel_rfl) rfl #[.slice A0 l0.length c0] rfl (by (try simp only [List.map_toArray, List.map_cons, List.map_nil]); first | done | rfl | (simp only [List.length_drop, List.length_take]; rfl)) ?_; (with_reducible refine (place_Check.calls k _ _ l0 t216 _ ?side1 ?side2 A7.out).mono ?_); (case side1 => repeat (first | exact (Kd.C_below HR0.out HB.out) | (with_reducible refine Kd.C_alloc ?_ _) | (with_reducible refine Kd.C_drewN ?_ _) | (with_reducible refine Kd.C_drew ?_))); (case side2 => exact HC0.out); rintro e w14 ⟨rfl, hb⟩; refine ⟨_, rfl, ?_⟩; have n0_ := Aside0.mk (Kd.R_below (by (with_reducible repeat (first | apply Kd.R_alloc | apply Kd.R_drewN | apply Kd.R_drew)); exact HO215.out) hb); have n1_ := Aside0.mk (below_step (by repeat (first | (with_reducible first | exact HB.out | apply below_alloc | apply pw_below_drewN | apply below_drew1) | exact HB.out)) hb); clear HO215; clear HB; have HO215 := n0_; have HB := n1_; clear n0_ n1_; (try clear hb); (try clear hb2); (try clear hk); (try clear hi)))
        (try simp only [Act.put, List.setIfInBounds_toArray, List.set_cons_zero, List.set_cons_succ])
        go_cut [55] (fun v55 wc => ∃ (kq : Nat) (x55_9 : Bool), v55 = .bool x55_9 ∧ Aside0 (terrlaw5_PlaceTells.j0 kq l0 l1 t211 t212 x55_9 = some r) ∧ Aside0 (kq ≤ k) ∧ Aside0 (Kd.R (Kd.int .i64) 3 wc w.heap.size (fun _ => True) v214 t211) ∧ Aside0 (Below w.heap.size w wc))
        case first =>
          have H := HC10.out
          clear HC10
          by_cases c15 : t213 = 0
          · rw [if_pos c15] at H
            have c15b0 : (t213 == 0) = true := beq_iff_eq.mpr c15
            have c15b1 : (t213 != 0) = false := bne_eq_false_iff_eq.mpr c15
            clear c15
            (first | rw [c15b0] | (simp only [i64_w, i32_w]; rw [c15b0]) | skip)
            replace H := Option.bind_eq_some_iff.mp H
            obtain ⟨t217, A160, H⟩ := H
            replace H : (if t217 = true then ((terrlaw5_worth.f k l0 t211).bind fun t218 => (terrlaw5_PlaceTells.j0 k l0 l1 t211 t212 (t218 != t212))) else (terrlaw5_PlaceTells.j0 k l0 l1 t211 t212 true)) = some r := H
            have A16 := Aside0.mk A160
            clear A160
            by_cases c17 : t217 = true
            · subst c17
              have H1 : ((terrlaw5_worth.f k l0 t211).bind fun t218 => (terrlaw5_PlaceTells.j0 k l0 l1 t211 t212 (t218 != t212))) = some r := by rw [if_pos rfl] at H; exact H
              clear H
              have H := H1
              clear H1
              replace H := Option.bind_eq_some_iff.mp H
              obtain ⟨t218, A180, H⟩ := H
              replace H : (terrlaw5_PlaceTells.j0 k l0 l1 t211 t212 (t218 != t212)) = some r := H
              have A18 := Aside0.mk A180
              clear A180
              have H' := Aside0.mk H
              clear H
              obtain ⟨Ao19, co19, eo19⟩ := Kd.R_slice HO215.out
              subst eo19
              go_wp2_with (first | (go_at_call 27; (with_reducible refine (terrlaw5_chosen.calls k _ _ l0 _ _ t211 true _ ?side1 ?side2 ?side3 ?side4 A16.out).mono ?_); (case side1 => repeat (first | exact (Kd.C_below HR0.out HB.out) | (with_reducible refine Kd.C_alloc ?_ _) | (with_reducible refine Kd.C_drewN ?_ _) | (with_reducible refine Kd.C_drew ?_))); (case side2 => exact HC0.out); (case side3 => repeat (first | exact (Kd.R_reads' HO215.out).2.2 | (with_reducible refine Kd.C_alloc ?_ _) | (with_reducible refine Kd.C_drewN ?_ _) | (with_reducible refine Kd.C_drew ?_))); (case side4 => exact (Kd.R_reads' HO215.out).2.1); rintro e w20 ⟨rfl, hb⟩; have n0_ := Aside0.mk (Kd.R_below (by (with_reducible repeat (first | apply Kd.R_alloc | apply Kd.R_drewN | apply Kd.R_drew)); exact HO215.out) hb); have n1_ := Aside0.mk (below_step (by repeat (first | (with_reducible first | exact HB.out | apply below_alloc | apply pw_below_drewN | apply below_drew1) | exact HB.out)) hb); clear HO215; clear HB; have HO215 := n0_; have HB := n1_; clear n0_ n1_; (try clear hb); (try clear hb2); (try clear hk); (try clear hi)) | (go_at_call 28; (with_reducible refine (terrlaw5_worth.calls k _ _ l0 _ _ t211 t218 _ ?side1 ?side2 ?side3 ?side4 A18.out).mono ?_); (case side1 => repeat (first | exact (Kd.C_below HR0.out HB.out) | (with_reducible refine Kd.C_alloc ?_ _) | (with_reducible refine Kd.C_drewN ?_ _) | (with_reducible refine Kd.C_drew ?_))); (case side2 => exact HC0.out); (case side3 => repeat (first | exact (Kd.R_reads' HO215.out).2.2 | (with_reducible refine Kd.C_alloc ?_ _) | (with_reducible refine Kd.C_drewN ?_ _) | (with_reducible refine Kd.C_drew ?_))); (case side4 => exact (Kd.R_reads' HO215.out).2.1); rintro e w21 ⟨rfl, hb⟩; have n0_ := Aside0.mk (Kd.R_below (by (with_reducible repeat (first | apply Kd.R_alloc | apply Kd.R_drewN | apply Kd.R_drew)); exact HO215.out) hb); have n1_ := Aside0.mk (below_step (by repeat (first | (with_reducible first | exact HB.out | apply below_alloc | apply pw_below_drewN | apply below_drew1) | exact HB.out)) hb); clear HO215; clear HB; have HO215 := n0_; have HB := n1_; clear n0_ n1_; (try clear hb); (try clear hb2); (try clear hk); (try clear hi)))
              go_meet
              case rel => exact ⟨_, ((t218 != t212)), (by first | rfl | (simp; done) | (simp [*]; done)), H', ⟨by first | omega | exact Nat.le_refl _⟩, ⟨by (with_reducible repeat (first | apply Kd.R_alloc | apply Kd.R_drewN | apply Kd.R_drew)); exact HO215.out⟩, ⟨by repeat (first | (with_reducible first | exact HB.out | apply below_alloc | apply pw_below_drewN | apply below_drew1) | exact HB.out)⟩⟩
            · replace c17 := Bool.eq_false_iff.mpr c17
              subst c17
              have H1 : (terrlaw5_PlaceTells.j0 k l0 l1 t211 t212 true) = some r := by rw [if_neg (show ¬ (false = true) by decide)] at H; exact H
              clear H
              have H := H1
              clear H1
              have H' := Aside0.mk H
              clear H
              obtain ⟨Ao22, co22, eo22⟩ := Kd.R_slice HO215.out
              subst eo22
              go_wp2_with (first | (go_at_call 27; (with_reducible refine (terrlaw5_chosen.calls k _ _ l0 _ _ t211 false _ ?side1 ?side2 ?side3 ?side4 A16.out).mono ?_); (case side1 => repeat (first | exact (Kd.C_below HR0.out HB.out) | (with_reducible refine Kd.C_alloc ?_ _) | (with_reducible refine Kd.C_drewN ?_ _) | (with_reducible refine Kd.C_drew ?_))); (case side2 => exact HC0.out); (case side3 => repeat (first | exact (Kd.R_reads' HO215.out).2.2 | (with_reducible refine Kd.C_alloc ?_ _) | (with_reducible refine Kd.C_drewN ?_ _) | (with_reducible refine Kd.C_drew ?_))); (case side4 => exact (Kd.R_reads' HO215.out).2.1); rintro e w23 ⟨rfl, hb⟩; have n0_ := Aside0.mk (Kd.R_below (by (with_reducible repeat (first | apply Kd.R_alloc | apply Kd.R_drewN | apply Kd.R_drew)); exact HO215.out) hb); have n1_ := Aside0.mk (below_step (by repeat (first | (with_reducible first | exact HB.out | apply below_alloc | apply pw_below_drewN | apply below_drew1) | exact HB.out)) hb); clear HO215; clear HB; have HO215 := n0_; have HB := n1_; clear n0_ n1_; (try clear hb); (try clear hb2); (try clear hk); (try clear hi)))
              go_meet
              case rel => exact ⟨_, (true), (by first | rfl | (simp; done) | (simp [*]; done)), H', ⟨by first | omega | exact Nat.le_refl _⟩, ⟨by (with_reducible repeat (first | apply Kd.R_alloc | apply Kd.R_drewN | apply Kd.R_drew)); exact HO215.out⟩, ⟨by repeat (first | (with_reducible first | exact HB.out | apply below_alloc | apply pw_below_drewN | apply below_drew1) | exact HB.out)⟩⟩
          · rw [if_neg c15] at H
            have c15b0 : (t213 == 0) = false := beq_eq_false_iff_ne.mpr c15
            have c15b1 : (t213 != 0) = true := bne_iff_ne.mpr c15
            (first | rw [c15b0] | (simp only [i64_w, i32_w]; rw [c15b0]) | skip)
            have H' := Aside0.mk H
            clear H
            go_wp2
            go_meet
            case rel => exact ⟨_, (true), (by first | rfl | (simp; done) | (simp [*]; done)), H', ⟨by first | omega | exact Nat.le_refl _⟩, ⟨by (with_reducible repeat (first | apply Kd.R_alloc | apply Kd.R_drewN | apply Kd.R_drew)); exact HO215.out⟩, ⟨by repeat (first | (with_reducible first | exact HB.out | apply below_alloc | apply pw_below_drewN | apply below_drew1) | exact HB.out)⟩⟩
        case rest =>
          clear HC10
          try clear c1
          try clear c2
          try clear p2
          try clear c4
          try clear c5
          try clear c8
          try clear c8b0
          try clear c8b1
          try clear c9
          try clear c9b0
          try clear c9b1
          try clear c15
          try clear c15b0
          try clear c15b1
          try clear c17
          obtain ⟨kq, x55_9, rfl, HA, HJ9, HO_6, HB⟩ := hcut
          cases kq with
          | zero => exact absurd HA.out (by simp [terrlaw5_PlaceTells.j0])
          | succ kj9 =>
            have H := HA.out
            clear HA
            simp only [terrlaw5_PlaceTells.j0] at H
            by_cases c24 : x55_9 = true
            · subst c24
              have H1 : (some false) = some r := by rw [if_pos rfl] at H; exact H
              clear H
              have H := H1
              clear H1
              exact absurd (H.trans (congrArg some hr)) (by decide)
            · replace c24 := Bool.eq_false_iff.mpr c24
              subst c24
              have H1 : ((terrlaw5_chosen.f kj9 l0 l1).bind fun t219 => (if t219 = true then ((terrlaw5_worth.f kj9 l0 l1).bind fun t220 => (if t220 > t212 then (some false) else (if t220 = t212 then ((slices_Compare_int_int.f kj9 l1 t211).bind fun t221 => (if t221 < 0 then (some false) else (terrlaw5_PlaceTells.j1 kj9 l0 t211))) else (terrlaw5_PlaceTells.j1 kj9 l0 t211)))) else (terrlaw5_PlaceTells.j1 kj9 l0 t211))) = some r := by rw [if_neg (show ¬ (false = true) by decide)] at H; exact H
              clear H
              have H := H1
              clear H1
              replace H := Option.bind_eq_some_iff.mp H
              obtain ⟨t219, A250, H⟩ := H
              replace H : (if t219 = true then ((terrlaw5_worth.f kj9 l0 l1).bind fun t220 => (if t220 > t212 then (some false) else (if t220 = t212 then ((slices_Compare_int_int.f kj9 l1 t211).bind fun t221 => (if t221 < 0 then (some false) else (terrlaw5_PlaceTells.j1 kj9 l0 t211))) else (terrlaw5_PlaceTells.j1 kj9 l0 t211)))) else (terrlaw5_PlaceTells.j1 kj9 l0 t211)) = some r := H
              have A25 := Aside0.mk A250
              clear A250
              have HC26 := Aside0.mk H
              clear H
              go_upto_if 58 with (first | ((with_reducible refine gate_callee (f := 27) rfl ?_); refine goesL_ (some 58) rfl rfl Try.func27 (by kernel_rfl) rfl #[.slice A0 l0.length c0, .slice A1 l1.length c1] rfl (by (try simp only [List.map_toArray, List.map_cons, List.map_nil]); first | done | rfl | (simp only [List.length_drop, List.length_take]; rfl)) ?_; (with_reducible refine (terrlaw5_chosen.calls kj9 _ _ l0 _ _ l1 t219 _ ?side1 ?side2 ?side3 ?side4 A25.out).mono ?_); (case side1 => repeat (first | exact (Kd.C_below HR0.out HB.out) | (with_reducible refine Kd.C_alloc ?_ _) | (with_reducible refine Kd.C_drewN ?_ _) | (with_reducible refine Kd.C_drew ?_))); (case side2 => exact HC0.out); (case side3 => repeat (first | exact (Kd.C_below HR1.out HB.out) | (with_reducible refine Kd.C_alloc ?_ _) | (with_reducible refine Kd.C_drewN ?_ _) | (with_reducible refine Kd.C_drew ?_))); (case side4 => exact HC1.out); rintro e w27 ⟨rfl, hb⟩; refine ⟨_, rfl, ?_⟩; have n0_ := Aside0.mk (Kd.R_below (by (with_reducible repeat (first | apply Kd.R_alloc | apply Kd.R_drewN | apply Kd.R_drew)); exact HO_6.out) hb); have n1_ := Aside0.mk (below_step (by repeat (first | (with_reducible first | exact HB.out | apply below_alloc | apply pw_below_drewN | apply below_drew1) | exact HB.out)) hb); clear HO_6; clear HB; have HO_6 := n0_; have HB := n1_; clear n0_ n1_; (try clear hb); (try clear hb2); (try clear hk); (try clear hi)))
              (try simp only [Act.put, List.setIfInBounds_toArray, List.set_cons_zero, List.set_cons_succ])
              go_cut [] (fun wc => ∃ (kq : Nat), Aside0 (terrlaw5_PlaceTells.j1 kq l0 t211 = some r) ∧ Aside0 (kq ≤ kj9) ∧ Aside0 (Kd.R (Kd.int .i64) 3 wc w.heap.size (fun _ => True) v214 t211) ∧ Aside0 (Below w.heap.size w wc))
              case first =>
                have H := HC26.out
                clear HC26
                by_cases c28 : t219 = true
                · subst c28
                  have H1 : ((terrlaw5_worth.f kj9 l0 l1).bind fun t220 => (if t220 > t212 then (some false) else (if t220 = t212 then ((slices_Compare_int_int.f kj9 l1 t211).bind fun t221 => (if t221 < 0 then (some false) else (terrlaw5_PlaceTells.j1 kj9 l0 t211))) else (terrlaw5_PlaceTells.j1 kj9 l0 t211)))) = some r := by rw [if_pos rfl] at H; exact H
                  clear H
                  have H := H1
                  clear H1
                  replace H := Option.bind_eq_some_iff.mp H
                  obtain ⟨t220, A290, H⟩ := H
                  replace H : (if t220 > t212 then (some false) else (if t220 = t212 then ((slices_Compare_int_int.f kj9 l1 t211).bind fun t221 => (if t221 < 0 then (some false) else (terrlaw5_PlaceTells.j1 kj9 l0 t211))) else (terrlaw5_PlaceTells.j1 kj9 l0 t211))) = some r := H
                  have A29 := Aside0.mk A290
                  clear A290
                  by_cases c30 : t220 > t212
                  · rw [if_pos c30] at H
                    have c30b0 : decide (t212 < t220) = true := decide_eq_true c30
                    clear c30
                    (first | rw [c30b0] | (simp only [i64_w, i32_w]; rw [c30b0]) | skip)
                    exact absurd (H.trans (congrArg some hr)) (by decide)
                  · rw [if_neg c30] at H
                    have c30b0 : decide (t212 < t220) = false := decide_eq_false c30
                    clear c30
                    (first | rw [c30b0] | (simp only [i64_w, i32_w]; rw [c30b0]) | skip)
                    by_cases c31 : t220 = t212
                    · rw [if_pos c31] at H
                      have c31b0 : (t220 == t212) = true := beq_iff_eq.mpr c31
                      have c31b1 : (t220 != t212) = false := bne_eq_false_iff_eq.mpr c31
                      clear c31
                      replace H := Option.bind_eq_some_iff.mp H
                      obtain ⟨t221, A320, H⟩ := H
                      replace H : (if t221 < 0 then (some false) else (terrlaw5_PlaceTells.j1 kj9 l0 t211)) = some r := H
                      have A32 := Aside0.mk A320
                      clear A320
                      by_cases c33 : t221 < 0
                      · rw [if_pos c33] at H
                        have c33b0 : decide (t221 < 0) = true := decide_eq_true c33
                        clear c33
                        exact absurd (H.trans (congrArg some hr)) (by decide)
                      · rw [if_neg c33] at H
                        have c33b0 : decide (t221 < 0) = false := decide_eq_false c33
                        clear c33
                        have H' := Aside0.mk H
                        clear H
                        go_wp2_with (first | ((with_reducible refine gate_callee (f := 28) rfl ?_); refine goesL_ (some 61) rfl rfl Try.func28 (by kernel_rfl) rfl #[.slice A0 l0.length c0, .slice A1 l1.length c1] rfl (by (try simp only [List.map_toArray, List.map_cons, List.map_nil]); first | done | rfl | (simp only [List.length_drop, List.length_take]; rfl)) ?_; (with_reducible refine (terrlaw5_worth.calls kj9 _ _ l0 _ _ l1 t220 _ ?side1 ?side2 ?side3 ?side4 A29.out).mono ?_); (case side1 => repeat (first | exact (Kd.C_below HR0.out HB.out) | (with_reducible refine Kd.C_alloc ?_ _) | (with_reducible refine Kd.C_drewN ?_ _) | (with_reducible refine Kd.C_drew ?_))); (case side2 => exact HC0.out); (case side3 => repeat (first | exact (Kd.C_below HR1.out HB.out) | (with_reducible refine Kd.C_alloc ?_ _) | (with_reducible refine Kd.C_drewN ?_ _) | (with_reducible refine Kd.C_drew ?_))); (case side4 => exact HC1.out); rintro e w34 ⟨rfl, hb⟩; refine ⟨_, rfl, ?_⟩; have n0_ := Aside0.mk (Kd.R_below (by (with_reducible repeat (first | apply Kd.R_alloc | apply Kd.R_drewN | apply Kd.R_drew)); exact HO_6.out) hb); have n1_ := Aside0.mk (below_step (by repeat (first | (with_reducible first | exact HB.out | apply below_alloc | apply pw_below_drewN | apply below_drew1) | exact HB.out)) hb); clear HO_6; clear HB; have HO_6 := n0_; have HB := n1_; clear n0_ n1_; (try clear hb); (try clear hb2); (try clear hk); (try clear hi); obtain ⟨Ao35, co35, eo35⟩ := Kd.R_slice HO_6.out; subst eo35) | (go_at_call 29; (with_reducible refine (slices_Compare_int_int.calls kj9 _ _ l1 _ _ t211 t221 _ ?side1 ?side2 ?side3 ?side4 A32.out).mono ?_); (case side1 => repeat (first | exact (Kd.C_below HR1.out HB.out) | (with_reducible refine Kd.C_alloc ?_ _) | (with_reducible refine Kd.C_drewN ?_ _) | (with_reducible refine Kd.C_drew ?_))); (case side2 => exact HC1.out); (case side3 => repeat (first | exact (Kd.R_reads' HO_6.out).2.2 | (with_reducible refine Kd.C_alloc ?_ _) | (with_reducible refine Kd.C_drewN ?_ _) | (with_reducible refine Kd.C_drew ?_))); (case side4 => exact (Kd.R_reads' HO_6.out).2.1); rintro e w' ⟨rfl, ⟨nd, rfl⟩⟩))
                        go_meet
                        case rel => exact ⟨_, H', ⟨by have := HJ9.out; first | omega | exact Nat.le_refl _⟩, ⟨by (with_reducible repeat (first | apply Kd.R_alloc | apply Kd.R_drewN | apply Kd.R_drew)); exact HO_6.out⟩, ⟨by repeat (first | (with_reducible first | exact HB.out | apply below_alloc | apply pw_below_drewN | apply below_drew1) | exact HB.out)⟩⟩
                    · rw [if_neg c31] at H
                      have c31b0 : (t220 == t212) = false := beq_eq_false_iff_ne.mpr c31
                      have c31b1 : (t220 != t212) = true := bne_iff_ne.mpr c31
                      have H' := Aside0.mk H
                      clear H
                      go_wp2_with (first | ((with_reducible refine gate_callee (f := 28) rfl ?_); refine goesL_ (some 61) rfl rfl Try.func28 (by kernel_rfl) rfl #[.slice A0 l0.length c0, .slice A1 l1.length c1] rfl (by (try simp only [List.map_toArray, List.map_cons, List.map_nil]); first | done | rfl | (simp only [List.length_drop, List.length_take]; rfl)) ?_; (with_reducible refine (terrlaw5_worth.calls kj9 _ _ l0 _ _ l1 t220 _ ?side1 ?side2 ?side3 ?side4 A29.out).mono ?_); (case side1 => repeat (first | exact (Kd.C_below HR0.out HB.out) | (with_reducible refine Kd.C_alloc ?_ _) | (with_reducible refine Kd.C_drewN ?_ _) | (with_reducible refine Kd.C_drew ?_))); (case side2 => exact HC0.out); (case side3 => repeat (first | exact (Kd.C_below HR1.out HB.out) | (with_reducible refine Kd.C_alloc ?_ _) | (with_reducible refine Kd.C_drewN ?_ _) | (with_reducible refine Kd.C_drew ?_))); (case side4 => exact HC1.out); rintro e w36 ⟨rfl, hb⟩; refine ⟨_, rfl, ?_⟩; have n0_ := Aside0.mk (Kd.R_below (by (with_reducible repeat (first | apply Kd.R_alloc | apply Kd.R_drewN | apply Kd.R_drew)); exact HO_6.out) hb); have n1_ := Aside0.mk (below_step (by repeat (first | (with_reducible first | exact HB.out | apply below_alloc | apply pw_below_drewN | apply below_drew1) | exact HB.out)) hb); clear HO_6; clear HB; have HO_6 := n0_; have HB := n1_; clear n0_ n1_; (try clear hb); (try clear hb2); (try clear hk); (try clear hi)))
                      go_meet
                      case rel => exact ⟨_, H', ⟨by have := HJ9.out; first | omega | exact Nat.le_refl _⟩, ⟨by (with_reducible repeat (first | apply Kd.R_alloc | apply Kd.R_drewN | apply Kd.R_drew)); exact HO_6.out⟩, ⟨by repeat (first | (with_reducible first | exact HB.out | apply below_alloc | apply pw_below_drewN | apply below_drew1) | exact HB.out)⟩⟩
                · replace c28 := Bool.eq_false_iff.mpr c28
                  subst c28
                  have H1 : (terrlaw5_PlaceTells.j1 kj9 l0 t211) = some r := by rw [if_neg (show ¬ (false = true) by decide)] at H; exact H
                  clear H
                  have H := H1
                  clear H1
                  have H' := Aside0.mk H
                  clear H
                  go_wp2
                  go_meet
                  case rel => exact ⟨_, H', ⟨by have := HJ9.out; first | omega | exact Nat.le_refl _⟩, ⟨by (with_reducible repeat (first | apply Kd.R_alloc | apply Kd.R_drewN | apply Kd.R_drew)); exact HO_6.out⟩, ⟨by repeat (first | (with_reducible first | exact HB.out | apply below_alloc | apply pw_below_drewN | apply below_drew1) | exact HB.out)⟩⟩
              case rest =>
                clear HC26
                try clear c1
                try clear c2
                try clear p2
                try clear c3
                try clear c4
                try clear c5
                try clear c8
                try clear c8b0
                try clear c8b1
                try clear c9
                try clear c9b0
                try clear c9b1
                try clear c15
                try clear c15b0
                try clear c15b1
                try clear c17
                try clear c24
                try clear c25
                try clear c26
                try clear c27
                try clear c28
                try clear c30
                try clear c30b0
                try clear c31
                try clear c31b0
                try clear c31b1
                try clear c33
                try clear c33b0
                try clear p2
                obtain ⟨kq, HA, HJ25, HO_6, HB⟩ := hcut
                cases kq with
                | zero => exact absurd HA.out (by simp [terrlaw5_PlaceTells.j1])
                | succ kj25 =>
                  have H := HA.out
                  clear HA
                  simp only [terrlaw5_PlaceTells.j1] at H
                  have H' := Aside0.mk H
                  clear H
                  go_wp2
                  go_loopg [10, 78] kj25 (fun kq v10 v78 w' => ∃ (x10_3 : Int) (x78_3 : Int), v10 = .int .i64 x10_3 ∧ v78 = .int .i64 x78_3 ∧ Aside0 (terrlaw5_PlaceTells.l0 kq l0 t211 x10_3 l0 (l0.length : Int) x78_3 = some r) ∧ Aside0 (kq ≤ kj25) ∧ Aside0 (Kd.R (Kd.int .i64) 3 w' w.heap.size (fun _ => True) v214 t211) ∧ Aside0 (Below w.heap.size w w'))
                  case atStart => exact ⟨(1), (0), (by first | rfl | (simp; done) | (simp [*]; done)), (by first | rfl | (simp; done) | (simp [*]; done)), H', ⟨Nat.le_refl _⟩, ⟨by (with_reducible repeat (first | apply Kd.R_alloc | apply Kd.R_drewN | apply Kd.R_drew)); exact HO_6.out⟩, ⟨by repeat (first | (with_reducible first | exact HB.out | apply below_alloc | apply pw_below_drewN | apply below_drew1) | exact HB.out)⟩⟩
                  case round =>
                    clear H'
                    try clear c1
                    try clear c2
                    try clear p2
                    try clear c3
                    try clear c4
                    try clear c5
                    try clear c8
                    try clear c8b0
                    try clear c8b1
                    try clear c9
                    try clear c9b0
                    try clear c9b1
                    try clear c15
                    try clear c15b0
                    try clear c15b1
                    try clear c17
                    try clear c24
                    try clear c25
                    try clear c26
                    try clear c27
                    try clear c28
                    try clear c30
                    try clear c30b0
                    try clear c31
                    try clear c31b0
                    try clear c31b1
                    try clear c33
                    try clear c33b0
                    try clear p2
                    obtain ⟨x10_3, x78_3, rfl, rfl, HA, HK3, HO_6, HB⟩ := hrel
                    cases gk with
                    | zero => exact absurd HA.out (by simp [terrlaw5_PlaceTells.l0])
                    | succ k3 =>
                      have H := HA.out
                      clear HA
                      simp only [terrlaw5_PlaceTells.l0] at H
                      by_cases c37 : x78_3 < (l0.length : Int)
                      · rw [if_pos c37] at H
                        have c37b0 : decide (x78_3 < (l0.length : Int)) = true := decide_eq_true c37
                        clear c37
                        by_cases c38 : 0 ≤ x78_3
                        · rw [if_pos c38] at H
                          have c38b0 : decide (0 ≤ x78_3) = true := decide_eq_true c38
                          clear c38
                          by_cases c39 : x78_3 < (l0.length : Int)
                          · rw [if_pos c39] at H
                            have c39b0 : decide (x78_3 < (l0.length : Int)) = true := decide_eq_true c39
                            clear c39
                            have H' := Aside0.mk H
                            clear H
                            have p222 : 0 ≤ (x78_3 : Int) := of_decide_eq_true (by first | (with_reducible assumption) | assumption)
                            have q222 : x78_3 < (l0.length : Int) := of_decide_eq_true (by first | (with_reducible assumption) | assumption)
                            obtain ⟨ad222, A222_4, c222_4, A222_6, c222_6, e222, hx222_0, hx222_1, hx222_2, hx222_3, hx222_4, hx222_5, hx222_6, hx222_7, hl222_4, hi222_4, hl222_6, hi222_6⟩ := at_T36 HR0.out x78_3 p222 q222
                            cases e222
                            replace hx222_0 := (HB.out.cell (World.block_lt_of_cell? w _ hx222_0)).trans hx222_0
                            replace hx222_1 := (HB.out.cell (World.block_lt_of_cell? w _ hx222_1)).trans hx222_1
                            replace hx222_2 := (HB.out.cell (World.block_lt_of_cell? w _ hx222_2)).trans hx222_2
                            replace hx222_3 := (HB.out.cell (World.block_lt_of_cell? w _ hx222_3)).trans hx222_3
                            replace hx222_4 := (HB.out.cell (World.block_lt_of_cell? w _ hx222_4)).trans hx222_4
                            replace hx222_5 := (HB.out.cell (World.block_lt_of_cell? w _ hx222_5)).trans hx222_5
                            replace hx222_6 := (HB.out.cell (World.block_lt_of_cell? w _ hx222_6)).trans hx222_6
                            replace hx222_7 := (HB.out.cell (World.block_lt_of_cell? w _ hx222_7)).trans hx222_7
                            have HR222_4 := Aside0.mk hi222_4
                            have HC222_4 := Aside0.mk hl222_4
                            clear hi222_4 hl222_4
                            have HR222_6 := Aside0.mk hi222_6
                            have HC222_6 := Aside0.mk hl222_6
                            clear hi222_6 hl222_6
                            replace p222 := eq_true p222
                            replace q222 := eq_true q222
                            go_wp2_with (first | ((with_reducible refine gate_dst (N := 12) rfl ?_); (try (refine gate_guard (by rfl) ?_; dsimp only)); refine box_event ?hg (N := 12) ?hd (cs := #[.int .i64 0, .int .i64 0, .int .i64 0, .int .i64 0, .slice none 0 0, .string (⟨#[]⟩ : ByteArray), .slice none 0 0, .int .i64 0]) (t := 36) ?hr ?_; (case hd => rfl); (case hg => rfl); (case hr => first | (go_simp; done) | (go_simp; rfl)); intro gb223 hg w40 hbox hb; have n0_ := Aside0.mk (Kd.R_below (by (with_reducible repeat (first | apply Kd.R_alloc | apply Kd.R_drewN | apply Kd.R_drew)); exact HO_6.out) hb); have n1_ := Aside0.mk (below_step (by repeat (first | (with_reducible first | exact HB.out | apply below_alloc | apply pw_below_drewN | apply below_drew1) | exact HB.out)) hb); have n2_ := Aside0.mk (hbox); have n3_ := Aside0.mk ((by rw [hg]; exact (below_size (by repeat (first | (with_reducible first | exact HB.out | apply below_alloc | apply pw_below_drewN | apply below_drew1) | exact HB.out))) : w.heap.size ≤ gb223)); have n4_ := Aside0.mk ((by rw [hg]; exact (below_size (by repeat (first | (with_reducible first | exact HB.out | apply below_alloc | apply pw_below_drewN | apply below_drew1) | exact HB.out))) : w.heap.size ≤ gb223)); clear HO_6; clear HB; have HO_6 := n0_; have HB := n1_; have BK223 := n2_; have GW223 := n3_; have GE223 := n4_; clear n0_ n1_ n2_ n3_ n4_; clear hb hbox hg; have hcz41_0 : w40.cell? ⟨gb223, 0, none⟩ = some (.int .i64 0) := (blk_cell BK223.out 0).trans rfl; have hcz41_1 : w40.cell? ⟨gb223, 1, none⟩ = some (.int .i64 0) := (blk_cell BK223.out 1).trans rfl; have hcz41_2 : w40.cell? ⟨gb223, 2, none⟩ = some (.int .i64 0) := (blk_cell BK223.out 2).trans rfl; have hcz41_3 : w40.cell? ⟨gb223, 3, none⟩ = some (.int .i64 0) := (blk_cell BK223.out 3).trans rfl; have hcz41_4 : w40.cell? ⟨gb223, 4, none⟩ = some (.slice none 0 0) := (blk_cell BK223.out 4).trans rfl; have hcz41_5 : w40.cell? ⟨gb223, 5, none⟩ = some (.string (⟨#[]⟩ : ByteArray)) := (blk_cell BK223.out 5).trans rfl; have hcz41_6 : w40.cell? ⟨gb223, 6, none⟩ = some (.slice none 0 0) := (blk_cell BK223.out 6).trans rfl; have hcz41_7 : w40.cell? ⟨gb223, 7, none⟩ = some (.int .i64 0) := (blk_cell BK223.out 7).trans rfl; have hfz41_0 := blk_frozen BK223.out 0; have hfz41_1 := blk_frozen BK223.out 1; have hfz41_2 := blk_frozen BK223.out 2; have hfz41_3 := blk_frozen BK223.out 3; have hfz41_4 := blk_frozen BK223.out 4; have hfz41_5 := blk_frozen BK223.out 5; have hfz41_6 := blk_frozen BK223.out 6; have hfz41_7 := blk_frozen BK223.out 7))
                            go_roundg k3
                            case measure => have := HJ9.out; have := HJ25.out; have := HK3.out; omega
                            case rel => exact ⟨(wrap64 (x10_3 * (wrap64 ((((rd_T36 l0 x78_3).f1).length : Int) + 1)))), (wrap64 (x78_3 + 1)), (by first | rfl | (simp; done) | (simp [*]; done)), (by first | rfl | (simp; done) | (simp [*]; done)), H', ⟨by have := HJ9.out; have := HJ25.out; have := HK3.out; omega⟩, ⟨by (with_reducible repeat (first | apply Kd.R_alloc | apply Kd.R_drewN | apply Kd.R_drew)); exact Kd.R_mono (Kd.R_far (p := ⟨gb223, 7, none⟩) (Kd.R_far (p := ⟨gb223, 6, none⟩) (Kd.R_far (p := ⟨gb223, 5, none⟩) (Kd.R_far (p := ⟨gb223, 4, none⟩) (Kd.R_far (p := ⟨gb223, 3, none⟩) (Kd.R_far (p := ⟨gb223, 2, none⟩) (Kd.R_far (p := ⟨gb223, 1, none⟩) (Kd.R_far (p := ⟨gb223, 0, none⟩) (Kd.R_types HO_6.out BK223.out (by decide)) (fun _ hk => hk.2) (.int .i64 ((rd_T36 l0 x78_3).f0.f0))) (fun _ hk => hk.2) (.int .i64 ((rd_T36 l0 x78_3).f0.f1))) (fun _ hk => hk.2) (.int .i64 ((rd_T36 l0 x78_3).f0.f2))) (fun _ hk => hk.2) (.int .i64 ((rd_T36 l0 x78_3).f0.f3))) (fun _ hk => hk.2) (.slice A222_4 ((rd_T36 l0 x78_3).f0.f4).length c222_4)) (fun _ hk => hk.2) (.string ((rd_T36 l0 x78_3).f0.f5))) (fun _ hk => hk.2) (.slice A222_6 ((rd_T36 l0 x78_3).f1).length c222_6)) (fun _ hk => hk.2) (.int .i64 ((rd_T36 l0 x78_3).f2))) (fun _ hk => trivial)⟩, ⟨by repeat (first | (with_reducible first | exact HB.out | apply below_alloc | apply pw_below_drewN | apply below_drew1 | refine below_set ?_ GE223.out) | exact HB.out)⟩⟩
                          · rw [if_neg c39] at H
                            exact absurd H (by simp)
                        · rw [if_neg c38] at H
                          exact absurd H (by simp)
                      · rw [if_neg c37] at H
                        have c37b0 : decide (x78_3 < (l0.length : Int)) = false := decide_eq_false c37
                        clear c37
                        by_cases c42 : x10_3 > 60000
                        · rw [if_pos c42] at H
                          have c42b0 : decide (60000 < x10_3) = true := decide_eq_true c42
                          clear c42
                          clear hr
                          obtain rfl := Option.some.inj H
                          go_wp2
                          go_ret
                          exact ⟨by first | rfl | (simp [errW_none, errW_some] <;> rfl) | (simp [*, errW_none, errW_some] <;> rfl), by repeat (first | (with_reducible first | exact HB.out | apply below_alloc | apply pw_below_drewN | apply below_drew1) | exact HB.out)⟩
                        · rw [if_neg c42] at H
                          have c42b0 : decide (60000 < x10_3) = false := decide_eq_false c42
                          clear c42
                          replace H := Option.bind_eq_some_iff.mp H
                          obtain ⟨t224, A430, H⟩ := H
                          replace H : ((slices_Equal_int_int.f k3 t211 t224).bind fun t227 => (some t227)) = some r := H
                          have A43 := Aside0.mk A430
                          clear A430
                          replace H := Option.bind_eq_some_iff.mp H
                          obtain ⟨t227, A440, H⟩ := H
                          replace H : (some t227) = some r := H
                          have A44 := Aside0.mk A440
                          clear A440
                          clear hr
                          obtain rfl := Option.some.inj H
                          go_wp2_with (first | (go_at_call 30; (with_reducible refine (terrlaw5_bestOf.calls k3 _ _ l0 t224 _ ?side1 ?side2 A43.out).mono ?_); (case side1 => repeat (first | exact (Kd.C_below HR0.out HB.out) | (with_reducible refine Kd.C_alloc ?_ _) | (with_reducible refine Kd.C_drewN ?_ _) | (with_reducible refine Kd.C_drew ?_))); (case side2 => exact HC0.out); rintro e w45 ⟨v225, rfl, ho0, hb⟩; have n0_ := Aside0.mk (Kd.R_elder' (by (with_reducible repeat (first | apply Kd.R_alloc | apply Kd.R_drewN | apply Kd.R_drew)); exact HO_6.out) (Kd.R_base ho0) hb); have n1_ := Aside0.mk (Kd.R_lower (Kd.R_new' ho0 (Kd.R_lt (by (with_reducible repeat (first | apply Kd.R_alloc | apply Kd.R_drewN | apply Kd.R_drew)); exact HO_6.out))) (below_size (by repeat (first | (with_reducible first | exact HB.out | apply below_alloc | apply pw_below_drewN | apply below_drew1) | exact HB.out)))); have n2_ := Aside0.mk (below_step (by repeat (first | (with_reducible first | exact HB.out | apply below_alloc | apply pw_below_drewN | apply below_drew1) | exact HB.out)) hb); clear HO_6; clear HB; have HO_6 := n0_; have HO226 := n1_; have HB := n2_; clear n0_ n1_ n2_; (try clear hb); (try clear hb2); (try clear hk); (try clear hi); (try clear ho0); obtain ⟨Ao46, co46, eo46⟩ := Kd.R_slice HO_6.out; subst eo46; obtain ⟨Ao47, co47, eo47⟩ := Kd.R_slice HO226.out; subst eo47) | (go_at_call 22; (with_reducible refine (slices_Equal_int_int.calls k3 _ _ t211 _ _ t224 t227 _ ?side1 ?side2 ?side3 ?side4 A44.out).mono ?_); (case side1 => repeat (first | exact (Kd.R_reads' HO_6.out).2.2 | (with_reducible refine Kd.C_alloc ?_ _) | (with_reducible refine Kd.C_drewN ?_ _) | (with_reducible refine Kd.C_drew ?_))); (case side2 => exact (Kd.R_reads' HO_6.out).2.1); (case side3 => repeat (first | exact (Kd.R_reads' HO226.out).2.2 | (with_reducible refine Kd.C_alloc ?_ _) | (with_reducible refine Kd.C_drewN ?_ _) | (with_reducible refine Kd.C_drew ?_))); (case side4 => exact (Kd.R_reads' HO226.out).2.1); rintro e w' ⟨rfl, ⟨nd, rfl⟩⟩))
                          go_ret
                          exact ⟨by first | rfl | (simp [errW_none, errW_some] <;> rfl) | (simp [*, errW_none, errW_some] <;> rfl), by repeat (first | (with_reducible first | exact HB.out | apply below_alloc | apply pw_below_drewN | apply below_drew1) | exact HB.out)⟩
      · rw [if_neg c9] at H
        have c9b0 : (t210 == 0) = false := beq_eq_false_iff_ne.mpr c9
        have c9b1 : (t210 != 0) = true := bne_iff_ne.mpr c9
        by_cases c48 : t213 = t210
        · rw [if_pos c48] at H
          have c48b0 : (t213 == t210) = true := beq_iff_eq.mpr c48
          have c48b1 : (t213 != t210) = false := bne_eq_false_iff_eq.mpr c48
          clear c48
          by_cases c49 : t212 = 0
          · rw [if_pos c49] at H
            have c49b0 : (t212 == 0) = true := beq_iff_eq.mpr c49
            have c49b1 : (t212 != 0) = false := bne_eq_false_iff_eq.mpr c49
            clear c49
            clear hr
            obtain rfl := Option.some.inj H
            go_enter Try.func5, Try.ntmps5
            go_wp2_with (first | ((with_reducible refine gate_callee (f := 24) rfl ?_); refine goesL_ (some 13) rfl rfl Try.func24 (by kernel_rfl) rfl #[] rfl (by (try simp only [List.map_toArray, List.map_cons, List.map_nil]); first | done | rfl | (simp only [List.length_drop, List.length_take]; rfl)) ?_; (with_reducible refine (terrlaw5_alone.calls k  true _ A3.out).mono ?_); rintro e w50 ⟨rfl, hb⟩; refine ⟨_, rfl, ?_⟩; have n0_ := Aside0.mk (below_step (by repeat (first | (with_reducible first | exact HB.out | apply below_alloc | apply pw_below_drewN | apply below_drew1) | exact HB.out)) hb); clear HB; have HB := n0_; clear n0_; (try clear hb); (try clear hb2); (try clear hk); (try clear hi)) | ((with_reducible refine gate_callee (f := 25) rfl ?_); refine goesL_ (some 16) rfl rfl Try.func25 (by kernel_rfl) rfl #[.slice A0 l0.length c0] rfl (by (try simp only [List.map_toArray, List.map_cons, List.map_nil]); first | done | rfl | (simp only [List.length_drop, List.length_take]; rfl)) ?_; (with_reducible refine (terrlaw5_wantsFault.calls k _ _ l0 t210 _ ?side1 ?side2 A5.out).mono ?_); (case side1 => repeat (first | exact (Kd.C_below HR0.out HB.out) | (with_reducible refine Kd.C_alloc ?_ _) | (with_reducible refine Kd.C_drewN ?_ _) | (with_reducible refine Kd.C_drew ?_))); (case side2 => exact HC0.out); rintro e w51 ⟨rfl, hb⟩; refine ⟨_, rfl, ?_⟩; have n0_ := Aside0.mk (below_step (by repeat (first | (with_reducible first | exact HB.out | apply below_alloc | apply pw_below_drewN | apply below_drew1) | exact HB.out)) hb); clear HB; have HB := n0_; clear n0_; (try clear hb); (try clear hb2); (try clear hk); (try clear hi)) | ((with_reducible refine gate_callee (f := 17) rfl ?_); refine goesL_ (some 19) rfl rfl Try.func17 (by kernel_rfl) rfl #[.slice A0 l0.length c0] rfl (by (try simp only [List.map_toArray, List.map_cons, List.map_nil]); first | done | rfl | (simp only [List.length_drop, List.length_take]; rfl)) ?_; (with_reducible refine (place_Best.calls k _ _ l0 t211 t212 t213 _ ?side1 ?side2 A6.out).mono ?_); (case side1 => repeat (first | exact (Kd.C_below HR0.out HB.out) | (with_reducible refine Kd.C_alloc ?_ _) | (with_reducible refine Kd.C_drewN ?_ _) | (with_reducible refine Kd.C_drew ?_))); (case side2 => exact HC0.out); rintro e w52 ⟨v214, rfl, ho0, hb⟩; refine ⟨_, rfl, ?_⟩; have n0_ := Aside0.mk (Kd.R_lower ho0 (below_size (by repeat (first | (with_reducible first | exact HB.out | apply below_alloc | apply pw_below_drewN | apply below_drew1) | exact HB.out)))); have n1_ := Aside0.mk (below_step (by repeat (first | (with_reducible first | exact HB.out | apply below_alloc | apply pw_below_drewN | apply below_drew1) | exact HB.out)) hb); clear HB; have HO215 := n0_; have HB := n1_; clear n0_ n1_; (try clear hb); (try clear hb2); (try clear hk); (try clear hi); (try clear ho0)) | ((with_reducible refine gate_callee (f := 26) rfl ?_); refine goesL_ (some 24) rfl rfl Try.func26 (by kernel_rfl) rfl #[.slice A0 l0.length c0] rfl (by (try simp only [List.map_toArray, List.map_cons, List.map_nil]); first | done | rfl | (simp only [List.length_drop, List.length_take]; rfl)) ?_; (with_reducible refine (place_Check.calls k _ _ l0 t216 _ ?side1 ?side2 A7.out).mono ?_); (case side1 => repeat (first | exact (Kd.C_below HR0.out HB.out) | (with_reducible refine Kd.C_alloc ?_ _) | (with_reducible refine Kd.C_drewN ?_ _) | (with_reducible refine Kd.C_drew ?_))); (case side2 => exact HC0.out); rintro e w53 ⟨rfl, hb⟩; refine ⟨_, rfl, ?_⟩; have n0_ := Aside0.mk (Kd.R_below (by (with_reducible repeat (first | apply Kd.R_alloc | apply Kd.R_drewN | apply Kd.R_drew)); exact HO215.out) hb); have n1_ := Aside0.mk (below_step (by repeat (first | (with_reducible first | exact HB.out | apply below_alloc | apply pw_below_drewN | apply below_drew1) | exact HB.out)) hb); clear HO215; clear HB; have HO215 := n0_; have HB := n1_; clear n0_ n1_; (try clear hb); (try clear hb2); (try clear hk); (try clear hi); obtain ⟨Ao54, co54, eo54⟩ := Kd.R_slice HO215.out; subst eo54))
            go_ret
            exact ⟨by first | rfl | (simp [errW_none, errW_some] <;> rfl) | (simp [*, errW_none, errW_some] <;> rfl), by repeat (first | (with_reducible first | exact HB.out | apply below_alloc | apply pw_below_drewN | apply below_drew1) | exact HB.out)⟩
          · rw [if_neg c49] at H
            have c49b0 : (t212 == 0) = false := beq_eq_false_iff_ne.mpr c49
            have c49b1 : (t212 != 0) = true := bne_iff_ne.mpr c49
            exact absurd (H.trans (congrArg some hr)) (by decide)
        · rw [if_neg c48] at H
          have c48b0 : (t213 == t210) = false := beq_eq_false_iff_ne.mpr c48
          have c48b1 : (t213 != t210) = true := bne_iff_ne.mpr c48
          exact absurd (H.trans (congrArg some hr)) (by decide)
    · rw [if_neg c8] at H
      have c8b0 : (t216 == t210) = false := beq_eq_false_iff_ne.mpr c8
      have c8b1 : (t216 != t210) = true := bne_iff_ne.mpr c8
      exact absurd (H.trans (congrArg some hr)) (by decide)
  · replace c4 := Bool.eq_false_iff.mpr c4
    subst c4
    have H1 : (some false) = some r := by rw [if_neg (show ¬ (false = true) by decide)] at H; exact H
    clear H
    have H := H1
    clear H1
    exact absurd (H.trans (congrArg some hr)) (by decide)
end Go.Proofs.Ytdmhnjpblpfbfaa.Q
