/- What the Go function terrkeep5_PlaceMost comes to, and its contract. Condition: its printed twin gives an answer, which is true. -/
import Derived.Test.YtdmhnjpblpfbfaaQf17
import Derived.Test.YtdmhnjpblpfbfaaQf15
import Derived.Test.YtdmhnjpblpfbfaaQf16
import Derived.Test.YtdmhnjpblpfbfaaQf31
import Derived.Test.YtdmhnjpblpfbfaaQf32
namespace Go.Proofs.Ytdmhnjpblpfbfaa.Q
open Go.RowKit Go.Proofs.YtdmhnjpblpfbfaaW.PrintWords Go.Proofs.YtdmhnjpblpfbfaaW.PrintLast Go.Proofs.YtdmhnjpblpfbfaaW.PrintMore
attribute [local go_sem] max2_int min2_int max_two min_two max_three min_three max_four min_four
set_option linter.unusedVariables false
set_option linter.unusedSimpArgs false
/-! ### terrkeep5_PlaceMost: function 7 -/
mutual
def terrkeep5_PlaceMost.j0 : Nat → List (S36) → List Int → Int → Bool → Option (Bool)
  | 0, _, _, _, _ => none
  | k + 1, x3, x4, x5, x58 => if x58 = true then (some false) else (terrkeep5_PlaceMost.l0 k x3 x5 0 x4 (x4.length : Int) 0)
def terrkeep5_PlaceMost.l0 : Nat → List (S36) → Int → Int → List Int → Int → Int → Option (Bool)
  | 0, _, _, _, _, _, _ => none
  | k + 1, x3, x5, x10, x59, x60, x61 => if x61 < x60 then (if 0 ≤ x61 then (if x61 < (x59.length : Int) then (if (rd x59 x61) ≥ 0 then (if x61 < (x3.length : Int) then (terrkeep5_PlaceMost.l0 k x3 x5 (wrap64 (x10 + ((rd_T36 x3 x61).f2))) x59 x60 (wrap64 (x61 + 1))) else (none)) else (terrkeep5_PlaceMost.l0 k x3 x5 x10 x59 x60 (wrap64 (x61 + 1)))) else (none)) else (none)) else (some (x10 == x5))
end
def terrkeep5_PlaceMost.f (k : Nat) (l0 : List Int) : Option (Bool) := (terrkeep5_placed.f k).bind fun t175 => (if t175 = true then ((terrkeep5_wants.f l0).bind fun t176 => ((place_Best.f k t176).bind fun bt179 => ((place_Greedy.f k t176).bind fun bt184 => (if bt179.2.2 = 0 then (if bt184.2.2 = 0 then (if (bt179.1.length : Int) = (t176.length : Int) then ((place_Clear.f k t176 bt179.1).bind fun t189 => (if t189 = true then ((place_Clear.f k t176 bt184.1).bind fun t190 => (if t190 = true then (terrkeep5_PlaceMost.j0 k t176 bt179.1 bt179.2.1 (decide (bt179.2.1 < bt184.2.1))) else (terrkeep5_PlaceMost.j0 k t176 bt179.1 bt179.2.1 true))) else (terrkeep5_PlaceMost.j0 k t176 bt179.1 bt179.2.1 true))) else (terrkeep5_PlaceMost.j0 k t176 bt179.1 bt179.2.1 true)) else (terrkeep5_PlaceMost.j0 k t176 bt179.1 bt179.2.1 true)) else (terrkeep5_PlaceMost.j0 k t176 bt179.1 bt179.2.1 true))))) else (some false))
set_option maxHeartbeats 8000000 in
set_option maxRecDepth 100000 in
theorem terrkeep5_PlaceMost.calls (k : Nat) (A0 : Option Addr) (c0 : Nat) (l0 : List Int) (r : Bool) (w : World) (hr0 : Kd.C (Kd.int .i64) w A0 l0.length l0) (hc0 : l0.length ≤ c0) (h : terrkeep5_PlaceMost.f k l0 = some r) (hr : r = true) :
    Calls Try.prog 7 #[.slice A0 l0.length c0] w fun e w' => e = .returned (.bool r) ∧ Below w.heap.size w w' := by
  have HR0 := Aside0.mk hr0
  have HC0 := Aside0.mk hc0
  clear hr0 hc0
  have HB := Aside0.mk (Below.refl w.heap.size w)
  have H : ((terrkeep5_placed.f k).bind fun t175 => (if t175 = true then ((terrkeep5_wants.f l0).bind fun t176 => ((place_Best.f k t176).bind fun bt179 => ((place_Greedy.f k t176).bind fun bt184 => (if bt179.2.2 = 0 then (if bt184.2.2 = 0 then (if (bt179.1.length : Int) = (t176.length : Int) then ((place_Clear.f k t176 bt179.1).bind fun t189 => (if t189 = true then ((place_Clear.f k t176 bt184.1).bind fun t190 => (if t190 = true then (terrkeep5_PlaceMost.j0 k t176 bt179.1 bt179.2.1 (decide (bt179.2.1 < bt184.2.1))) else (terrkeep5_PlaceMost.j0 k t176 bt179.1 bt179.2.1 true))) else (terrkeep5_PlaceMost.j0 k t176 bt179.1 bt179.2.1 true))) else (terrkeep5_PlaceMost.j0 k t176 bt179.1 bt179.2.1 true)) else (terrkeep5_PlaceMost.j0 k t176 bt179.1 bt179.2.1 true)) else (terrkeep5_PlaceMost.j0 k t176 bt179.1 bt179.2.1 true))))) else (some false))) = some r := h
  clear h
  replace H := Option.bind_eq_some_iff.mp H
  obtain ⟨t175, A20, H⟩ := H
  replace H : (if t175 = true then ((terrkeep5_wants.f l0).bind fun t176 => ((place_Best.f k t176).bind fun bt179 => ((place_Greedy.f k t176).bind fun bt184 => (if bt179.2.2 = 0 then (if bt184.2.2 = 0 then (if (bt179.1.length : Int) = (t176.length : Int) then ((place_Clear.f k t176 bt179.1).bind fun t189 => (if t189 = true then ((place_Clear.f k t176 bt184.1).bind fun t190 => (if t190 = true then (terrkeep5_PlaceMost.j0 k t176 bt179.1 bt179.2.1 (decide (bt179.2.1 < bt184.2.1))) else (terrkeep5_PlaceMost.j0 k t176 bt179.1 bt179.2.1 true))) else (terrkeep5_PlaceMost.j0 k t176 bt179.1 bt179.2.1 true))) else (terrkeep5_PlaceMost.j0 k t176 bt179.1 bt179.2.1 true)) else (terrkeep5_PlaceMost.j0 k t176 bt179.1 bt179.2.1 true)) else (terrkeep5_PlaceMost.j0 k t176 bt179.1 bt179.2.1 true))))) else (some false)) = some r := H
  have A2 := Aside0.mk A20
  clear A20
  by_cases c3 : t175 = true
  rotate_left
  · replace c3 := Bool.eq_false_iff.mpr c3
    subst c3
    have H1 : (some false) = some r := by rw [if_neg (show ¬ (false = true) by decide)] at H; exact H
    clear H
    have H := H1
    clear H1
    exact absurd (H.trans (congrArg some hr)) (by decide)
  subst c3
  have H1 : ((terrkeep5_wants.f l0).bind fun t176 => ((place_Best.f k t176).bind fun bt179 => ((place_Greedy.f k t176).bind fun bt184 => (if bt179.2.2 = 0 then (if bt184.2.2 = 0 then (if (bt179.1.length : Int) = (t176.length : Int) then ((place_Clear.f k t176 bt179.1).bind fun t189 => (if t189 = true then ((place_Clear.f k t176 bt184.1).bind fun t190 => (if t190 = true then (terrkeep5_PlaceMost.j0 k t176 bt179.1 bt179.2.1 (decide (bt179.2.1 < bt184.2.1))) else (terrkeep5_PlaceMost.j0 k t176 bt179.1 bt179.2.1 true))) else (terrkeep5_PlaceMost.j0 k t176 bt179.1 bt179.2.1 true))) else (terrkeep5_PlaceMost.j0 k t176 bt179.1 bt179.2.1 true)) else (terrkeep5_PlaceMost.j0 k t176 bt179.1 bt179.2.1 true)) else (terrkeep5_PlaceMost.j0 k t176 bt179.1 bt179.2.1 true))))) = some r := by rw [if_pos rfl] at H; exact H
  clear H
  have H := H1
  clear H1
  replace H := Option.bind_eq_some_iff.mp H
  obtain ⟨t176, A40, H⟩ := H
  replace H : ((place_Best.f k t176).bind fun bt179 => ((place_Greedy.f k t176).bind fun bt184 => (if bt179.2.2 = 0 then (if bt184.2.2 = 0 then (if (bt179.1.length : Int) = (t176.length : Int) then ((place_Clear.f k t176 bt179.1).bind fun t189 => (if t189 = true then ((place_Clear.f k t176 bt184.1).bind fun t190 => (if t190 = true then (terrkeep5_PlaceMost.j0 k t176 bt179.1 bt179.2.1 (decide (bt179.2.1 < bt184.2.1))) else (terrkeep5_PlaceMost.j0 k t176 bt179.1 bt179.2.1 true))) else (terrkeep5_PlaceMost.j0 k t176 bt179.1 bt179.2.1 true))) else (terrkeep5_PlaceMost.j0 k t176 bt179.1 bt179.2.1 true)) else (terrkeep5_PlaceMost.j0 k t176 bt179.1 bt179.2.1 true)) else (terrkeep5_PlaceMost.j0 k t176 bt179.1 bt179.2.1 true)))) = some r := H
  have A4 := Aside0.mk A40
  clear A40
  replace H := Option.bind_eq_some_iff.mp H
  obtain ⟨⟨t179, t180, t181⟩, A50, H⟩ := H
  replace H : ((place_Greedy.f k t176).bind fun bt184 => (if t181 = 0 then (if bt184.2.2 = 0 then (if (t179.length : Int) = (t176.length : Int) then ((place_Clear.f k t176 t179).bind fun t189 => (if t189 = true then ((place_Clear.f k t176 bt184.1).bind fun t190 => (if t190 = true then (terrkeep5_PlaceMost.j0 k t176 t179 t180 (decide (t180 < bt184.2.1))) else (terrkeep5_PlaceMost.j0 k t176 t179 t180 true))) else (terrkeep5_PlaceMost.j0 k t176 t179 t180 true))) else (terrkeep5_PlaceMost.j0 k t176 t179 t180 true)) else (terrkeep5_PlaceMost.j0 k t176 t179 t180 true)) else (terrkeep5_PlaceMost.j0 k t176 t179 t180 true))) = some r := H
  have A5 := Aside0.mk A50
  clear A50
  replace H := Option.bind_eq_some_iff.mp H
  obtain ⟨⟨t184, t185, t186⟩, A60, H⟩ := H
  replace H : (if t181 = 0 then (if t186 = 0 then (if (t179.length : Int) = (t176.length : Int) then ((place_Clear.f k t176 t179).bind fun t189 => (if t189 = true then ((place_Clear.f k t176 t184).bind fun t190 => (if t190 = true then (terrkeep5_PlaceMost.j0 k t176 t179 t180 (decide (t180 < t185))) else (terrkeep5_PlaceMost.j0 k t176 t179 t180 true))) else (terrkeep5_PlaceMost.j0 k t176 t179 t180 true))) else (terrkeep5_PlaceMost.j0 k t176 t179 t180 true)) else (terrkeep5_PlaceMost.j0 k t176 t179 t180 true)) else (terrkeep5_PlaceMost.j0 k t176 t179 t180 true)) = some r := H
  have A6 := Aside0.mk A60
  clear A60
  have HC7 := Aside0.mk H
  clear H
  go_enter Try.func7, Try.ntmps7
  go_upto_region 6 with (first | ((with_reducible refine gate_callee (f := 15) rfl ?_); refine goesL_ (some 13) rfl rfl Try.func15 (by kernel_rfl) rfl #[] rfl (by (try simp only [List.map_toArray, List.map_cons, List.map_nil]); first | done | rfl | (simp only [List.length_drop, List.length_take]; rfl)) ?_; (with_reducible refine (terrkeep5_placed.calls k  true _ A2.out).mono ?_); rintro e w8 ⟨rfl, hb⟩; refine ⟨_, rfl, ?_⟩; replace HB := Aside0.mk (below_step (by repeat (first | (with_reducible first | exact HB.out | apply below_alloc | apply pw_below_drewN | apply below_drew1) | exact HB.out)) hb); (try clear hb); (try clear hb2); (try clear hk); (try clear hi)) | ((with_reducible refine gate_callee (f := 16) rfl ?_); refine goesL_ (some 16) rfl rfl Try.func16 (by kernel_rfl) rfl #[.slice A0 l0.length c0] rfl (by (try simp only [List.map_toArray, List.map_cons, List.map_nil]); first | done | rfl | (simp only [List.length_drop, List.length_take]; rfl)) ?_; (with_reducible refine (terrkeep5_wants.calls _ _ l0 t176 _ ?side1 ?side2 A4.out).mono ?_); (case side1 => repeat (first | exact (Kd.C_below HR0.out HB.out) | (with_reducible refine Kd.C_alloc ?_ _) | (with_reducible refine Kd.C_drewN ?_ _) | (with_reducible refine Kd.C_drew ?_))); (case side2 => exact HC0.out); rintro e w9 ⟨v177, rfl, ho0, hb⟩; refine ⟨_, rfl, ?_⟩; have HO178 := Aside0.mk (Kd.R_lower ho0 (below_size (by repeat (first | (with_reducible first | exact HB.out | apply below_alloc | apply pw_below_drewN | apply below_drew1) | exact HB.out)))); replace HB := Aside0.mk (below_step (by repeat (first | (with_reducible first | exact HB.out | apply below_alloc | apply pw_below_drewN | apply below_drew1) | exact HB.out)) hb); (try clear hb); (try clear hb2); (try clear hk); (try clear hi); (try clear ho0); obtain ⟨Ao10, co10, eo10⟩ := Kd.R_slice HO178.out; subst eo10) | ((with_reducible refine gate_callee (f := 17) rfl ?_); refine goesL_ (some 19) rfl rfl Try.func17 (by kernel_rfl) rfl #[.slice Ao10 t176.length co10] rfl (by (try simp only [List.map_toArray, List.map_cons, List.map_nil]); first | done | rfl | (simp only [List.length_drop, List.length_take]; rfl)) ?_; (with_reducible refine (place_Best.calls k _ _ t176 t179 t180 t181 _ ?side1 ?side2 A5.out).mono ?_); (case side1 => repeat (first | exact (Kd.R_reads' HO178.out).2.2 | (with_reducible refine Kd.C_alloc ?_ _) | (with_reducible refine Kd.C_drewN ?_ _) | (with_reducible refine Kd.C_drew ?_))); (case side2 => exact (Kd.R_reads' HO178.out).2.1); rintro e w11 ⟨v182, rfl, ho0, hb⟩; refine ⟨_, rfl, ?_⟩; have HO183 := Aside0.mk (Kd.R_lower ho0 (below_size (by repeat (first | (with_reducible first | exact HB.out | apply below_alloc | apply pw_below_drewN | apply below_drew1) | exact HB.out)))); replace HO178 := Aside0.mk (Kd.R_below (by (with_reducible repeat (first | apply Kd.R_alloc | apply Kd.R_drewN | apply Kd.R_drew)); exact HO178.out) hb); replace HB := Aside0.mk (below_step (by repeat (first | (with_reducible first | exact HB.out | apply below_alloc | apply pw_below_drewN | apply below_drew1) | exact HB.out)) hb); (try clear hb); (try clear hb2); (try clear hk); (try clear hi); (try clear ho0)) | ((with_reducible refine gate_callee (f := 32) rfl ?_); refine goesL_ (some 25) rfl rfl Try.func32 (by kernel_rfl) rfl #[.slice Ao10 t176.length co10] rfl (by (try simp only [List.map_toArray, List.map_cons, List.map_nil]); first | done | rfl | (simp only [List.length_drop, List.length_take]; rfl)) ?_; (with_reducible refine (place_Greedy.calls k _ _ t176 t184 t185 t186 _ ?side1 ?side2 A6.out).mono ?_); (case side1 => repeat (first | exact (Kd.R_reads' HO178.out).2.2 | (with_reducible refine Kd.C_alloc ?_ _) | (with_reducible refine Kd.C_drewN ?_ _) | (with_reducible refine Kd.C_drew ?_))); (case side2 => exact (Kd.R_reads' HO178.out).2.1); rintro e w12 ⟨v187, rfl, ho0, hb⟩; refine ⟨_, rfl, ?_⟩; have HO188 := Aside0.mk (Kd.R_lower (Kd.R_new' ho0 (Kd.R_lt (by (with_reducible repeat (first | apply Kd.R_alloc | apply Kd.R_drewN | apply Kd.R_drew)); exact HO183.out))) (below_size (by repeat (first | (with_reducible first | exact HB.out | apply below_alloc | apply pw_below_drewN | apply below_drew1) | exact HB.out)))); replace HO178 := Aside0.mk (Kd.R_below (by (with_reducible repeat (first | apply Kd.R_alloc | apply Kd.R_drewN | apply Kd.R_drew)); exact HO178.out) hb); replace HO183 := Aside0.mk (Kd.R_elder' (by (with_reducible repeat (first | apply Kd.R_alloc | apply Kd.R_drewN | apply Kd.R_drew)); exact HO183.out) (Kd.R_base ho0) hb); replace HB := Aside0.mk (below_step (by repeat (first | (with_reducible first | exact HB.out | apply below_alloc | apply pw_below_drewN | apply below_drew1) | exact HB.out)) hb); (try clear hb); (try clear hb2); (try clear hk); (try clear hi); (try clear ho0)))
  (try simp only [Act.put, List.setIfInBounds_toArray, List.set_cons_zero, List.set_cons_succ])
  go_cut [58] (fun v58 wc => ∃ (kq : Nat) (x58_6 : Bool), v58 = .bool x58_6 ∧ Aside0 (terrkeep5_PlaceMost.j0 kq t176 t179 t180 x58_6 = some r) ∧ Aside0 (kq ≤ k) ∧ Aside0 (Kd.R k36 36 wc w.heap.size (fun _ => True) (.slice Ao10 t176.length co10) t176) ∧ Aside0 (Kd.R (Kd.int .i64) 3 wc w.heap.size (fun _ => True) v182 t179) ∧ Aside0 (Below w.heap.size w wc))
  case first =>
    have H := HC7.out
    clear HC7
    by_cases c13 : t181 = 0
    rotate_left
    · rw [if_neg c13] at H
      have c13b0 : (t181 == 0) = false := beq_eq_false_iff_ne.mpr c13
      have c13b1 : (t181 != 0) = true := bne_iff_ne.mpr c13
      (first | rw [c13b0] | (simp only [i64_w, i32_w]; rw [c13b0]) | skip)
      have H' := Aside0.mk H
      clear H
      go_wp2
      go_meet
      case rel => exact ⟨_, (true), (by first | rfl | (simp; done) | (simp [*]; done)), H', ⟨by first | omega | exact Nat.le_refl _⟩, ⟨by (with_reducible repeat (first | apply Kd.R_alloc | apply Kd.R_drewN | apply Kd.R_drew)); exact HO178.out⟩, ⟨by (with_reducible repeat (first | apply Kd.R_alloc | apply Kd.R_drewN | apply Kd.R_drew)); exact Kd.R_mono HO183.out (fun _ hk => trivial)⟩, ⟨by repeat (first | (with_reducible first | exact HB.out | apply below_alloc | apply pw_below_drewN | apply below_drew1) | exact HB.out)⟩⟩
    rw [if_pos c13] at H
    have c13b0 : (t181 == 0) = true := beq_iff_eq.mpr c13
    have c13b1 : (t181 != 0) = false := bne_eq_false_iff_eq.mpr c13
    clear c13
    (first | rw [c13b0] | (simp only [i64_w, i32_w]; rw [c13b0]) | skip)
    by_cases c14 : t186 = 0
    rotate_left
    · rw [if_neg c14] at H
      have c14b0 : (t186 == 0) = false := beq_eq_false_iff_ne.mpr c14
      have c14b1 : (t186 != 0) = true := bne_iff_ne.mpr c14
      have H' := Aside0.mk H
      clear H
      go_wp2
      go_meet
      case rel => exact ⟨_, (true), (by first | rfl | (simp; done) | (simp [*]; done)), H', ⟨by first | omega | exact Nat.le_refl _⟩, ⟨by (with_reducible repeat (first | apply Kd.R_alloc | apply Kd.R_drewN | apply Kd.R_drew)); exact HO178.out⟩, ⟨by (with_reducible repeat (first | apply Kd.R_alloc | apply Kd.R_drewN | apply Kd.R_drew)); exact Kd.R_mono HO183.out (fun _ hk => trivial)⟩, ⟨by repeat (first | (with_reducible first | exact HB.out | apply below_alloc | apply pw_below_drewN | apply below_drew1) | exact HB.out)⟩⟩
    rw [if_pos c14] at H
    have c14b0 : (t186 == 0) = true := beq_iff_eq.mpr c14
    have c14b1 : (t186 != 0) = false := bne_eq_false_iff_eq.mpr c14
    clear c14
    by_cases c15 : (t179.length : Int) = (t176.length : Int)
    rotate_left
    · rw [if_neg c15] at H
      have c15b0 : ((t179.length : Int) == (t176.length : Int)) = false := beq_eq_false_iff_ne.mpr c15
      have c15b1 : ((t179.length : Int) != (t176.length : Int)) = true := bne_iff_ne.mpr c15
      have c15b2 : (t179.length == t176.length) = false := by first | simpa using c15 | (simp at c15 ⊢; omega)
      have H' := Aside0.mk H
      clear H
      obtain ⟨Ao30, co30, eo30⟩ := Kd.R_slice HO183.out
      subst eo30
      go_wp2
      go_meet
      case rel => exact ⟨_, (true), (by first | rfl | (simp; done) | (simp [*]; done)), H', ⟨by first | omega | exact Nat.le_refl _⟩, ⟨by (with_reducible repeat (first | apply Kd.R_alloc | apply Kd.R_drewN | apply Kd.R_drew)); exact HO178.out⟩, ⟨by (with_reducible repeat (first | apply Kd.R_alloc | apply Kd.R_drewN | apply Kd.R_drew)); exact Kd.R_mono HO183.out (fun _ hk => trivial)⟩, ⟨by repeat (first | (with_reducible first | exact HB.out | apply below_alloc | apply pw_below_drewN | apply below_drew1) | exact HB.out)⟩⟩
    rw [if_pos c15] at H
    have c15b0 : ((t179.length : Int) == (t176.length : Int)) = true := beq_iff_eq.mpr c15
    have c15b1 : ((t179.length : Int) != (t176.length : Int)) = false := bne_eq_false_iff_eq.mpr c15
    have c15b2 : (t179.length == t176.length) = true := by first | simpa using c15 | (simp at c15 ⊢; omega)
    clear c15
    replace H := Option.bind_eq_some_iff.mp H
    obtain ⟨t189, A160, H⟩ := H
    replace H : (if t189 = true then ((place_Clear.f k t176 t184).bind fun t190 => (if t190 = true then (terrkeep5_PlaceMost.j0 k t176 t179 t180 (decide (t180 < t185))) else (terrkeep5_PlaceMost.j0 k t176 t179 t180 true))) else (terrkeep5_PlaceMost.j0 k t176 t179 t180 true)) = some r := H
    have A16 := Aside0.mk A160
    clear A160
    by_cases c17 : t189 = true
    rotate_left
    · replace c17 := Bool.eq_false_iff.mpr c17
      subst c17
      have H1 : (terrkeep5_PlaceMost.j0 k t176 t179 t180 true) = some r := by rw [if_neg (show ¬ (false = true) by decide)] at H; exact H
      clear H
      have H := H1
      clear H1
      have H' := Aside0.mk H
      clear H
      obtain ⟨Ao28, co28, eo28⟩ := Kd.R_slice HO183.out
      subst eo28
      go_wp2_with (first | (go_at_call 31; (with_reducible refine (place_Clear.calls k _ _ t176 _ _ t179 false _ ?side1 ?side2 ?side3 ?side4 A16.out).mono ?_); (case side1 => repeat (first | exact (Kd.R_reads' HO178.out).2.2 | (with_reducible refine Kd.C_alloc ?_ _) | (with_reducible refine Kd.C_drewN ?_ _) | (with_reducible refine Kd.C_drew ?_))); (case side2 => exact (Kd.R_reads' HO178.out).2.1); (case side3 => repeat (first | exact (Kd.R_reads' HO183.out).2.2 | (with_reducible refine Kd.C_alloc ?_ _) | (with_reducible refine Kd.C_drewN ?_ _) | (with_reducible refine Kd.C_drew ?_))); (case side4 => exact (Kd.R_reads' HO183.out).2.1); rintro e w29 ⟨rfl, hb⟩; replace HO178 := Aside0.mk (Kd.R_below (by (with_reducible repeat (first | apply Kd.R_alloc | apply Kd.R_drewN | apply Kd.R_drew)); exact HO178.out) hb); replace HO183 := Aside0.mk (Kd.R_below (by (with_reducible repeat (first | apply Kd.R_alloc | apply Kd.R_drewN | apply Kd.R_drew)); exact HO183.out) hb); replace HO188 := Aside0.mk (Kd.R_below (by (with_reducible repeat (first | apply Kd.R_alloc | apply Kd.R_drewN | apply Kd.R_drew)); exact HO188.out) hb); replace HB := Aside0.mk (below_step (by repeat (first | (with_reducible first | exact HB.out | apply below_alloc | apply pw_below_drewN | apply below_drew1) | exact HB.out)) hb); (try clear hb); (try clear hb2); (try clear hk); (try clear hi)))
      go_meet
      case rel => exact ⟨_, (true), (by first | rfl | (simp; done) | (simp [*]; done)), H', ⟨by first | omega | exact Nat.le_refl _⟩, ⟨by (with_reducible repeat (first | apply Kd.R_alloc | apply Kd.R_drewN | apply Kd.R_drew)); exact HO178.out⟩, ⟨by (with_reducible repeat (first | apply Kd.R_alloc | apply Kd.R_drewN | apply Kd.R_drew)); exact Kd.R_mono HO183.out (fun _ hk => trivial)⟩, ⟨by repeat (first | (with_reducible first | exact HB.out | apply below_alloc | apply pw_below_drewN | apply below_drew1) | exact HB.out)⟩⟩
    subst c17
    have H1 : ((place_Clear.f k t176 t184).bind fun t190 => (if t190 = true then (terrkeep5_PlaceMost.j0 k t176 t179 t180 (decide (t180 < t185))) else (terrkeep5_PlaceMost.j0 k t176 t179 t180 true))) = some r := by rw [if_pos rfl] at H; exact H
    clear H
    have H := H1
    clear H1
    replace H := Option.bind_eq_some_iff.mp H
    obtain ⟨t190, A180, H⟩ := H
    replace H : (if t190 = true then (terrkeep5_PlaceMost.j0 k t176 t179 t180 (decide (t180 < t185))) else (terrkeep5_PlaceMost.j0 k t176 t179 t180 true)) = some r := H
    have A18 := Aside0.mk A180
    clear A180
    by_cases c19 : t190 = true
    · subst c19
      have H1 : (terrkeep5_PlaceMost.j0 k t176 t179 t180 (decide (t180 < t185))) = some r := by rw [if_pos rfl] at H; exact H
      clear H
      have H := H1
      clear H1
      have H' := Aside0.mk H
      clear H
      obtain ⟨Ao20, co20, eo20⟩ := Kd.R_slice HO183.out
      subst eo20
      go_wp2_with (first | (go_at_call 31; (with_reducible refine (place_Clear.calls k _ _ t176 _ _ t179 true _ ?side1 ?side2 ?side3 ?side4 A16.out).mono ?_); (case side1 => repeat (first | exact (Kd.R_reads' HO178.out).2.2 | (with_reducible refine Kd.C_alloc ?_ _) | (with_reducible refine Kd.C_drewN ?_ _) | (with_reducible refine Kd.C_drew ?_))); (case side2 => exact (Kd.R_reads' HO178.out).2.1); (case side3 => repeat (first | exact (Kd.R_reads' HO183.out).2.2 | (with_reducible refine Kd.C_alloc ?_ _) | (with_reducible refine Kd.C_drewN ?_ _) | (with_reducible refine Kd.C_drew ?_))); (case side4 => exact (Kd.R_reads' HO183.out).2.1); rintro e w21 ⟨rfl, hb⟩; replace HO178 := Aside0.mk (Kd.R_below (by (with_reducible repeat (first | apply Kd.R_alloc | apply Kd.R_drewN | apply Kd.R_drew)); exact HO178.out) hb); replace HO183 := Aside0.mk (Kd.R_below (by (with_reducible repeat (first | apply Kd.R_alloc | apply Kd.R_drewN | apply Kd.R_drew)); exact HO183.out) hb); replace HO188 := Aside0.mk (Kd.R_below (by (with_reducible repeat (first | apply Kd.R_alloc | apply Kd.R_drewN | apply Kd.R_drew)); exact HO188.out) hb); replace HB := Aside0.mk (below_step (by repeat (first | (with_reducible first | exact HB.out | apply below_alloc | apply pw_below_drewN | apply below_drew1) | exact HB.out)) hb); (try clear hb); (try clear hb2); (try clear hk); (try clear hi); obtain ⟨Ao22, co22, eo22⟩ := Kd.R_slice HO188.out; subst eo22) | (go_at_call 31; (with_reducible refine (place_Clear.calls k _ _ t176 _ _ t184 true _ ?side1 ?side2 ?side3 ?side4 A18.out).mono ?_); (case side1 => repeat (first | exact (Kd.R_reads' HO178.out).2.2 | (with_reducible refine Kd.C_alloc ?_ _) | (with_reducible refine Kd.C_drewN ?_ _) | (with_reducible refine Kd.C_drew ?_))); (case side2 => exact (Kd.R_reads' HO178.out).2.1); (case side3 => repeat (first | exact (Kd.R_reads' HO188.out).2.2 | (with_reducible refine Kd.C_alloc ?_ _) | (with_reducible refine Kd.C_drewN ?_ _) | (with_reducible refine Kd.C_drew ?_))); (case side4 => exact (Kd.R_reads' HO188.out).2.1); rintro e w23 ⟨rfl, hb⟩; replace HO178 := Aside0.mk (Kd.R_below (by (with_reducible repeat (first | apply Kd.R_alloc | apply Kd.R_drewN | apply Kd.R_drew)); exact HO178.out) hb); replace HO183 := Aside0.mk (Kd.R_below (by (with_reducible repeat (first | apply Kd.R_alloc | apply Kd.R_drewN | apply Kd.R_drew)); exact HO183.out) hb); replace HO188 := Aside0.mk (Kd.R_below (by (with_reducible repeat (first | apply Kd.R_alloc | apply Kd.R_drewN | apply Kd.R_drew)); exact HO188.out) hb); replace HB := Aside0.mk (below_step (by repeat (first | (with_reducible first | exact HB.out | apply below_alloc | apply pw_below_drewN | apply below_drew1) | exact HB.out)) hb); (try clear hb); (try clear hb2); (try clear hk); (try clear hi)))
      go_meet
      case rel => exact ⟨_, (decide (t180 < t185)), (by first | rfl | (simp; done) | (simp [*]; done)), H', ⟨by first | omega | exact Nat.le_refl _⟩, ⟨by (with_reducible repeat (first | apply Kd.R_alloc | apply Kd.R_drewN | apply Kd.R_drew)); exact HO178.out⟩, ⟨by (with_reducible repeat (first | apply Kd.R_alloc | apply Kd.R_drewN | apply Kd.R_drew)); exact Kd.R_mono HO183.out (fun _ hk => trivial)⟩, ⟨by repeat (first | (with_reducible first | exact HB.out | apply below_alloc | apply pw_below_drewN | apply below_drew1) | exact HB.out)⟩⟩
    replace c19 := Bool.eq_false_iff.mpr c19
    subst c19
    have H1 : (terrkeep5_PlaceMost.j0 k t176 t179 t180 true) = some r := by rw [if_neg (show ¬ (false = true) by decide)] at H; exact H
    clear H
    have H := H1
    clear H1
    have H' := Aside0.mk H
    clear H
    obtain ⟨Ao24, co24, eo24⟩ := Kd.R_slice HO183.out
    subst eo24
    go_wp2_with (first | (go_at_call 31; (with_reducible refine (place_Clear.calls k _ _ t176 _ _ t179 true _ ?side1 ?side2 ?side3 ?side4 A16.out).mono ?_); (case side1 => repeat (first | exact (Kd.R_reads' HO178.out).2.2 | (with_reducible refine Kd.C_alloc ?_ _) | (with_reducible refine Kd.C_drewN ?_ _) | (with_reducible refine Kd.C_drew ?_))); (case side2 => exact (Kd.R_reads' HO178.out).2.1); (case side3 => repeat (first | exact (Kd.R_reads' HO183.out).2.2 | (with_reducible refine Kd.C_alloc ?_ _) | (with_reducible refine Kd.C_drewN ?_ _) | (with_reducible refine Kd.C_drew ?_))); (case side4 => exact (Kd.R_reads' HO183.out).2.1); rintro e w25 ⟨rfl, hb⟩; replace HO178 := Aside0.mk (Kd.R_below (by (with_reducible repeat (first | apply Kd.R_alloc | apply Kd.R_drewN | apply Kd.R_drew)); exact HO178.out) hb); replace HO183 := Aside0.mk (Kd.R_below (by (with_reducible repeat (first | apply Kd.R_alloc | apply Kd.R_drewN | apply Kd.R_drew)); exact HO183.out) hb); replace HO188 := Aside0.mk (Kd.R_below (by (with_reducible repeat (first | apply Kd.R_alloc | apply Kd.R_drewN | apply Kd.R_drew)); exact HO188.out) hb); replace HB := Aside0.mk (below_step (by repeat (first | (with_reducible first | exact HB.out | apply below_alloc | apply pw_below_drewN | apply below_drew1) | exact HB.out)) hb); (try clear hb); (try clear hb2); (try clear hk); (try clear hi); obtain ⟨Ao26, co26, eo26⟩ := Kd.R_slice HO188.out; subst eo26) | (go_at_call 31; (with_reducible refine (place_Clear.calls k _ _ t176 _ _ t184 false _ ?side1 ?side2 ?side3 ?side4 A18.out).mono ?_); (case side1 => repeat (first | exact (Kd.R_reads' HO178.out).2.2 | (with_reducible refine Kd.C_alloc ?_ _) | (with_reducible refine Kd.C_drewN ?_ _) | (with_reducible refine Kd.C_drew ?_))); (case side2 => exact (Kd.R_reads' HO178.out).2.1); (case side3 => repeat (first | exact (Kd.R_reads' HO188.out).2.2 | (with_reducible refine Kd.C_alloc ?_ _) | (with_reducible refine Kd.C_drewN ?_ _) | (with_reducible refine Kd.C_drew ?_))); (case side4 => exact (Kd.R_reads' HO188.out).2.1); rintro e w27 ⟨rfl, hb⟩; replace HO178 := Aside0.mk (Kd.R_below (by (with_reducible repeat (first | apply Kd.R_alloc | apply Kd.R_drewN | apply Kd.R_drew)); exact HO178.out) hb); replace HO183 := Aside0.mk (Kd.R_below (by (with_reducible repeat (first | apply Kd.R_alloc | apply Kd.R_drewN | apply Kd.R_drew)); exact HO183.out) hb); replace HO188 := Aside0.mk (Kd.R_below (by (with_reducible repeat (first | apply Kd.R_alloc | apply Kd.R_drewN | apply Kd.R_drew)); exact HO188.out) hb); replace HB := Aside0.mk (below_step (by repeat (first | (with_reducible first | exact HB.out | apply below_alloc | apply pw_below_drewN | apply below_drew1) | exact HB.out)) hb); (try clear hb); (try clear hb2); (try clear hk); (try clear hi)))
    go_meet
    case rel => exact ⟨_, (true), (by first | rfl | (simp; done) | (simp [*]; done)), H', ⟨by first | omega | exact Nat.le_refl _⟩, ⟨by (with_reducible repeat (first | apply Kd.R_alloc | apply Kd.R_drewN | apply Kd.R_drew)); exact HO178.out⟩, ⟨by (with_reducible repeat (first | apply Kd.R_alloc | apply Kd.R_drewN | apply Kd.R_drew)); exact Kd.R_mono HO183.out (fun _ hk => trivial)⟩, ⟨by repeat (first | (with_reducible first | exact HB.out | apply below_alloc | apply pw_below_drewN | apply below_drew1) | exact HB.out)⟩⟩
  case rest =>
    clear HC7
    try clear c1
    try clear p2
    try clear c3
    try clear p5
    try clear c7
    try clear c13
    try clear c13b0
    try clear c13b1
    try clear c14
    try clear c14b0
    try clear c14b1
    try clear c15
    try clear c15b0
    try clear c15b1
    try clear c15b2
    try clear c16
    try clear c17
    try clear c19
    obtain ⟨kq, x58_6, rfl, HA, HJ6, HO_3, HO_4, HB⟩ := hcut
    cases kq with
    | zero => exact absurd HA.out (by simp [terrkeep5_PlaceMost.j0])
    | succ kj6 =>
      have H := HA.out
      clear HA
      simp only [terrkeep5_PlaceMost.j0] at H
      by_cases c31 : x58_6 = true
      · subst c31
        have H1 : (some false) = some r := by rw [if_pos rfl] at H; exact H
        clear H
        have H := H1
        clear H1
        exact absurd (H.trans (congrArg some hr)) (by decide)
      replace c31 := Bool.eq_false_iff.mpr c31
      subst c31
      have H1 : (terrkeep5_PlaceMost.l0 kj6 t176 t180 0 t179 (t179.length : Int) 0) = some r := by rw [if_neg (show ¬ (false = true) by decide)] at H; exact H
      clear H
      have H := H1
      clear H1
      have H' := Aside0.mk H
      clear H
      obtain ⟨Ao32, co32, eo32⟩ := Kd.R_slice HO_4.out
      subst eo32
      go_wp2
      go_loopg [10, 61] kj6 (fun kq v10 v61 w' => ∃ (x10_2 : Int) (x61_2 : Int), v10 = .int .i64 x10_2 ∧ v61 = .int .i64 x61_2 ∧ Aside0 (terrkeep5_PlaceMost.l0 kq t176 t180 x10_2 t179 (t179.length : Int) x61_2 = some r) ∧ Aside0 (kq ≤ kj6) ∧ Aside0 (Kd.R k36 36 w' w.heap.size (fun _ => True) (.slice Ao10 t176.length co10) t176) ∧ Aside0 (Kd.R (Kd.int .i64) 3 w' w.heap.size (fun _ => True) (.slice Ao32 t179.length co32) t179) ∧ Aside0 (Below w.heap.size w w'))
      case atStart => exact ⟨(0), (0), (by first | rfl | (simp; done) | (simp [*]; done)), (by first | rfl | (simp; done) | (simp [*]; done)), H', ⟨Nat.le_refl _⟩, ⟨by (with_reducible repeat (first | apply Kd.R_alloc | apply Kd.R_drewN | apply Kd.R_drew)); exact HO_3.out⟩, ⟨by (with_reducible repeat (first | apply Kd.R_alloc | apply Kd.R_drewN | apply Kd.R_drew)); exact HO_4.out⟩, ⟨by repeat (first | (with_reducible first | exact HB.out | apply below_alloc | apply pw_below_drewN | apply below_drew1) | exact HB.out)⟩⟩
      case round =>
        clear H'
        try clear c1
        try clear p2
        try clear c3
        try clear p5
        try clear c7
        try clear c13
        try clear c13b0
        try clear c13b1
        try clear c14
        try clear c14b0
        try clear c14b1
        try clear c15
        try clear c15b0
        try clear c15b1
        try clear c15b2
        try clear c16
        try clear c17
        try clear c19
        try clear c31
        try clear c32
        try clear p2
        try clear p5
        obtain ⟨x10_2, x61_2, rfl, rfl, HA, HK2, HO_3, HO_59, HB⟩ := hrel
        cases gk with
        | zero => exact absurd HA.out (by simp [terrkeep5_PlaceMost.l0])
        | succ k2 =>
          have H := HA.out
          clear HA
          simp only [terrkeep5_PlaceMost.l0] at H
          by_cases c33 : x61_2 < (t179.length : Int)
          rotate_left
          · rw [if_neg c33] at H
            have c33b0 : decide (x61_2 < (t179.length : Int)) = false := decide_eq_false c33
            clear c33 hr
            obtain rfl := Option.some.inj H
            go_wp2
            go_ret
            exact ⟨by first | rfl | (simp [errW_none, errW_some] <;> rfl) | (simp [*, errW_none, errW_some] <;> rfl), by repeat (first | (with_reducible first | exact HB.out | apply below_alloc | apply pw_below_drewN | apply below_drew1) | exact HB.out)⟩
          rw [if_pos c33] at H
          have c33b0 : decide (x61_2 < (t179.length : Int)) = true := decide_eq_true c33
          clear c33
          by_cases c34 : 0 ≤ x61_2
          rotate_left
          · rw [if_neg c34] at H
            exact absurd H (by simp)
          rw [if_pos c34] at H
          have c34b0 : decide (0 ≤ x61_2) = true := decide_eq_true c34
          clear c34
          by_cases c35 : x61_2 < (t179.length : Int)
          rotate_left
          · rw [if_neg c35] at H
            exact absurd H (by simp)
          rw [if_pos c35] at H
          have c35b0 : decide (x61_2 < (t179.length : Int)) = true := decide_eq_true c35
          clear c35
          by_cases c36 : (rd t179 x61_2) ≥ 0
          rotate_left
          · rw [if_neg c36] at H
            have c36b0 : decide (0 ≤ (rd t179 x61_2)) = false := decide_eq_false c36
            clear c36
            have H' := Aside0.mk H
            clear H
            have p191 : 0 ≤ (x61_2 : Int) := of_decide_eq_true (by first | (with_reducible assumption) | assumption)
            have q191 : x61_2 < (t179.length : Int) := of_decide_eq_true (by first | (with_reducible assumption) | assumption)
            obtain ⟨ad191, e191, hx191_0⟩ := Kd.at_int (Kd.R_reads' HO_59.out).2.2 x61_2 p191 q191
            cases e191
            replace p191 := eq_true p191
            replace q191 := eq_true q191
            go_wp2
            go_roundg k2
            case measure => have := HJ6.out; have := HK2.out; omega
            case rel => exact ⟨(x10_2), (wrap64 (x61_2 + 1)), (by first | rfl | (simp; done) | (simp [*]; done)), (by first | rfl | (simp; done) | (simp [*]; done)), H', ⟨by have := HJ6.out; have := HK2.out; omega⟩, ⟨by (with_reducible repeat (first | apply Kd.R_alloc | apply Kd.R_drewN | apply Kd.R_drew)); exact HO_3.out⟩, ⟨by (with_reducible repeat (first | apply Kd.R_alloc | apply Kd.R_drewN | apply Kd.R_drew)); exact HO_59.out⟩, ⟨by repeat (first | (with_reducible first | exact HB.out | apply below_alloc | apply pw_below_drewN | apply below_drew1) | exact HB.out)⟩⟩
          rw [if_pos c36] at H
          have c36b0 : decide (0 ≤ (rd t179 x61_2)) = true := decide_eq_true c36
          clear c36
          by_cases c37 : x61_2 < (t176.length : Int)
          rotate_left
          · rw [if_neg c37] at H
            exact absurd H (by simp)
          rw [if_pos c37] at H
          have c37b0 : decide (x61_2 < (t176.length : Int)) = true := decide_eq_true c37
          clear c37
          have H' := Aside0.mk H
          clear H
          have p191 : 0 ≤ (x61_2 : Int) := of_decide_eq_true (by first | (with_reducible assumption) | assumption)
          have q191 : x61_2 < (t179.length : Int) := of_decide_eq_true (by first | (with_reducible assumption) | assumption)
          obtain ⟨ad191, e191, hx191_0⟩ := Kd.at_int (Kd.R_reads' HO_59.out).2.2 x61_2 p191 q191
          cases e191
          replace p191 := eq_true p191
          replace q191 := eq_true q191
          have p192 : 0 ≤ (x61_2 : Int) := of_decide_eq_true (by first | (with_reducible assumption) | assumption)
          have q192 : x61_2 < (t176.length : Int) := of_decide_eq_true (by first | (with_reducible assumption) | assumption)
          obtain ⟨ad192, A192_4, c192_4, A192_6, c192_6, e192, hx192_0, hx192_1, hx192_2, hx192_3, hx192_4, hx192_5, hx192_6, hx192_7, hl192_4, hi192_4, hl192_6, hi192_6⟩ := at_T36 (Kd.R_reads' HO_3.out).2.2 x61_2 p192 q192
          cases e192
          obtain ⟨ce192, hce192, hMe192, hcc192⟩ := Kd.R_get HO_3.out z36 x61_2 p192 (by first | exact q192 | exact of_decide_eq_true (by first | (with_reducible assumption) | assumption) | (have e_ := (Kd.R_reads' HO_3.out).1; omega))
          obtain ⟨ve192_4, ve192_6, rfl, ge192_4, ge192_6⟩ := k36_openM hMe192
          have hv192_4 := hcc192 4 _ rfl
          rw [add_field _ _ 4 (by omega)] at hv192_4
          replace hv192_4 := Option.some.inj (hv192_4.symm.trans hx192_4)
          rw [hv192_4] at ge192_4
          have HL192_4 := Aside0.mk (show Kd.R (Kd.slice 40 k40) 54 _ _ _ _ ((rd_T36 t176 x61_2).f0.f4) from ge192_4)
          clear hv192_4 ge192_4
          have hv192_6 := hcc192 6 _ rfl
          rw [add_field _ _ 6 (by omega)] at hv192_6
          replace hv192_6 := Option.some.inj (hv192_6.symm.trans hx192_6)
          rw [hv192_6] at ge192_6
          have HL192_6 := Aside0.mk (show Kd.R k42 42 _ _ _ _ ((rd_T36 t176 x61_2).f1) from ge192_6)
          clear hv192_6 ge192_6 hcc192 hce192
          have HR192_4 := Aside0.mk hi192_4
          have HC192_4 := Aside0.mk hl192_4
          clear hi192_4 hl192_4
          have HR192_6 := Aside0.mk hi192_6
          have HC192_6 := Aside0.mk hl192_6
          clear hi192_6 hl192_6
          replace p192 := eq_true p192
          replace q192 := eq_true q192
          go_wp2
          go_roundg k2
          case measure => have := HJ6.out; have := HK2.out; omega
          case rel => exact ⟨(wrap64 (x10_2 + ((rd_T36 t176 x61_2).f2))), (wrap64 (x61_2 + 1)), (by first | rfl | (simp; done) | (simp [*]; done)), (by first | rfl | (simp; done) | (simp [*]; done)), H', ⟨by have := HJ6.out; have := HK2.out; omega⟩, ⟨by (with_reducible repeat (first | apply Kd.R_alloc | apply Kd.R_drewN | apply Kd.R_drew)); exact HO_3.out⟩, ⟨by (with_reducible repeat (first | apply Kd.R_alloc | apply Kd.R_drewN | apply Kd.R_drew)); exact HO_59.out⟩, ⟨by repeat (first | (with_reducible first | exact HB.out | apply below_alloc | apply pw_below_drewN | apply below_drew1) | exact HB.out)⟩⟩

/-- THE ONE PURE STATEMENT of terrkeep5_PlaceMost: yours. -/
def terrkeep5_PlaceMost.Pure : Prop := ∀ (l0 : List Int), l0.length ≤ maxLen → l0.length * 8 ≤ 140737488351232 → (∀ x ∈ l0, (Lit.int .i64 x).wf = true) → ∃ k, terrkeep5_PlaceMost.f k l0 = some true
theorem terrkeep5_PlaceMost.walk (P : terrkeep5_PlaceMost.Pure) (a0 : Option Addr) (len0 cap0 : Nat) (z0 : List Int) (w : World) (w0 : (a0 = none ∧ len0 = 0 ∧ cap0 = 0 ∧ z0 = []) ∨ ∃ x, a0 = some x ∧ len0 ≤ cap0 ∧ cap0 ≤ maxLen ∧ z0.length = cap0 ∧ (∀ i, i < z0.length → w.cell? (x.add i) = some (.int .i64 (z0.getD i 0))) ∧ ∀ n ∈ z0, (Lit.int .i64 n).wf = true) (y0 : len0 * 8 ≤ 140737488351232) :
    Calls Try.prog 7 #[.slice a0 len0 cap0] w fun e w' => e = .returned (.bool true) ∧ Below w.heap.size w w' := by
  obtain ⟨l0, rfl, hr0, hm0, hw0, hc0⟩ := ReadsInt.ofRowC w0
  obtain ⟨k, h⟩ := P l0 hm0 y0 hw0
  refine (terrkeep5_PlaceMost.calls k _ _ l0 true w (Kd.C_of_reads (d := (0 : Int)) (h1 := fun _ => rfl) hr0) hc0 h rfl).mono ?_
  rintro e w' ⟨rfl, hd⟩
  exact ⟨rfl, hd⟩
end Go.Proofs.Ytdmhnjpblpfbfaa.Q
