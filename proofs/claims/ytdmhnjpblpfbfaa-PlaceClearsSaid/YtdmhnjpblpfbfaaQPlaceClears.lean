/- What the Go function terrlaw5_PlaceClears comes to, and its contract. Condition: its printed twin gives an answer, which is true. -/
import Derived.Test.YtdmhnjpblpfbfaaQf22
import Derived.Test.YtdmhnjpblpfbfaaQf34
import Derived.Test.YtdmhnjpblpfbfaaQf24
import Derived.Test.YtdmhnjpblpfbfaaQf25
import Derived.Test.YtdmhnjpblpfbfaaQf33
import Derived.Test.YtdmhnjpblpfbfaaQf27
import Derived.Test.YtdmhnjpblpfbfaaQf31
import Derived.Test.YtdmhnjpblpfbfaaQf32
namespace Go.Proofs.Ytdmhnjpblpfbfaa.Q
open Go.RowKit Go.Proofs.YtdmhnjpblpfbfaaW.PrintWords Go.Proofs.YtdmhnjpblpfbfaaW.PrintLast Go.Proofs.YtdmhnjpblpfbfaaW.PrintMore
attribute [local go_sem] max2_int min2_int max_two min_two max_three min_three max_four min_four
set_option linter.unusedVariables false
set_option linter.unusedSimpArgs false
/-! ### terrlaw5_PlaceClears: function 6 -/
mutual
def terrlaw5_PlaceClears.j0 : Nat → List (S36) → Bool → Option (Bool)
  | 0, _, _ => none
  | k + 1, x0, x24 => if x24 = true then (some false) else ((terrlaw5_wantsFault.f k x0).bind fun t202 => ((place_Greedy.f k x0).bind fun bt203 => (if t202 = 0 then (terrlaw5_PlaceClears.l0 k x0 bt203.1 bt203.2.1 bt203.2.2 ([] : List Int) 0 x0 (x0.length : Int) 0) else (if bt203.2.2 = t202 then (if bt203.2.1 = 0 then (some ((bt203.1.length : Int) == 0)) else (some false)) else (some false)))))
def terrlaw5_PlaceClears.l0 : Nat → List (S36) → List Int → Int → Int → List Int → Int → List (S36) → Int → Int → Option (Bool)
  | 0, _, _, _, _, _, _, _, _, _ => none
  | k + 1, x0, x6, x7, x8, x9, x10, x47, x48, x49 => if x49 < x48 then (if 0 ≤ x49 then (if x49 < (x47.length : Int) then (terrlaw5_PlaceClears.l1 k x0 x6 x7 x8 x9 x10 x49 0 x47 x48 x49 ((rd_T36 x47 x49).f0.f0) ((rd_T36 x47 x49).f0.f1) ((rd_T36 x47 x49).f0.f2) ((rd_T36 x47 x49).f0.f3) ((rd_T36 x47 x49).f0.f4) ((rd_T36 x47 x49).f0.f5) ((rd_T36 x47 x49).f1) ((rd_T36 x47 x49).f2)) else (none)) else (none)) else (if x8 = 0 then (if x7 = x10 then ((slices_Equal_int_int.f k x6 x9).bind fun t208 => (some t208)) else (some false)) else (some false))
def terrlaw5_PlaceClears.l1 : Nat → List (S36) → List Int → Int → Int → List Int → Int → Int → Int → List (S36) → Int → Int → Int → Int → Int → Int → List (List (S40)) → ByteArray → List (S42) → Int → Option (Bool)
  | 0, _, _, _, _, _, _, _, _, _, _, _, _, _, _, _, _, _, _, _ => none
  | k + 1, x0, x6, x7, x8, x9, x10, x11, x13, x47, x48, x49, x211000, x211001, x211002, x211003, x211004, x211005, x211006, x211007 => if x13 < (x211006.length : Int) then (if 0 ≤ (wrap64 (x11 + 1)) then (if (wrap64 (x11 + 1)) ≤ (x0.length : Int) then ((slices_Clone_int_int.f x9).bind fun t215 => ((some (([x13] : List Int) : List Int)).bind fun y218 => (if t215.length + y218.length < 17592186044416 then ((terrlaw5_possible.f k (x0.take ((wrap64 (x11 + 1)) : Int).toNat) (t215 ++ y218)).bind fun t224 => (if t224 = true then (if x13 = (x211006.length : Int) then ((some (([(-1)] : List Int) : List Int)).bind fun y225 => (if x9.length + y225.length < 17592186044416 then (terrlaw5_PlaceClears.l0 k x0 x6 x7 x8 (x9 ++ y225) x10 x47 x48 (wrap64 (x49 + 1))) else (none))) else ((some (([x13] : List Int) : List Int)).bind fun y231 => (if x9.length + y231.length < 17592186044416 then (terrlaw5_PlaceClears.l0 k x0 x6 x7 x8 (x9 ++ y231) (wrap64 (x10 + x211007)) x47 x48 (wrap64 (x49 + 1))) else (none)))) else (terrlaw5_PlaceClears.l1 k x0 x6 x7 x8 x9 x10 x11 (wrap64 (x13 + 1)) x47 x48 x49 x211000 x211001 x211002 x211003 x211004 x211005 x211006 x211007))) else (none)))) else (none)) else (none)) else (if x13 = (x211006.length : Int) then ((some (([(-1)] : List Int) : List Int)).bind fun y237 => (if x9.length + y237.length < 17592186044416 then (terrlaw5_PlaceClears.l0 k x0 x6 x7 x8 (x9 ++ y237) x10 x47 x48 (wrap64 (x49 + 1))) else (none))) else ((some (([x13] : List Int) : List Int)).bind fun y243 => (if x9.length + y243.length < 17592186044416 then (terrlaw5_PlaceClears.l0 k x0 x6 x7 x8 (x9 ++ y243) (wrap64 (x10 + x211007)) x47 x48 (wrap64 (x49 + 1))) else (none))))
end
def terrlaw5_PlaceClears.f (k : Nat) (l0 : List (S36)) (l1 : List Int) : Option (Bool) := (terrlaw5_alone.f k).bind fun t199 => (if t199 = true then ((place_Clear.f k l0 l1).bind fun t200 => ((terrlaw5_chosen.f k l0 l1).bind fun t201 => (terrlaw5_PlaceClears.j0 k l0 (t200 != t201)))) else (terrlaw5_PlaceClears.j0 k l0 true))
def terrlaw5_PlaceClears.T13 : Bool × List (List Nat × List Nat) := (true, [([], []), ([], []), ([1], [1]), ([2], [2]), ([0, 3], [0, 3]), ([4], [4]), ([5], [5]), ([5], [5]), ([7, 5], [5, 7]), ([6, 8, 5], [5, 6, 8]), ([5], [5]), ([10, 5, 5], [5, 10]), ([5], [5]), ([12, 5], [5, 12]), ([11, 13, 11, 5], [5, 11, 13]), ([9, 14, 14, 5], [5, 9, 14]), ([15, 5], [5, 15]), ([5, 16], [5, 16])])
def terrlaw5_PlaceClears.B13 : List Nat := [0, 0, 2, 6, 15, 31, 63, 63, 191, 511, 63, 1087, 63, 4159, 15423, 32767, 65535, 131071]
theorem terrlaw5_PlaceClears.tab13 : rtab .any (opsOf Try.f6 13) = terrlaw5_PlaceClears.T13 := by kernel_rfl
theorem terrlaw5_PlaceClears.bits13 : waitsOk terrlaw5_PlaceClears.T13.2 terrlaw5_PlaceClears.B13 = true := by kernel_rfl
set_option maxHeartbeats 8000000 in
set_option maxRecDepth 100000 in
theorem terrlaw5_PlaceClears.calls (k : Nat) (A0 : Option Addr) (c0 : Nat) (l0 : List (S36)) (A1 : Option Addr) (c1 : Nat) (l1 : List Int) (r : Bool) (w : World) (hr0 : Kd.C k36 w A0 l0.length l0) (hc0 : l0.length ≤ c0) (hr1 : Kd.C (Kd.int .i64) w A1 l1.length l1) (hc1 : l1.length ≤ c1) (h : terrlaw5_PlaceClears.f k l0 l1 = some r) (hr : r = true) :
    Calls Try.prog 6 #[.slice A0 l0.length c0, .slice A1 l1.length c1] w fun e w' => e = .returned (.bool r) ∧ Below w.heap.size w w' := by
  have hu36 := Try.underlying36
  have HR0 := Aside0.mk hr0
  have HC0 := Aside0.mk hc0
  clear hr0 hc0
  have HR1 := Aside0.mk hr1
  have HC1 := Aside0.mk hc1
  clear hr1 hc1
  have HB := Aside0.mk (Below.refl w.heap.size w)
  have H : ((terrlaw5_alone.f k).bind fun t199 => (if t199 = true then ((place_Clear.f k l0 l1).bind fun t200 => ((terrlaw5_chosen.f k l0 l1).bind fun t201 => (terrlaw5_PlaceClears.j0 k l0 (t200 != t201)))) else (terrlaw5_PlaceClears.j0 k l0 true))) = some r := h
  clear h
  have HC3 := Aside0.mk H
  clear H
  go_enter Try.func6, Try.ntmps6
  go_upto_region 1 with (fail)
  go_cut [24] (fun v24 wc => ∃ (kq : Nat) (x24_2 : Bool), v24 = .bool x24_2 ∧ Aside0 (terrlaw5_PlaceClears.j0 kq l0 x24_2 = some r) ∧ Aside0 (kq ≤ k) ∧ Aside0 (Below w.heap.size w wc))
  case first =>
    have H := HC3.out
    clear HC3
    replace H := Option.bind_eq_some_iff.mp H
    obtain ⟨t199, A40, H⟩ := H
    replace H : (if t199 = true then ((place_Clear.f k l0 l1).bind fun t200 => ((terrlaw5_chosen.f k l0 l1).bind fun t201 => (terrlaw5_PlaceClears.j0 k l0 (t200 != t201)))) else (terrlaw5_PlaceClears.j0 k l0 true)) = some r := H
    have A4 := Aside0.mk A40
    clear A40
    by_cases c5 : t199 = true
    rotate_left
    · replace c5 := Bool.eq_false_iff.mpr c5
      subst c5
      have H1 : (terrlaw5_PlaceClears.j0 k l0 true) = some r := by rw [if_neg (show ¬ (false = true) by decide)] at H; exact H
      clear H
      have H := H1
      clear H1
      have H' := Aside0.mk H
      clear H
      go_wp2_with (first | ((with_reducible refine gate_callee (f := 24) rfl ?_); refine goesL_ (some 14) rfl rfl Try.func24 (by kernel_rfl) rfl #[] rfl (by (try simp only [List.map_toArray, List.map_cons, List.map_nil]); first | done | rfl | (simp only [List.length_drop, List.length_take]; rfl)) ?_; (with_reducible refine (terrlaw5_alone.calls k  false _ A4.out).mono ?_); rintro e w11 ⟨rfl, hb⟩; refine ⟨_, rfl, ?_⟩; replace HB := Aside0.mk (below_step (by repeat (first | (with_reducible first | exact HB.out | apply below_alloc | apply pw_below_drewN | apply below_drew1) | exact HB.out)) hb); (try clear hb); (try clear hb2); (try clear hk); (try clear hi)))
      go_meet
      case rel => exact ⟨_, (true), (by first | rfl | (simp; done) | (simp [*]; done)), H', ⟨by first | omega | exact Nat.le_refl _⟩, ⟨by repeat (first | (with_reducible first | exact HB.out | apply below_alloc | apply pw_below_drewN | apply below_drew1) | exact HB.out)⟩⟩
    subst c5
    have H1 : ((place_Clear.f k l0 l1).bind fun t200 => ((terrlaw5_chosen.f k l0 l1).bind fun t201 => (terrlaw5_PlaceClears.j0 k l0 (t200 != t201)))) = some r := by rw [if_pos rfl] at H; exact H
    clear H
    have H := H1
    clear H1
    replace H := Option.bind_eq_some_iff.mp H
    obtain ⟨t200, A60, H⟩ := H
    replace H : ((terrlaw5_chosen.f k l0 l1).bind fun t201 => (terrlaw5_PlaceClears.j0 k l0 (t200 != t201))) = some r := H
    have A6 := Aside0.mk A60
    clear A60
    replace H := Option.bind_eq_some_iff.mp H
    obtain ⟨t201, A70, H⟩ := H
    replace H : (terrlaw5_PlaceClears.j0 k l0 (t200 != t201)) = some r := H
    have A7 := Aside0.mk A70
    clear A70
    have H' := Aside0.mk H
    clear H
    go_wp2_with (first | ((with_reducible refine gate_callee (f := 24) rfl ?_); refine goesL_ (some 14) rfl rfl Try.func24 (by kernel_rfl) rfl #[] rfl (by (try simp only [List.map_toArray, List.map_cons, List.map_nil]); first | done | rfl | (simp only [List.length_drop, List.length_take]; rfl)) ?_; (with_reducible refine (terrlaw5_alone.calls k  true _ A4.out).mono ?_); rintro e w8 ⟨rfl, hb⟩; refine ⟨_, rfl, ?_⟩; replace HB := Aside0.mk (below_step (by repeat (first | (with_reducible first | exact HB.out | apply below_alloc | apply pw_below_drewN | apply below_drew1) | exact HB.out)) hb); (try clear hb); (try clear hb2); (try clear hk); (try clear hi)) | (go_at_call 31; (with_reducible refine (place_Clear.calls k _ _ l0 _ _ l1 t200 _ ?side1 ?side2 ?side3 ?side4 A6.out).mono ?_); (case side1 => repeat (first | exact (Kd.C_below HR0.out HB.out) | (with_reducible refine Kd.C_alloc ?_ _) | (with_reducible refine Kd.C_drewN ?_ _) | (with_reducible refine Kd.C_drew ?_))); (case side2 => exact HC0.out); (case side3 => repeat (first | exact (Kd.C_below HR1.out HB.out) | (with_reducible refine Kd.C_alloc ?_ _) | (with_reducible refine Kd.C_drewN ?_ _) | (with_reducible refine Kd.C_drew ?_))); (case side4 => exact HC1.out); rintro e w9 ⟨rfl, hb⟩; replace HB := Aside0.mk (below_step (by repeat (first | (with_reducible first | exact HB.out | apply below_alloc | apply pw_below_drewN | apply below_drew1) | exact HB.out)) hb); (try clear hb); (try clear hb2); (try clear hk); (try clear hi)) | (go_at_call 27; (with_reducible refine (terrlaw5_chosen.calls k _ _ l0 _ _ l1 t201 _ ?side1 ?side2 ?side3 ?side4 A7.out).mono ?_); (case side1 => repeat (first | exact (Kd.C_below HR0.out HB.out) | (with_reducible refine Kd.C_alloc ?_ _) | (with_reducible refine Kd.C_drewN ?_ _) | (with_reducible refine Kd.C_drew ?_))); (case side2 => exact HC0.out); (case side3 => repeat (first | exact (Kd.C_below HR1.out HB.out) | (with_reducible refine Kd.C_alloc ?_ _) | (with_reducible refine Kd.C_drewN ?_ _) | (with_reducible refine Kd.C_drew ?_))); (case side4 => exact HC1.out); rintro e w10 ⟨rfl, hb⟩; replace HB := Aside0.mk (below_step (by repeat (first | (with_reducible first | exact HB.out | apply below_alloc | apply pw_below_drewN | apply below_drew1) | exact HB.out)) hb); (try clear hb); (try clear hb2); (try clear hk); (try clear hi)))
    go_meet
    case rel => exact ⟨_, ((t200 != t201)), (by first | rfl | (simp; done) | (simp [*]; done)), H', ⟨by first | omega | exact Nat.le_refl _⟩, ⟨by repeat (first | (with_reducible first | exact HB.out | apply below_alloc | apply pw_below_drewN | apply below_drew1) | exact HB.out)⟩⟩
  case rest =>
    clear HC3
    try clear c1
    try clear c2
    try clear p2
    try clear c5
    try clear c6
    obtain ⟨kq, x24_2, rfl, HA, HJ2, HB⟩ := hcut
    cases kq with
    | zero => exact absurd HA.out (by simp [terrlaw5_PlaceClears.j0])
    | succ kj2 =>
      have H := HA.out
      clear HA
      simp only [terrlaw5_PlaceClears.j0] at H
      by_cases c12 : x24_2 = true
      · subst c12
        have H1 : (some false) = some r := by rw [if_pos rfl] at H; exact H
        clear H
        have H := H1
        clear H1
        exact absurd (H.trans (congrArg some hr)) (by decide)
      replace c12 := Bool.eq_false_iff.mpr c12
      subst c12
      have H1 : ((terrlaw5_wantsFault.f kj2 l0).bind fun t202 => ((place_Greedy.f kj2 l0).bind fun bt203 => (if t202 = 0 then (terrlaw5_PlaceClears.l0 kj2 l0 bt203.1 bt203.2.1 bt203.2.2 ([] : List Int) 0 l0 (l0.length : Int) 0) else (if bt203.2.2 = t202 then (if bt203.2.1 = 0 then (some ((bt203.1.length : Int) == 0)) else (some false)) else (some false))))) = some r := by rw [if_neg (show ¬ (false = true) by decide)] at H; exact H
      clear H
      have H := H1
      clear H1
      replace H := Option.bind_eq_some_iff.mp H
      obtain ⟨t202, A130, H⟩ := H
      replace H : ((place_Greedy.f kj2 l0).bind fun bt203 => (if t202 = 0 then (terrlaw5_PlaceClears.l0 kj2 l0 bt203.1 bt203.2.1 bt203.2.2 ([] : List Int) 0 l0 (l0.length : Int) 0) else (if bt203.2.2 = t202 then (if bt203.2.1 = 0 then (some ((bt203.1.length : Int) == 0)) else (some false)) else (some false)))) = some r := H
      have A13 := Aside0.mk A130
      clear A130
      replace H := Option.bind_eq_some_iff.mp H
      obtain ⟨⟨t203, t204, t205⟩, A140, H⟩ := H
      replace H : (if t202 = 0 then (terrlaw5_PlaceClears.l0 kj2 l0 t203 t204 t205 ([] : List Int) 0 l0 (l0.length : Int) 0) else (if t205 = t202 then (if t204 = 0 then (some ((t203.length : Int) == 0)) else (some false)) else (some false))) = some r := H
      have A14 := Aside0.mk A140
      clear A140
      by_cases c15 : t202 = 0
      rotate_left
      · rw [if_neg c15] at H
        have c15b0 : (t202 == 0) = false := beq_eq_false_iff_ne.mpr c15
        have c15b1 : (t202 != 0) = true := bne_iff_ne.mpr c15
        by_cases c97 : t205 = t202
        rotate_left
        · rw [if_neg c97] at H
          have c97b0 : (t205 == t202) = false := beq_eq_false_iff_ne.mpr c97
          have c97b1 : (t205 != t202) = true := bne_iff_ne.mpr c97
          exact absurd (H.trans (congrArg some hr)) (by decide)
        rw [if_pos c97] at H
        have c97b0 : (t205 == t202) = true := beq_iff_eq.mpr c97
        have c97b1 : (t205 != t202) = false := bne_eq_false_iff_eq.mpr c97
        clear c97
        by_cases c98 : t204 = 0
        rotate_left
        · rw [if_neg c98] at H
          have c98b0 : (t204 == 0) = false := beq_eq_false_iff_ne.mpr c98
          have c98b1 : (t204 != 0) = true := bne_iff_ne.mpr c98
          exact absurd (H.trans (congrArg some hr)) (by decide)
        rw [if_pos c98] at H
        have c98b0 : (t204 == 0) = true := beq_iff_eq.mpr c98
        have c98b1 : (t204 != 0) = false := bne_eq_false_iff_eq.mpr c98
        clear c98 hr
        obtain rfl := Option.some.inj H
        go_wp2_with (first | ((with_reducible refine gate_callee (f := 25) rfl ?_); refine goesL_ (some 26) rfl rfl Try.func25 (by kernel_rfl) rfl #[.slice A0 l0.length c0] rfl (by (try simp only [List.map_toArray, List.map_cons, List.map_nil]); first | done | rfl | (simp only [List.length_drop, List.length_take]; rfl)) ?_; (with_reducible refine (terrlaw5_wantsFault.calls kj2 _ _ l0 t202 _ ?side1 ?side2 A13.out).mono ?_); (case side1 => repeat (first | exact (Kd.C_below HR0.out HB.out) | (with_reducible refine Kd.C_alloc ?_ _) | (with_reducible refine Kd.C_drewN ?_ _) | (with_reducible refine Kd.C_drew ?_))); (case side2 => exact HC0.out); rintro e w99 ⟨rfl, hb⟩; refine ⟨_, rfl, ?_⟩; replace HB := Aside0.mk (below_step (by repeat (first | (with_reducible first | exact HB.out | apply below_alloc | apply pw_below_drewN | apply below_drew1) | exact HB.out)) hb); (try clear hb); (try clear hb2); (try clear hk); (try clear hi)) | ((with_reducible refine gate_callee (f := 32) rfl ?_); refine goesL_ (some 29) rfl rfl Try.func32 (by kernel_rfl) rfl #[.slice A0 l0.length c0] rfl (by (try simp only [List.map_toArray, List.map_cons, List.map_nil]); first | done | rfl | (simp only [List.length_drop, List.length_take]; rfl)) ?_; (with_reducible refine (place_Greedy.calls kj2 _ _ l0 t203 t204 t205 _ ?side1 ?side2 A14.out).mono ?_); (case side1 => repeat (first | exact (Kd.C_below HR0.out HB.out) | (with_reducible refine Kd.C_alloc ?_ _) | (with_reducible refine Kd.C_drewN ?_ _) | (with_reducible refine Kd.C_drew ?_))); (case side2 => exact HC0.out); rintro e w100 ⟨v206, rfl, ho0, hb⟩; refine ⟨_, rfl, ?_⟩; have HO207 := Aside0.mk (Kd.R_lower ho0 (below_size (by repeat (first | (with_reducible first | exact HB.out | apply below_alloc | apply pw_below_drewN | apply below_drew1) | exact HB.out)))); replace HB := Aside0.mk (below_step (by repeat (first | (with_reducible first | exact HB.out | apply below_alloc | apply pw_below_drewN | apply below_drew1) | exact HB.out)) hb); (try clear hb); (try clear hb2); (try clear hk); (try clear hi); (try clear ho0); obtain ⟨Ao101, co101, eo101⟩ := Kd.R_slice HO207.out; subst eo101))
        go_ret
        exact ⟨by first | rfl | (simp [errW_none, errW_some] <;> rfl) | (simp [*, errW_none, errW_some] <;> rfl), by repeat (first | (with_reducible first | exact HB.out | apply below_alloc | apply pw_below_drewN | apply below_drew1) | exact HB.out)⟩
      rw [if_pos c15] at H
      have c15b0 : (t202 == 0) = true := beq_iff_eq.mpr c15
      have c15b1 : (t202 != 0) = false := bne_eq_false_iff_eq.mpr c15
      clear c15
      have H' := Aside0.mk H
      clear H
      go_wp2_with (first | ((with_reducible refine gate_callee (f := 25) rfl ?_); refine goesL_ (some 26) rfl rfl Try.func25 (by kernel_rfl) rfl #[.slice A0 l0.length c0] rfl (by (try simp only [List.map_toArray, List.map_cons, List.map_nil]); first | done | rfl | (simp only [List.length_drop, List.length_take]; rfl)) ?_; (with_reducible refine (terrlaw5_wantsFault.calls kj2 _ _ l0 t202 _ ?side1 ?side2 A13.out).mono ?_); (case side1 => repeat (first | exact (Kd.C_below HR0.out HB.out) | (with_reducible refine Kd.C_alloc ?_ _) | (with_reducible refine Kd.C_drewN ?_ _) | (with_reducible refine Kd.C_drew ?_))); (case side2 => exact HC0.out); rintro e w16 ⟨rfl, hb⟩; refine ⟨_, rfl, ?_⟩; replace HB := Aside0.mk (below_step (by repeat (first | (with_reducible first | exact HB.out | apply below_alloc | apply pw_below_drewN | apply below_drew1) | exact HB.out)) hb); (try clear hb); (try clear hb2); (try clear hk); (try clear hi)) | ((with_reducible refine gate_callee (f := 32) rfl ?_); refine goesL_ (some 29) rfl rfl Try.func32 (by kernel_rfl) rfl #[.slice A0 l0.length c0] rfl (by (try simp only [List.map_toArray, List.map_cons, List.map_nil]); first | done | rfl | (simp only [List.length_drop, List.length_take]; rfl)) ?_; (with_reducible refine (place_Greedy.calls kj2 _ _ l0 t203 t204 t205 _ ?side1 ?side2 A14.out).mono ?_); (case side1 => repeat (first | exact (Kd.C_below HR0.out HB.out) | (with_reducible refine Kd.C_alloc ?_ _) | (with_reducible refine Kd.C_drewN ?_ _) | (with_reducible refine Kd.C_drew ?_))); (case side2 => exact HC0.out); rintro e w17 ⟨v206, rfl, ho0, hb⟩; refine ⟨_, rfl, ?_⟩; have HO207 := Aside0.mk (Kd.R_lower ho0 (below_size (by repeat (first | (with_reducible first | exact HB.out | apply below_alloc | apply pw_below_drewN | apply below_drew1) | exact HB.out)))); replace HB := Aside0.mk (below_step (by repeat (first | (with_reducible first | exact HB.out | apply below_alloc | apply pw_below_drewN | apply below_drew1) | exact HB.out)) hb); (try clear hb); (try clear hb2); (try clear hk); (try clear hi); (try clear ho0)))
      go_loopg [9, 10, 49] kj2 (fun kq v9 v10 v49 w' => ∃ (x9_2 : List Int) (x10_2 : Int) (x49_2 : Int), v10 = .int .i64 x10_2 ∧ v49 = .int .i64 x49_2 ∧ Aside0 (terrlaw5_PlaceClears.l0 kq l0 t203 t204 t205 x9_2 x10_2 l0 (l0.length : Int) x49_2 = some r) ∧ Aside0 (kq ≤ kj2) ∧ Aside0 (Kd.R (Kd.int .i64) 3 w' w.heap.size (fun k_ => some k_ ≠ (v9 : Value).ownBlock) v206 t203) ∧ Aside0 (Kd.R (Kd.int .i64) 3 w' w.heap.size (fun k_ => some k_ ≠ (v206 : Value).ownBlock) v9 x9_2) ∧ Aside0 (Below w.heap.size w w'))
      case atStart => exact ⟨(([] : List Int)), (0), (0), (by first | rfl | (simp; done) | (simp [*]; done)), (by first | rfl | (simp; done) | (simp [*]; done)), H', ⟨Nat.le_refl _⟩, ⟨by (with_reducible repeat (first | apply Kd.R_alloc | apply Kd.R_drewN | apply Kd.R_drew)); exact Kd.R_mono HO207.out (fun _ hk => (by simp [Value.ownBlock]))⟩, ⟨by first | exact Kd.R_nil _ _ _ _ _ | exact Kd.N_nil _ _ _ _ _ | exact Kd.V_nil _ _ _ _ _ | exact Kd.Q_nil _ _ _ _ _ | exact Kd.S_nil _ _ _ _ _⟩, ⟨by repeat (first | (with_reducible first | exact HB.out | apply below_alloc | apply pw_below_drewN | apply below_drew1) | exact HB.out)⟩⟩
      case round =>
        clear H'
        try clear c1
        try clear c2
        try clear p2
        try clear c3
        try clear c5
        try clear c6
        try clear c12
        try clear c15
        try clear c15b0
        try clear c15b1
        try clear p2
        obtain ⟨x9_2, x10_2, x49_2, rfl, rfl, HA, HK2, HO_6, HO_9, HB⟩ := hrel
        cases gk with
        | zero => exact absurd HA.out (by simp [terrlaw5_PlaceClears.l0])
        | succ k2 =>
          have H := HA.out
          clear HA
          simp only [terrlaw5_PlaceClears.l0] at H
          by_cases c18 : x49_2 < (l0.length : Int)
          rotate_left
          · rw [if_neg c18] at H
            have c18b0 : decide (x49_2 < (l0.length : Int)) = false := decide_eq_false c18
            clear c18
            by_cases c92 : t205 = 0
            rotate_left
            · rw [if_neg c92] at H
              have c92b0 : (t205 == 0) = false := beq_eq_false_iff_ne.mpr c92
              have c92b1 : (t205 != 0) = true := bne_iff_ne.mpr c92
              exact absurd (H.trans (congrArg some hr)) (by decide)
            rw [if_pos c92] at H
            have c92b0 : (t205 == 0) = true := beq_iff_eq.mpr c92
            have c92b1 : (t205 != 0) = false := bne_eq_false_iff_eq.mpr c92
            clear c92
            by_cases c93 : t204 = x10_2
            rotate_left
            · rw [if_neg c93] at H
              have c93b0 : (t204 == x10_2) = false := beq_eq_false_iff_ne.mpr c93
              have c93b1 : (t204 != x10_2) = true := bne_iff_ne.mpr c93
              exact absurd (H.trans (congrArg some hr)) (by decide)
            rw [if_pos c93] at H
            have c93b0 : (t204 == x10_2) = true := beq_iff_eq.mpr c93
            have c93b1 : (t204 != x10_2) = false := bne_eq_false_iff_eq.mpr c93
            clear c93
            replace H := Option.bind_eq_some_iff.mp H
            obtain ⟨t208, A940, H⟩ := H
            replace H : (some t208) = some r := H
            have A94 := Aside0.mk A940
            clear A940 hr
            obtain rfl := Option.some.inj H
            obtain ⟨Ao95, co95, eo95⟩ := Kd.R_slice HO_6.out
            subst eo95
            obtain ⟨Ao96, co96, eo96⟩ := Kd.R_slice HO_9.out
            subst eo96
            go_wp2_with (first | (go_at_call 22; (with_reducible refine (slices_Equal_int_int.calls k2 _ _ t203 _ _ x9_2 t208 _ ?side1 ?side2 ?side3 ?side4 A94.out).mono ?_); (case side1 => repeat (first | exact (Kd.R_reads' HO_6.out).2.2 | (with_reducible refine Kd.C_alloc ?_ _) | (with_reducible refine Kd.C_drewN ?_ _) | (with_reducible refine Kd.C_drew ?_))); (case side2 => exact (Kd.R_reads' HO_6.out).2.1); (case side3 => repeat (first | exact (Kd.R_reads' HO_9.out).2.2 | (with_reducible refine Kd.C_alloc ?_ _) | (with_reducible refine Kd.C_drewN ?_ _) | (with_reducible refine Kd.C_drew ?_))); (case side4 => exact (Kd.R_reads' HO_9.out).2.1); rintro e w' ⟨rfl, ⟨nd, rfl⟩⟩))
            go_ret
            exact ⟨by first | rfl | (simp [errW_none, errW_some] <;> rfl) | (simp [*, errW_none, errW_some] <;> rfl), by repeat (first | (with_reducible first | exact HB.out | apply below_alloc | apply pw_below_drewN | apply below_drew1) | exact HB.out)⟩
          rw [if_pos c18] at H
          have c18b0 : decide (x49_2 < (l0.length : Int)) = true := decide_eq_true c18
          clear c18
          by_cases c19 : 0 ≤ x49_2
          rotate_left
          · rw [if_neg c19] at H
            exact absurd H (by simp)
          rw [if_pos c19] at H
          have c19b0 : decide (0 ≤ x49_2) = true := decide_eq_true c19
          clear c19
          by_cases c20 : x49_2 < (l0.length : Int)
          rotate_left
          · rw [if_neg c20] at H
            exact absurd H (by simp)
          rw [if_pos c20] at H
          have c20b0 : decide (x49_2 < (l0.length : Int)) = true := decide_eq_true c20
          clear c20
          have H' := Aside0.mk H
          clear H
          have p209 : 0 ≤ (x49_2 : Int) := of_decide_eq_true (by first | (with_reducible assumption) | assumption)
          have q209 : x49_2 < (l0.length : Int) := of_decide_eq_true (by first | (with_reducible assumption) | assumption)
          obtain ⟨ad209, A209_4, c209_4, A209_6, c209_6, e209, hx209_0, hx209_1, hx209_2, hx209_3, hx209_4, hx209_5, hx209_6, hx209_7, hl209_4, hi209_4, hl209_6, hi209_6⟩ := at_T36 HR0.out x49_2 p209 q209
          cases e209
          replace hx209_0 := (HB.out.cell (World.block_lt_of_cell? w _ hx209_0)).trans hx209_0
          replace hx209_1 := (HB.out.cell (World.block_lt_of_cell? w _ hx209_1)).trans hx209_1
          replace hx209_2 := (HB.out.cell (World.block_lt_of_cell? w _ hx209_2)).trans hx209_2
          replace hx209_3 := (HB.out.cell (World.block_lt_of_cell? w _ hx209_3)).trans hx209_3
          replace hx209_4 := (HB.out.cell (World.block_lt_of_cell? w _ hx209_4)).trans hx209_4
          replace hx209_5 := (HB.out.cell (World.block_lt_of_cell? w _ hx209_5)).trans hx209_5
          replace hx209_6 := (HB.out.cell (World.block_lt_of_cell? w _ hx209_6)).trans hx209_6
          replace hx209_7 := (HB.out.cell (World.block_lt_of_cell? w _ hx209_7)).trans hx209_7
          have HR209_4 := Aside0.mk hi209_4
          have HC209_4 := Aside0.mk hl209_4
          clear hi209_4 hl209_4
          have HR209_6 := Aside0.mk hi209_6
          have HC209_6 := Aside0.mk hl209_6
          clear hi209_6 hl209_6
          replace p209 := eq_true p209
          replace q209 := eq_true q209
          go_wp2_with (first | ((with_reducible refine gate_dst (N := 12) rfl ?_); (try (refine gate_guard (by rfl) ?_; dsimp only)); refine box_event ?hg (N := 12) ?hd (cs := #[.int .i64 0, .int .i64 0, .int .i64 0, .int .i64 0, .slice none 0 0, .string (⟨#[]⟩ : ByteArray), .slice none 0 0, .int .i64 0]) (t := 36) ?hr ?_; (case hd => rfl); (case hg => rfl); (case hr => first | (go_simp; done) | (go_simp; rfl)); intro gb210 hg w21 hbox hb; have BK210 := Aside0.mk (hbox); have GW210 := Aside0.mk ((by rw [hg]; exact (below_size (by repeat (first | (with_reducible first | exact HB.out | apply below_alloc | apply pw_below_drewN | apply below_drew1) | exact HB.out))) : w.heap.size ≤ gb210)); have GE210 := Aside0.mk ((by rw [hg]; exact (below_size (by repeat (first | (with_reducible first | exact HB.out | apply below_alloc | apply pw_below_drewN | apply below_drew1) | exact HB.out))) : w.heap.size ≤ gb210)); replace HO_6 := Aside0.mk (Kd.R_below (by (with_reducible repeat (first | apply Kd.R_alloc | apply Kd.R_drewN | apply Kd.R_drew)); exact HO_6.out) hb); replace HO_9 := Aside0.mk (Kd.R_below (by (with_reducible repeat (first | apply Kd.R_alloc | apply Kd.R_drewN | apply Kd.R_drew)); exact HO_9.out) hb); replace HB := Aside0.mk (below_step (by repeat (first | (with_reducible first | exact HB.out | apply below_alloc | apply pw_below_drewN | apply below_drew1) | exact HB.out)) hb); clear hb hbox hg; have hcz22_0 : w21.cell? ⟨gb210, 0, none⟩ = some (.int .i64 0) := (blk_cell BK210.out 0).trans rfl; have hcz22_1 : w21.cell? ⟨gb210, 1, none⟩ = some (.int .i64 0) := (blk_cell BK210.out 1).trans rfl; have hcz22_2 : w21.cell? ⟨gb210, 2, none⟩ = some (.int .i64 0) := (blk_cell BK210.out 2).trans rfl; have hcz22_3 : w21.cell? ⟨gb210, 3, none⟩ = some (.int .i64 0) := (blk_cell BK210.out 3).trans rfl; have hcz22_4 : w21.cell? ⟨gb210, 4, none⟩ = some (.slice none 0 0) := (blk_cell BK210.out 4).trans rfl; have hcz22_5 : w21.cell? ⟨gb210, 5, none⟩ = some (.string (⟨#[]⟩ : ByteArray)) := (blk_cell BK210.out 5).trans rfl; have hcz22_6 : w21.cell? ⟨gb210, 6, none⟩ = some (.slice none 0 0) := (blk_cell BK210.out 6).trans rfl; have hcz22_7 : w21.cell? ⟨gb210, 7, none⟩ = some (.int .i64 0) := (blk_cell BK210.out 7).trans rfl; have hfz22_0 := blk_frozen BK210.out 0; have hfz22_1 := blk_frozen BK210.out 1; have hfz22_2 := blk_frozen BK210.out 2; have hfz22_3 := blk_frozen BK210.out 3; have hfz22_4 := blk_frozen BK210.out 4; have hfz22_5 := blk_frozen BK210.out 5; have hfz22_6 := blk_frozen BK210.out 6; have hfz22_7 := blk_frozen BK210.out 7))
          go_loopg [13] k2 (fun kq v13 w' => ∃ (x13_3 : Int), v13 = .int .i64 x13_3 ∧ Aside0 (terrlaw5_PlaceClears.l1 kq l0 t203 t204 t205 x9_2 x10_2 x49_2 x13_3 l0 (l0.length : Int) x49_2 ((rd_T36 l0 x49_2).f0.f0) ((rd_T36 l0 x49_2).f0.f1) ((rd_T36 l0 x49_2).f0.f2) ((rd_T36 l0 x49_2).f0.f3) ((rd_T36 l0 x49_2).f0.f4) ((rd_T36 l0 x49_2).f0.f5) ((rd_T36 l0 x49_2).f1) ((rd_T36 l0 x49_2).f2) = some r) ∧ Aside0 (kq ≤ k2) ∧ Aside0 (Kd.R (Kd.int .i64) 3 w' w.heap.size (fun k_ => some k_ ≠ (u9 : Value).ownBlock) v206 t203) ∧ Aside0 (Kd.R (Kd.int .i64) 3 w' w.heap.size (fun k_ => some k_ ≠ (v206 : Value).ownBlock) u9 x9_2) ∧ Aside0 (w'.heap[gb210]? = some (.cells #[.int .i64 ((rd_T36 l0 x49_2).f0.f0), .int .i64 ((rd_T36 l0 x49_2).f0.f1), .int .i64 ((rd_T36 l0 x49_2).f0.f2), .int .i64 ((rd_T36 l0 x49_2).f0.f3), (.slice A209_4 ((rd_T36 l0 x49_2).f0.f4).length c209_4), .string ((rd_T36 l0 x49_2).f0.f5), (.slice A209_6 ((rd_T36 l0 x49_2).f1).length c209_6), .int .i64 ((rd_T36 l0 x49_2).f2)] 36 (0, 0))) ∧ Aside0 (Below w.heap.size w w'))
          case atStart => exact ⟨(0), (by first | rfl | (simp; done) | (simp [*]; done)), H', ⟨Nat.le_refl _⟩, ⟨by (with_reducible repeat (first | apply Kd.R_alloc | apply Kd.R_drewN | apply Kd.R_drew)); exact Kd.R_mono (Kd.R_far (p := ⟨gb210, 7, none⟩) (Kd.R_far (p := ⟨gb210, 6, none⟩) (Kd.R_far (p := ⟨gb210, 5, none⟩) (Kd.R_far (p := ⟨gb210, 4, none⟩) (Kd.R_far (p := ⟨gb210, 3, none⟩) (Kd.R_far (p := ⟨gb210, 2, none⟩) (Kd.R_far (p := ⟨gb210, 1, none⟩) (Kd.R_far (p := ⟨gb210, 0, none⟩) (Kd.R_types HO_6.out BK210.out (by decide)) (fun _ hk => hk.2) (.int .i64 ((rd_T36 l0 x49_2).f0.f0))) (fun _ hk => hk.2) (.int .i64 ((rd_T36 l0 x49_2).f0.f1))) (fun _ hk => hk.2) (.int .i64 ((rd_T36 l0 x49_2).f0.f2))) (fun _ hk => hk.2) (.int .i64 ((rd_T36 l0 x49_2).f0.f3))) (fun _ hk => hk.2) (.slice A209_4 ((rd_T36 l0 x49_2).f0.f4).length c209_4)) (fun _ hk => hk.2) (.string ((rd_T36 l0 x49_2).f0.f5))) (fun _ hk => hk.2) (.slice A209_6 ((rd_T36 l0 x49_2).f1).length c209_6)) (fun _ hk => hk.2) (.int .i64 ((rd_T36 l0 x49_2).f2))) (fun _ hk => hk.1)⟩, ⟨by (with_reducible repeat (first | apply Kd.R_alloc | apply Kd.R_drewN | apply Kd.R_drew)); exact Kd.R_mono (Kd.R_far (p := ⟨gb210, 7, none⟩) (Kd.R_far (p := ⟨gb210, 6, none⟩) (Kd.R_far (p := ⟨gb210, 5, none⟩) (Kd.R_far (p := ⟨gb210, 4, none⟩) (Kd.R_far (p := ⟨gb210, 3, none⟩) (Kd.R_far (p := ⟨gb210, 2, none⟩) (Kd.R_far (p := ⟨gb210, 1, none⟩) (Kd.R_far (p := ⟨gb210, 0, none⟩) (Kd.R_types HO_9.out BK210.out (by decide)) (fun _ hk => hk.2) (.int .i64 ((rd_T36 l0 x49_2).f0.f0))) (fun _ hk => hk.2) (.int .i64 ((rd_T36 l0 x49_2).f0.f1))) (fun _ hk => hk.2) (.int .i64 ((rd_T36 l0 x49_2).f0.f2))) (fun _ hk => hk.2) (.int .i64 ((rd_T36 l0 x49_2).f0.f3))) (fun _ hk => hk.2) (.slice A209_4 ((rd_T36 l0 x49_2).f0.f4).length c209_4)) (fun _ hk => hk.2) (.string ((rd_T36 l0 x49_2).f0.f5))) (fun _ hk => hk.2) (.slice A209_6 ((rd_T36 l0 x49_2).f1).length c209_6)) (fun _ hk => hk.2) (.int .i64 ((rd_T36 l0 x49_2).f2))) (fun _ hk => hk.1)⟩, ⟨by (with_reducible repeat (first | refine blk_drewN ?_ _ | refine blk_drew ?_ | refine blk_alloc ?_ _)); refine blk_put (cs := #[.int .i64 ((rd_T36 l0 x49_2).f0.f0), .int .i64 ((rd_T36 l0 x49_2).f0.f1), .int .i64 ((rd_T36 l0 x49_2).f0.f2), .int .i64 ((rd_T36 l0 x49_2).f0.f3), .slice A209_4 ((rd_T36 l0 x49_2).f0.f4).length c209_4, .string ((rd_T36 l0 x49_2).f0.f5), .slice A209_6 ((rd_T36 l0 x49_2).f1).length c209_6, .int .i64 0]) ?_ 7 _ rfl; (with_reducible repeat (first | refine blk_drewN ?_ _ | refine blk_drew ?_ | refine blk_alloc ?_ _)); refine blk_put (cs := #[.int .i64 ((rd_T36 l0 x49_2).f0.f0), .int .i64 ((rd_T36 l0 x49_2).f0.f1), .int .i64 ((rd_T36 l0 x49_2).f0.f2), .int .i64 ((rd_T36 l0 x49_2).f0.f3), .slice A209_4 ((rd_T36 l0 x49_2).f0.f4).length c209_4, .string ((rd_T36 l0 x49_2).f0.f5), .slice none 0 0, .int .i64 0]) ?_ 6 _ rfl; (with_reducible repeat (first | refine blk_drewN ?_ _ | refine blk_drew ?_ | refine blk_alloc ?_ _)); refine blk_put (cs := #[.int .i64 ((rd_T36 l0 x49_2).f0.f0), .int .i64 ((rd_T36 l0 x49_2).f0.f1), .int .i64 ((rd_T36 l0 x49_2).f0.f2), .int .i64 ((rd_T36 l0 x49_2).f0.f3), .slice A209_4 ((rd_T36 l0 x49_2).f0.f4).length c209_4, .string (⟨#[]⟩ : ByteArray), .slice none 0 0, .int .i64 0]) ?_ 5 _ rfl; (with_reducible repeat (first | refine blk_drewN ?_ _ | refine blk_drew ?_ | refine blk_alloc ?_ _)); refine blk_put (cs := #[.int .i64 ((rd_T36 l0 x49_2).f0.f0), .int .i64 ((rd_T36 l0 x49_2).f0.f1), .int .i64 ((rd_T36 l0 x49_2).f0.f2), .int .i64 ((rd_T36 l0 x49_2).f0.f3), .slice none 0 0, .string (⟨#[]⟩ : ByteArray), .slice none 0 0, .int .i64 0]) ?_ 4 _ rfl; (with_reducible repeat (first | refine blk_drewN ?_ _ | refine blk_drew ?_ | refine blk_alloc ?_ _)); refine blk_put (cs := #[.int .i64 ((rd_T36 l0 x49_2).f0.f0), .int .i64 ((rd_T36 l0 x49_2).f0.f1), .int .i64 ((rd_T36 l0 x49_2).f0.f2), .int .i64 0, .slice none 0 0, .string (⟨#[]⟩ : ByteArray), .slice none 0 0, .int .i64 0]) ?_ 3 _ rfl; (with_reducible repeat (first | refine blk_drewN ?_ _ | refine blk_drew ?_ | refine blk_alloc ?_ _)); refine blk_put (cs := #[.int .i64 ((rd_T36 l0 x49_2).f0.f0), .int .i64 ((rd_T36 l0 x49_2).f0.f1), .int .i64 0, .int .i64 0, .slice none 0 0, .string (⟨#[]⟩ : ByteArray), .slice none 0 0, .int .i64 0]) ?_ 2 _ rfl; (with_reducible repeat (first | refine blk_drewN ?_ _ | refine blk_drew ?_ | refine blk_alloc ?_ _)); refine blk_put (cs := #[.int .i64 ((rd_T36 l0 x49_2).f0.f0), .int .i64 0, .int .i64 0, .int .i64 0, .slice none 0 0, .string (⟨#[]⟩ : ByteArray), .slice none 0 0, .int .i64 0]) ?_ 1 _ rfl; (with_reducible repeat (first | refine blk_drewN ?_ _ | refine blk_drew ?_ | refine blk_alloc ?_ _)); refine blk_put (cs := #[.int .i64 0, .int .i64 0, .int .i64 0, .int .i64 0, .slice none 0 0, .string (⟨#[]⟩ : ByteArray), .slice none 0 0, .int .i64 0]) ?_ 0 _ rfl; (with_reducible repeat (first | refine blk_drewN ?_ _ | refine blk_drew ?_ | refine blk_alloc ?_ _)); exact BK210.out⟩, ⟨by repeat (first | (with_reducible first | exact HB.out | apply below_alloc | apply pw_below_drewN | apply below_drew1 | refine below_set ?_ GE210.out) | exact HB.out)⟩⟩
          case round =>
            clear H'
            try clear c1
            try clear c2
            try clear p2
            try clear q2
            try clear hx2
            try clear c3
            try clear c5
            try clear c6
            try clear c12
            try clear c15
            try clear c15b0
            try clear c15b1
            try clear c18
            try clear c18b0
            try clear c19
            try clear c19b0
            try clear c20
            try clear c20b0
            try clear p20
            try clear q20
            try clear hx20
            try clear hcz22_0
            try clear hcz22_1
            try clear hcz22_2
            try clear hcz22_3
            try clear hcz22_4
            try clear hcz22_5
            try clear hcz22_6
            try clear hcz22_7
            try clear hfz22_0
            try clear hfz22_1
            try clear hfz22_2
            try clear hfz22_3
            try clear hfz22_4
            try clear hfz22_5
            try clear hfz22_6
            try clear hfz22_7
            try clear hx209_0
            try clear hx209_1
            try clear hx209_2
            try clear hx209_3
            try clear hx209_4
            try clear hx209_5
            try clear hx209_6
            try clear hx209_7
            try clear p2
            try clear p209
            try clear q209
            obtain ⟨x13_3, rfl, HA, HK3, HO_6, HO_9, BK210, HB⟩ := hrel
            cases gk with
            | zero => exact absurd HA.out (by simp [terrlaw5_PlaceClears.l1])
            | succ k3 =>
              have H := HA.out
              clear HA
              simp only [terrlaw5_PlaceClears.l1] at H
              by_cases c23 : x13_3 < (((rd_T36 l0 x49_2).f1).length : Int)
              rotate_left
              · rw [if_neg c23] at H
                have c23b0 : decide (x13_3 < (((rd_T36 l0 x49_2).f1).length : Int)) = false := decide_eq_false c23
                clear c23
                by_cases c77 : x13_3 = (((rd_T36 l0 x49_2).f1).length : Int)
                · rw [if_pos c77] at H
                  have c77b0 : (x13_3 == (((rd_T36 l0 x49_2).f1).length : Int)) = true := beq_iff_eq.mpr c77
                  have c77b1 : (x13_3 != (((rd_T36 l0 x49_2).f1).length : Int)) = false := bne_eq_false_iff_eq.mpr c77
                  clear c77
                  obtain ⟨y237, hy237⟩ : ∃ y_ : List Int, y_ = (([(-1)] : List Int)) := ⟨_, rfl⟩
                  replace H : (if x9_2.length + y237.length < 17592186044416 then (terrlaw5_PlaceClears.l0 k3 l0 t203 t204 t205 (x9_2 ++ y237) x10_2 l0 (l0.length : Int) (wrap64 (x49_2 + 1))) else (none)) = some r := by first | (rw [hy237]; with_reducible exact H) | (have H2_ := (Option.bind_some _ _).symm.trans H; rw [hy237]; with_reducible exact H2_) | (have H2_ := (Option.bind_some _ _).symm.trans H; with_reducible exact H2_) | with_reducible exact H | (rw [hy237]; exact H) | exact H
                  have Ny237 := Aside0.mk hy237
                  clear hy237
                  by_cases c78 : x9_2.length + y237.length < 17592186044416
                  rotate_left
                  · rw [if_neg c78] at H
                    exact absurd H (by simp)
                  rw [if_pos c78] at H
                  have LMc78 := Aside0.mk c78
                  clear c78
                  obtain ⟨y240, hy240⟩ : ∃ y_ : List Int, y_ = (x9_2 ++ y237) := ⟨_, rfl⟩
                  replace H : (terrlaw5_PlaceClears.l0 k3 l0 t203 t204 t205 y240 x10_2 l0 (l0.length : Int) (wrap64 (x49_2 + 1))) = some r := by first | (rw [hy240]; with_reducible exact H) | (have H2_ := (Option.bind_some _ _).symm.trans H; rw [hy240]; with_reducible exact H2_) | (have H2_ := (Option.bind_some _ _).symm.trans H; with_reducible exact H2_) | with_reducible exact H | (rw [hy240]; exact H) | exact H
                  have Ny240 := Aside0.mk hy240
                  clear hy240
                  have H' := Aside0.mk H
                  clear H
                  try go_wp2
                  replace HO_6 := Aside0.mk (Kd.R_drew HO_6.out)
                  replace HO_9 := Aside0.mk (Kd.R_drew HO_9.out)
                  replace BK210 := Aside0.mk (blk_drew BK210.out)
                  replace HB := Aside0.mk (below_drew1 HB.out)
                  refine start_ (n := 18) (S := fun w' => w'.cell? ⟨gb210, 0, none⟩ = some (.int .i64 ((rd_T36 l0 x49_2).f0.f0)) ∧ w'.cell? ⟨gb210, 1, none⟩ = some (.int .i64 ((rd_T36 l0 x49_2).f0.f1)) ∧ w'.cell? ⟨gb210, 2, none⟩ = some (.int .i64 ((rd_T36 l0 x49_2).f0.f2)) ∧ w'.cell? ⟨gb210, 3, none⟩ = some (.int .i64 ((rd_T36 l0 x49_2).f0.f3)) ∧ w'.cell? ⟨gb210, 4, none⟩ = some (.slice A209_4 ((rd_T36 l0 x49_2).f0.f4).length c209_4) ∧ w'.cell? ⟨gb210, 5, none⟩ = some (.string ((rd_T36 l0 x49_2).f0.f5)) ∧ w'.cell? ⟨gb210, 6, none⟩ = some (.slice A209_6 ((rd_T36 l0 x49_2).f1).length c209_6) ∧ w'.cell? ⟨gb210, 7, none⟩ = some (.int .i64 ((rd_T36 l0 x49_2).f2))) (ds := []) (bA 18 0) (by kernel_rfl) rfl rfl ⟨(blk_cell BK210.out 0).trans rfl, (blk_cell BK210.out 1).trans rfl, (blk_cell BK210.out 2).trans rfl, (blk_cell BK210.out 3).trans rfl, (blk_cell BK210.out 4).trans rfl, (blk_cell BK210.out 5).trans rfl, (blk_cell BK210.out 6).trans rfl, (blk_cell BK210.out 7).trans rfl⟩ (fun hHeld => ?_); refine with_tabW terrlaw5_PlaceClears.tab13 terrlaw5_PlaceClears.bits13 (fun HT_ HW_ => ?_)
                  generalize wr.drew = w79 at HO_6 HO_9 BK210 HB hHeld ⊢
                  refine pure_ (i := 0) (N := some 54) (v := ?_) (a' := ?_) (bA 18 1) rfl rfl (any_of HT_.out (by kernel_rfl)) (fun _ _ _ h => h) (Or.inl ⟨by rfl, ?_⟩) ?_ ?_
                  rotate_left
                  · intro w'
                    go_simp
                    with_reducible rfl
                  rotate_left
                  · simp only [Act.put, List.setIfInBounds_toArray, List.set_cons_zero, List.set_cons_succ, i64_w, i32_w]
                    rfl
                  refine pure_ (i := 1) (N := some 55) (v := ?_) (a' := ?_) (bA 18 3) rfl rfl (any_of HT_.out (by kernel_rfl)) (fun _ _ _ h => h) (Or.inl ⟨by rfl, ?_⟩) ?_ ?_
                  rotate_left
                  · intro w'
                    go_simp
                    with_reducible rfl
                  rotate_left
                  · simp only [Act.put, List.setIfInBounds_toArray, List.set_cons_zero, List.set_cons_succ, i64_w, i32_w]
                    rfl
                  refine take_ (i := 2) (N := some 56) (v := ?_) (a' := ?_) (bA 18 7) rfl rfl (take_ofW HT_.out HW_.out (by kernel_rfl)) (fun _ _ _ h => h) (Or.inl ⟨by rfl, ?_⟩) hHeld ?_ ?_
                  rotate_left
                  · rintro w' ⟨s0, s1, s2, s3, s4, s5, s6, s7⟩
                    go_simp
                    with_reducible rfl
                  rotate_left
                  · simp only [Act.put, List.setIfInBounds_toArray, List.set_cons_zero, List.set_cons_succ, i64_w, i32_w]
                    rfl
                  refine pure_ (i := 3) (N := some 57) (v := ?_) (a' := ?_) (bA 18 15) rfl rfl (any_of HT_.out (by kernel_rfl)) (fun _ _ _ h => h) (Or.inl ⟨by rfl, ?_⟩) ?_ ?_
                  rotate_left
                  · intro w'
                    go_simp
                    with_reducible rfl
                  rotate_left
                  · simp only [Act.put, List.setIfInBounds_toArray, List.set_cons_zero, List.set_cons_succ, i64_w, i32_w]
                    rfl
                  refine pure_ (i := 4) (N := some 58) (v := ?_) (a' := ?_) (bA 18 31) rfl rfl (any_of HT_.out (by kernel_rfl)) (fun _ _ _ h => h) (Or.inl ⟨by rfl, ?_⟩) ?_ ?_
                  rotate_left
                  · intro w'
                    go_simp
                    with_reducible rfl
                  rotate_left
                  · simp only [Act.put, List.setIfInBounds_toArray, List.set_cons_zero, List.set_cons_succ, i64_w, i32_w]
                    rfl
                  refine pure_ (i := 5) (N := some 59) (v := ?_) (a' := ?_) (bA 18 63) rfl rfl (any_of HT_.out (by kernel_rfl)) (fun _ _ _ h => h) (Or.inl ⟨by rfl, ?_⟩) ?_ ?_
                  rotate_left
                  · intro w'
                    go_simp
                    with_reducible rfl
                  rotate_left
                  · simp only [Act.put, List.setIfInBounds_toArray, List.set_cons_zero, List.set_cons_succ, i64_w, i32_w]
                    rfl
                  refine pure_ (i := 6) (N := some 60) (v := undef) (a' := ?_) (bA 18 127) rfl rfl (any_of HT_.out (by kernel_rfl)) (fun _ _ _ h => h) (Or.inr ⟨by rfl, rfl⟩) ?_ ?_
                  rotate_left
                  · simp only [Act.put, List.setIfInBounds_toArray, List.set_cons_zero, List.set_cons_succ, i64_w, i32_w]
                    rfl
                  refine pure_ (i := 7) (N := some 61) (v := undef) (a' := ?_) (bA 18 255) rfl rfl (any_of HT_.out (by kernel_rfl)) (fun _ _ _ h => h) (Or.inr ⟨by rfl, rfl⟩) ?_ ?_
                  rotate_left
                  · simp only [Act.put, List.setIfInBounds_toArray, List.set_cons_zero, List.set_cons_succ, i64_w, i32_w]
                    rfl
                  refine pure_ (i := 8) (N := some 62) (v := undef) (a' := ?_) (bA 18 511) rfl rfl (any_of HT_.out (by kernel_rfl)) (fun _ _ _ h => h) (Or.inr ⟨by rfl, rfl⟩) ?_ ?_
                  rotate_left
                  · simp only [Act.put, List.setIfInBounds_toArray, List.set_cons_zero, List.set_cons_succ, i64_w, i32_w]
                    rfl
                  refine pure_ (i := 9) (N := some 63) (v := undef) (a' := ?_) (bA 18 1023) rfl rfl (any_of HT_.out (by kernel_rfl)) (fun _ _ _ h => h) (Or.inr ⟨by rfl, rfl⟩) ?_ ?_
                  rotate_left
                  · simp only [Act.put, List.setIfInBounds_toArray, List.set_cons_zero, List.set_cons_succ, i64_w, i32_w]
                    rfl
                  refine pure_ (i := 10) (N := some 64) (v := undef) (a' := ?_) (bA 18 2047) rfl rfl (any_of HT_.out (by kernel_rfl)) (fun _ _ _ h => h) (Or.inr ⟨by rfl, rfl⟩) ?_ ?_
                  rotate_left
                  · simp only [Act.put, List.setIfInBounds_toArray, List.set_cons_zero, List.set_cons_succ, i64_w, i32_w]
                    rfl
                  refine pure_ (i := 11) (N := some 65) (v := undef) (a' := ?_) (bA 18 4095) rfl rfl (any_of HT_.out (by kernel_rfl)) (fun _ _ _ h => h) (Or.inr ⟨by rfl, rfl⟩) ?_ ?_
                  rotate_left
                  · simp only [Act.put, List.setIfInBounds_toArray, List.set_cons_zero, List.set_cons_succ, i64_w, i32_w]
                    rfl
                  refine pure_ (i := 12) (N := some 66) (v := undef) (a' := ?_) (bA 18 8191) rfl rfl (any_of HT_.out (by kernel_rfl)) (fun _ _ _ h => h) (Or.inr ⟨by rfl, rfl⟩) ?_ ?_
                  rotate_left
                  · simp only [Act.put, List.setIfInBounds_toArray, List.set_cons_zero, List.set_cons_succ, i64_w, i32_w]
                    rfl
                  refine pure_ (i := 13) (N := some 67) (v := undef) (a' := ?_) (bA 18 16383) rfl rfl (any_of HT_.out (by kernel_rfl)) (fun _ _ _ h => h) (Or.inr ⟨by rfl, rfl⟩) ?_ ?_
                  rotate_left
                  · simp only [Act.put, List.setIfInBounds_toArray, List.set_cons_zero, List.set_cons_succ, i64_w, i32_w]
                    rfl
                  refine pure_ (i := 14) (N := some 68) (v := undef) (a' := ?_) (bA 18 32767) rfl rfl (any_of HT_.out (by kernel_rfl)) (fun _ _ _ h => h) (Or.inr ⟨by rfl, rfl⟩) ?_ ?_
                  rotate_left
                  · simp only [Act.put, List.setIfInBounds_toArray, List.set_cons_zero, List.set_cons_succ, i64_w, i32_w]
                    rfl
                  refine pure_ (i := 15) (N := some 69) (v := undef) (a' := ?_) (bA 18 65535) rfl rfl (any_of HT_.out (by kernel_rfl)) (fun _ _ _ h => h) (Or.inr ⟨by rfl, rfl⟩) ?_ ?_
                  rotate_left
                  · simp only [Act.put, List.setIfInBounds_toArray, List.set_cons_zero, List.set_cons_succ, i64_w, i32_w]
                    rfl
                  refine pure_ (i := 16) (N := some 70) (v := undef) (a' := ?_) (bA 18 131071) rfl rfl (any_of HT_.out (by kernel_rfl)) (fun _ _ _ h => h) (Or.inr ⟨by rfl, rfl⟩) ?_ ?_
                  rotate_left
                  · simp only [Act.put, List.setIfInBounds_toArray, List.set_cons_zero, List.set_cons_succ, i64_w, i32_w]
                    rfl
                  refine pure_ (i := 17) (N := some 71) (v := ?_) (a' := ?_) (bA 18 262143) rfl rfl (any_of HT_.out (by kernel_rfl)) (fun _ _ _ h => h) (Or.inl ⟨by rfl, ?_⟩) ?_ ?_
                  rotate_left
                  · intro w'
                    go_simp
                    with_reducible rfl
                  rotate_left
                  · simp only [Act.put, List.setIfInBounds_toArray, List.set_cons_zero, List.set_cons_succ, i64_w, i32_w]
                    rfl
                  refine done_ (done_of HT_.out (by kernel_rfl)) ?_
                  have hcz80_0 : w79.cell? ⟨gb210, 0, none⟩ = some (.int .i64 ((rd_T36 l0 x49_2).f0.f0)) := (blk_cell BK210.out 0).trans rfl
                  have hcz80_1 : w79.cell? ⟨gb210, 1, none⟩ = some (.int .i64 ((rd_T36 l0 x49_2).f0.f1)) := (blk_cell BK210.out 1).trans rfl
                  have hcz80_2 : w79.cell? ⟨gb210, 2, none⟩ = some (.int .i64 ((rd_T36 l0 x49_2).f0.f2)) := (blk_cell BK210.out 2).trans rfl
                  have hcz80_3 : w79.cell? ⟨gb210, 3, none⟩ = some (.int .i64 ((rd_T36 l0 x49_2).f0.f3)) := (blk_cell BK210.out 3).trans rfl
                  have hcz80_4 : w79.cell? ⟨gb210, 4, none⟩ = some (.slice A209_4 ((rd_T36 l0 x49_2).f0.f4).length c209_4) := (blk_cell BK210.out 4).trans rfl
                  have hcz80_5 : w79.cell? ⟨gb210, 5, none⟩ = some (.string ((rd_T36 l0 x49_2).f0.f5)) := (blk_cell BK210.out 5).trans rfl
                  have hcz80_6 : w79.cell? ⟨gb210, 6, none⟩ = some (.slice A209_6 ((rd_T36 l0 x49_2).f1).length c209_6) := (blk_cell BK210.out 6).trans rfl
                  have hcz80_7 : w79.cell? ⟨gb210, 7, none⟩ = some (.int .i64 ((rd_T36 l0 x49_2).f2)) := (blk_cell BK210.out 7).trans rfl
                  have hfz80_0 := blk_frozen BK210.out 0
                  have hfz80_1 := blk_frozen BK210.out 1
                  have hfz80_2 := blk_frozen BK210.out 2
                  have hfz80_3 := blk_frozen BK210.out 3
                  have hfz80_4 := blk_frozen BK210.out 4
                  have hfz80_5 := blk_frozen BK210.out 5
                  have hfz80_6 := blk_frozen BK210.out 6
                  have hfz80_7 := blk_frozen BK210.out 7
                  try go_wp2_with (first | ((with_reducible refine gate_dst (N := 85) rfl ?_); (try (refine gate_guard (by rfl) ?_; dsimp only)); refine Kd.R_lit (Kd.int .i64) _ 3 ?hg (N := 85) ?hd (xs := ([(-1)] : List Int)) (inner := [.int .i64 (-1)]) (ok := fun _ => True) (okp := fun _ => True) ?hr ?hp (fun _ hk => hk) trivial (Below.refl _ _) (Nat.le_refl _) (by simp) ?_; (case hd => rfl); (case hg => rfl); (case hr => first | (go_simp; done) | (go_simp; rfl)); (case hp => exact (Reps.one (show Kd.M (Kd.int .i64) _ _ _ (-1) [.int .i64 (-1)] from rfl) (Reps.none _ _))); intro v238 w81 ho82 hb hg_ hnew_; clear hg_ hnew_; (first | rw [← Ny237.out] at ho82 | (simp only [Int.reduceToNat] at ho82; rw [← Ny237.out] at ho82)); have HO239 := Aside0.mk (Kd.R_lower (Kd.R_new' (Kd.R_new' ho82 (Kd.R_lt (by (with_reducible repeat (first | apply Kd.R_alloc | apply Kd.R_drewN | apply Kd.R_drew)); exact HO_6.out))) (Kd.R_lt (by (with_reducible repeat (first | apply Kd.R_alloc | apply Kd.R_drewN | apply Kd.R_drew)); exact HO_9.out))) (below_size (by repeat (first | (with_reducible first | exact HB.out | apply below_alloc | apply pw_below_drewN | apply below_drew1 | refine below_set ?_ GE210.out) | exact HB.out)))); replace HO_6 := Aside0.mk (Kd.R_elder' (by (with_reducible repeat (first | apply Kd.R_alloc | apply Kd.R_drewN | apply Kd.R_drew)); exact HO_6.out) (Kd.R_base ho82) hb); replace HO_9 := Aside0.mk (Kd.R_elder' (by (with_reducible repeat (first | apply Kd.R_alloc | apply Kd.R_drewN | apply Kd.R_drew)); exact HO_9.out) (Kd.R_base ho82) hb); replace BK210 := Aside0.mk (blk_below (g := gb210) (o := .cells #[.int .i64 ((rd_T36 l0 x49_2).f0.f0), .int .i64 ((rd_T36 l0 x49_2).f0.f1), .int .i64 ((rd_T36 l0 x49_2).f0.f2), .int .i64 ((rd_T36 l0 x49_2).f0.f3), .slice A209_4 ((rd_T36 l0 x49_2).f0.f4).length c209_4, .string ((rd_T36 l0 x49_2).f0.f5), .slice A209_6 ((rd_T36 l0 x49_2).f1).length c209_6, .int .i64 ((rd_T36 l0 x49_2).f2)] 36 (0, 0)) (by (with_reducible repeat (first | refine blk_drewN ?_ _ | refine blk_drew ?_ | refine blk_alloc ?_ _)); exact BK210.out) hb); replace HB := Aside0.mk (below_step (by repeat (first | (with_reducible first | exact HB.out | apply below_alloc | apply pw_below_drewN | apply below_drew1 | refine below_set ?_ GE210.out) | exact HB.out)) hb); clear hb ho82; obtain ⟨Ao84, co84, eo84⟩ := Kd.R_slice HO239.out; subst eo84) | ((with_reducible refine gate_builtin (b := .append) (xs := #[.tmp 83, .tmp 85]) rfl ?_); (try (refine gate_guard (by rfl) ?_; dsimp only)); at_builtin; refine Kd.R_append_rows (Kd.int .i64) (w0 := w) w.heap.size rfl (.tmp 83) (.tmp 85) 22 3 (.int .i64 0) 8 rfl Try.underlying22 info3 rfl (by decide) (by omega) u9 x9_2 y237 _ _ _ (fun k_ => some k_ ≠ (v206 : Value).ownBlock ∧ some k_ ≠ (.slice Ao84 y237.length co84 : Value).ownBlock) (fun _ => False) rfl rfl ?aO ?aR (fun _ _ h => h) (fun _ h => h.elim) ?aF ?aB ?aS ?aL ?_; (case aR => repeat (first | exact (Kd.R_reads' HO239.out).2.2 | (with_reducible refine Kd.C_alloc ?_ _) | (with_reducible refine Kd.C_drewN ?_ _) | (with_reducible refine Kd.C_drew ?_))); (case aB => exact (by repeat (first | (with_reducible first | exact HB.out | apply below_alloc | apply pw_below_drewN | apply below_drew1 | refine below_set ?_ GE210.out) | exact HB.out))); (case aF => exact (fun k_ hk => ⟨Kd.fresh' (Kd.R_lt (by (with_reducible repeat (first | apply Kd.R_alloc | apply Kd.R_drewN | apply Kd.R_drew)); exact HO_6.out)) k_ hk, Kd.fresh' (Kd.R_lt (by (with_reducible repeat (first | apply Kd.R_alloc | apply Kd.R_drewN | apply Kd.R_drew)); exact HO239.out)) k_ hk⟩)); (case aO => exact (by (with_reducible repeat (first | apply Kd.R_alloc | apply Kd.R_drewN | apply Kd.R_drew)); exact HO_9.out)); (case aS => exact (below_size (by repeat (first | (with_reducible first | exact HB.out | apply below_alloc | apply pw_below_drewN | apply below_drew1 | refine below_set ?_ GE210.out) | exact HB.out)))); (case aL => have := LMc78.out; omega); intro v241 w83 ho hb hg hat; rw [← Ny240.out] at ho; have HO242 := Aside0.mk (ho); replace HO_6 := Aside0.mk (Kd.R_after (ok := (fun k_ => some k_ ≠ (.slice Ao84 y237.length co84 : Value).ownBlock)) (by (with_reducible repeat (first | apply Kd.R_alloc | apply Kd.R_drewN | apply Kd.R_drew)); exact Kd.R_mono HO_6.out (fun _ hk => ⟨hk.2, hk.1⟩)) hg hat); replace BK210 := Aside0.mk (blk_grown (g := gb210) (o := .cells #[.int .i64 ((rd_T36 l0 x49_2).f0.f0), .int .i64 ((rd_T36 l0 x49_2).f0.f1), .int .i64 ((rd_T36 l0 x49_2).f0.f2), .int .i64 ((rd_T36 l0 x49_2).f0.f3), .slice A209_4 ((rd_T36 l0 x49_2).f0.f4).length c209_4, .string ((rd_T36 l0 x49_2).f0.f5), .slice A209_6 ((rd_T36 l0 x49_2).f1).length c209_6, .int .i64 ((rd_T36 l0 x49_2).f2)] 36 (0, 0)) (by (with_reducible repeat (first | refine blk_drewN ?_ _ | refine blk_drew ?_ | refine blk_alloc ?_ _)); exact BK210.out) hg (Kd.R_ne HO_9.out BK210.out (by decide))); replace HO239 := Aside0.mk (Kd.R_after (ok := (fun k_ => some k_ ≠ (v206 : Value).ownBlock)) (by (with_reducible repeat (first | apply Kd.R_alloc | apply Kd.R_drewN | apply Kd.R_drew)); exact Kd.R_mono HO239.out (fun _ hk => ⟨hk.1.2, hk.2⟩)) hg hat); replace HB := Aside0.mk (hb); clear HO_9 ho hb hg hat))
                  go_roundg k3
                  case measure => have := HJ2.out; have := HK2.out; have := HK3.out; omega
                  case rel => exact ⟨(y240), (x10_2), (wrap64 (x49_2 + 1)), (by first | rfl | (simp; done) | (simp [*]; done)), (by first | rfl | (simp; done) | (simp [*]; done)), H', ⟨by have := HJ2.out; have := HK2.out; have := HK3.out; omega⟩, ⟨by (with_reducible repeat (first | apply Kd.R_alloc | apply Kd.R_drewN | apply Kd.R_drew)); exact Kd.R_mono HO_6.out (fun _ hk => hk.2)⟩, ⟨by (with_reducible repeat (first | apply Kd.R_alloc | apply Kd.R_drewN | apply Kd.R_drew)); exact Kd.R_mono HO242.out (fun _ hk => hk.1)⟩, ⟨by repeat (first | (with_reducible first | exact HB.out | apply below_alloc | apply pw_below_drewN | apply below_drew1 | refine below_set ?_ GE210.out) | exact HB.out)⟩⟩
                rw [if_neg c77] at H
                have c77b0 : (x13_3 == (((rd_T36 l0 x49_2).f1).length : Int)) = false := beq_eq_false_iff_ne.mpr c77
                have c77b1 : (x13_3 != (((rd_T36 l0 x49_2).f1).length : Int)) = true := bne_iff_ne.mpr c77
                obtain ⟨y243, hy243⟩ : ∃ y_ : List Int, y_ = (([x13_3] : List Int)) := ⟨_, rfl⟩
                replace H : (if x9_2.length + y243.length < 17592186044416 then (terrlaw5_PlaceClears.l0 k3 l0 t203 t204 t205 (x9_2 ++ y243) (wrap64 (x10_2 + ((rd_T36 l0 x49_2).f2))) l0 (l0.length : Int) (wrap64 (x49_2 + 1))) else (none)) = some r := by first | (rw [hy243]; with_reducible exact H) | (have H2_ := (Option.bind_some _ _).symm.trans H; rw [hy243]; with_reducible exact H2_) | (have H2_ := (Option.bind_some _ _).symm.trans H; with_reducible exact H2_) | with_reducible exact H | (rw [hy243]; exact H) | exact H
                have Ny243 := Aside0.mk hy243
                clear hy243
                by_cases c85 : x9_2.length + y243.length < 17592186044416
                rotate_left
                · rw [if_neg c85] at H
                  exact absurd H (by simp)
                rw [if_pos c85] at H
                have LMc85 := Aside0.mk c85
                clear c85
                obtain ⟨y246, hy246⟩ : ∃ y_ : List Int, y_ = (x9_2 ++ y243) := ⟨_, rfl⟩
                replace H : (terrlaw5_PlaceClears.l0 k3 l0 t203 t204 t205 y246 (wrap64 (x10_2 + ((rd_T36 l0 x49_2).f2))) l0 (l0.length : Int) (wrap64 (x49_2 + 1))) = some r := by first | (rw [hy246]; with_reducible exact H) | (have H2_ := (Option.bind_some _ _).symm.trans H; rw [hy246]; with_reducible exact H2_) | (have H2_ := (Option.bind_some _ _).symm.trans H; with_reducible exact H2_) | with_reducible exact H | (rw [hy246]; exact H) | exact H
                have Ny246 := Aside0.mk hy246
                clear hy246
                have H' := Aside0.mk H
                clear H
                try go_wp2
                replace HO_6 := Aside0.mk (Kd.R_drew HO_6.out)
                replace HO_9 := Aside0.mk (Kd.R_drew HO_9.out)
                replace BK210 := Aside0.mk (blk_drew BK210.out)
                replace HB := Aside0.mk (below_drew1 HB.out)
                refine start_ (n := 18) (S := fun w' => w'.cell? ⟨gb210, 0, none⟩ = some (.int .i64 ((rd_T36 l0 x49_2).f0.f0)) ∧ w'.cell? ⟨gb210, 1, none⟩ = some (.int .i64 ((rd_T36 l0 x49_2).f0.f1)) ∧ w'.cell? ⟨gb210, 2, none⟩ = some (.int .i64 ((rd_T36 l0 x49_2).f0.f2)) ∧ w'.cell? ⟨gb210, 3, none⟩ = some (.int .i64 ((rd_T36 l0 x49_2).f0.f3)) ∧ w'.cell? ⟨gb210, 4, none⟩ = some (.slice A209_4 ((rd_T36 l0 x49_2).f0.f4).length c209_4) ∧ w'.cell? ⟨gb210, 5, none⟩ = some (.string ((rd_T36 l0 x49_2).f0.f5)) ∧ w'.cell? ⟨gb210, 6, none⟩ = some (.slice A209_6 ((rd_T36 l0 x49_2).f1).length c209_6) ∧ w'.cell? ⟨gb210, 7, none⟩ = some (.int .i64 ((rd_T36 l0 x49_2).f2))) (ds := []) (bA 18 0) (by kernel_rfl) rfl rfl ⟨(blk_cell BK210.out 0).trans rfl, (blk_cell BK210.out 1).trans rfl, (blk_cell BK210.out 2).trans rfl, (blk_cell BK210.out 3).trans rfl, (blk_cell BK210.out 4).trans rfl, (blk_cell BK210.out 5).trans rfl, (blk_cell BK210.out 6).trans rfl, (blk_cell BK210.out 7).trans rfl⟩ (fun hHeld => ?_); refine with_tabW terrlaw5_PlaceClears.tab13 terrlaw5_PlaceClears.bits13 (fun HT_ HW_ => ?_)
                generalize wr.drew = w86 at HO_6 HO_9 BK210 HB hHeld ⊢
                refine pure_ (i := 0) (N := some 54) (v := ?_) (a' := ?_) (bA 18 1) rfl rfl (any_of HT_.out (by kernel_rfl)) (fun _ _ _ h => h) (Or.inl ⟨by rfl, ?_⟩) ?_ ?_
                rotate_left
                · intro w'
                  go_simp
                  with_reducible rfl
                rotate_left
                · simp only [Act.put, List.setIfInBounds_toArray, List.set_cons_zero, List.set_cons_succ, i64_w, i32_w]
                  rfl
                refine pure_ (i := 1) (N := some 55) (v := ?_) (a' := ?_) (bA 18 3) rfl rfl (any_of HT_.out (by kernel_rfl)) (fun _ _ _ h => h) (Or.inl ⟨by rfl, ?_⟩) ?_ ?_
                rotate_left
                · intro w'
                  go_simp
                  with_reducible rfl
                rotate_left
                · simp only [Act.put, List.setIfInBounds_toArray, List.set_cons_zero, List.set_cons_succ, i64_w, i32_w]
                  rfl
                refine take_ (i := 2) (N := some 56) (v := ?_) (a' := ?_) (bA 18 7) rfl rfl (take_ofW HT_.out HW_.out (by kernel_rfl)) (fun _ _ _ h => h) (Or.inl ⟨by rfl, ?_⟩) hHeld ?_ ?_
                rotate_left
                · rintro w' ⟨s0, s1, s2, s3, s4, s5, s6, s7⟩
                  go_simp
                  with_reducible rfl
                rotate_left
                · simp only [Act.put, List.setIfInBounds_toArray, List.set_cons_zero, List.set_cons_succ, i64_w, i32_w]
                  rfl
                refine pure_ (i := 3) (N := some 57) (v := ?_) (a' := ?_) (bA 18 15) rfl rfl (any_of HT_.out (by kernel_rfl)) (fun _ _ _ h => h) (Or.inl ⟨by rfl, ?_⟩) ?_ ?_
                rotate_left
                · intro w'
                  go_simp
                  with_reducible rfl
                rotate_left
                · simp only [Act.put, List.setIfInBounds_toArray, List.set_cons_zero, List.set_cons_succ, i64_w, i32_w]
                  rfl
                refine pure_ (i := 4) (N := some 58) (v := ?_) (a' := ?_) (bA 18 31) rfl rfl (any_of HT_.out (by kernel_rfl)) (fun _ _ _ h => h) (Or.inl ⟨by rfl, ?_⟩) ?_ ?_
                rotate_left
                · intro w'
                  go_simp
                  with_reducible rfl
                rotate_left
                · simp only [Act.put, List.setIfInBounds_toArray, List.set_cons_zero, List.set_cons_succ, i64_w, i32_w]
                  rfl
                refine pure_ (i := 5) (N := some 59) (v := ?_) (a' := ?_) (bA 18 63) rfl rfl (any_of HT_.out (by kernel_rfl)) (fun _ _ _ h => h) (Or.inl ⟨by rfl, ?_⟩) ?_ ?_
                rotate_left
                · intro w'
                  go_simp
                  with_reducible rfl
                rotate_left
                · simp only [Act.put, List.setIfInBounds_toArray, List.set_cons_zero, List.set_cons_succ, i64_w, i32_w]
                  rfl
                refine pure_ (i := 6) (N := some 60) (v := undef) (a' := ?_) (bA 18 127) rfl rfl (any_of HT_.out (by kernel_rfl)) (fun _ _ _ h => h) (Or.inr ⟨by rfl, rfl⟩) ?_ ?_
                rotate_left
                · simp only [Act.put, List.setIfInBounds_toArray, List.set_cons_zero, List.set_cons_succ, i64_w, i32_w]
                  rfl
                refine pure_ (i := 7) (N := some 61) (v := undef) (a' := ?_) (bA 18 255) rfl rfl (any_of HT_.out (by kernel_rfl)) (fun _ _ _ h => h) (Or.inr ⟨by rfl, rfl⟩) ?_ ?_
                rotate_left
                · simp only [Act.put, List.setIfInBounds_toArray, List.set_cons_zero, List.set_cons_succ, i64_w, i32_w]
                  rfl
                refine pure_ (i := 8) (N := some 62) (v := undef) (a' := ?_) (bA 18 511) rfl rfl (any_of HT_.out (by kernel_rfl)) (fun _ _ _ h => h) (Or.inr ⟨by rfl, rfl⟩) ?_ ?_
                rotate_left
                · simp only [Act.put, List.setIfInBounds_toArray, List.set_cons_zero, List.set_cons_succ, i64_w, i32_w]
                  rfl
                refine pure_ (i := 9) (N := some 63) (v := undef) (a' := ?_) (bA 18 1023) rfl rfl (any_of HT_.out (by kernel_rfl)) (fun _ _ _ h => h) (Or.inr ⟨by rfl, rfl⟩) ?_ ?_
                rotate_left
                · simp only [Act.put, List.setIfInBounds_toArray, List.set_cons_zero, List.set_cons_succ, i64_w, i32_w]
                  rfl
                refine pure_ (i := 10) (N := some 64) (v := undef) (a' := ?_) (bA 18 2047) rfl rfl (any_of HT_.out (by kernel_rfl)) (fun _ _ _ h => h) (Or.inr ⟨by rfl, rfl⟩) ?_ ?_
                rotate_left
                · simp only [Act.put, List.setIfInBounds_toArray, List.set_cons_zero, List.set_cons_succ, i64_w, i32_w]
                  rfl
                refine pure_ (i := 11) (N := some 65) (v := undef) (a' := ?_) (bA 18 4095) rfl rfl (any_of HT_.out (by kernel_rfl)) (fun _ _ _ h => h) (Or.inr ⟨by rfl, rfl⟩) ?_ ?_
                rotate_left
                · simp only [Act.put, List.setIfInBounds_toArray, List.set_cons_zero, List.set_cons_succ, i64_w, i32_w]
                  rfl
                refine pure_ (i := 12) (N := some 66) (v := undef) (a' := ?_) (bA 18 8191) rfl rfl (any_of HT_.out (by kernel_rfl)) (fun _ _ _ h => h) (Or.inr ⟨by rfl, rfl⟩) ?_ ?_
                rotate_left
                · simp only [Act.put, List.setIfInBounds_toArray, List.set_cons_zero, List.set_cons_succ, i64_w, i32_w]
                  rfl
                refine pure_ (i := 13) (N := some 67) (v := undef) (a' := ?_) (bA 18 16383) rfl rfl (any_of HT_.out (by kernel_rfl)) (fun _ _ _ h => h) (Or.inr ⟨by rfl, rfl⟩) ?_ ?_
                rotate_left
                · simp only [Act.put, List.setIfInBounds_toArray, List.set_cons_zero, List.set_cons_succ, i64_w, i32_w]
                  rfl
                refine pure_ (i := 14) (N := some 68) (v := undef) (a' := ?_) (bA 18 32767) rfl rfl (any_of HT_.out (by kernel_rfl)) (fun _ _ _ h => h) (Or.inr ⟨by rfl, rfl⟩) ?_ ?_
                rotate_left
                · simp only [Act.put, List.setIfInBounds_toArray, List.set_cons_zero, List.set_cons_succ, i64_w, i32_w]
                  rfl
                refine pure_ (i := 15) (N := some 69) (v := undef) (a' := ?_) (bA 18 65535) rfl rfl (any_of HT_.out (by kernel_rfl)) (fun _ _ _ h => h) (Or.inr ⟨by rfl, rfl⟩) ?_ ?_
                rotate_left
                · simp only [Act.put, List.setIfInBounds_toArray, List.set_cons_zero, List.set_cons_succ, i64_w, i32_w]
                  rfl
                refine pure_ (i := 16) (N := some 70) (v := undef) (a' := ?_) (bA 18 131071) rfl rfl (any_of HT_.out (by kernel_rfl)) (fun _ _ _ h => h) (Or.inr ⟨by rfl, rfl⟩) ?_ ?_
                rotate_left
                · simp only [Act.put, List.setIfInBounds_toArray, List.set_cons_zero, List.set_cons_succ, i64_w, i32_w]
                  rfl
                refine pure_ (i := 17) (N := some 71) (v := ?_) (a' := ?_) (bA 18 262143) rfl rfl (any_of HT_.out (by kernel_rfl)) (fun _ _ _ h => h) (Or.inl ⟨by rfl, ?_⟩) ?_ ?_
                rotate_left
                · intro w'
                  go_simp
                  with_reducible rfl
                rotate_left
                · simp only [Act.put, List.setIfInBounds_toArray, List.set_cons_zero, List.set_cons_succ, i64_w, i32_w]
                  rfl
                refine done_ (done_of HT_.out (by kernel_rfl)) ?_
                have hcz87_0 : w86.cell? ⟨gb210, 0, none⟩ = some (.int .i64 ((rd_T36 l0 x49_2).f0.f0)) := (blk_cell BK210.out 0).trans rfl
                have hcz87_1 : w86.cell? ⟨gb210, 1, none⟩ = some (.int .i64 ((rd_T36 l0 x49_2).f0.f1)) := (blk_cell BK210.out 1).trans rfl
                have hcz87_2 : w86.cell? ⟨gb210, 2, none⟩ = some (.int .i64 ((rd_T36 l0 x49_2).f0.f2)) := (blk_cell BK210.out 2).trans rfl
                have hcz87_3 : w86.cell? ⟨gb210, 3, none⟩ = some (.int .i64 ((rd_T36 l0 x49_2).f0.f3)) := (blk_cell BK210.out 3).trans rfl
                have hcz87_4 : w86.cell? ⟨gb210, 4, none⟩ = some (.slice A209_4 ((rd_T36 l0 x49_2).f0.f4).length c209_4) := (blk_cell BK210.out 4).trans rfl
                have hcz87_5 : w86.cell? ⟨gb210, 5, none⟩ = some (.string ((rd_T36 l0 x49_2).f0.f5)) := (blk_cell BK210.out 5).trans rfl
                have hcz87_6 : w86.cell? ⟨gb210, 6, none⟩ = some (.slice A209_6 ((rd_T36 l0 x49_2).f1).length c209_6) := (blk_cell BK210.out 6).trans rfl
                have hcz87_7 : w86.cell? ⟨gb210, 7, none⟩ = some (.int .i64 ((rd_T36 l0 x49_2).f2)) := (blk_cell BK210.out 7).trans rfl
                have hfz87_0 := blk_frozen BK210.out 0
                have hfz87_1 := blk_frozen BK210.out 1
                have hfz87_2 := blk_frozen BK210.out 2
                have hfz87_3 := blk_frozen BK210.out 3
                have hfz87_4 := blk_frozen BK210.out 4
                have hfz87_5 := blk_frozen BK210.out 5
                have hfz87_6 := blk_frozen BK210.out 6
                have hfz87_7 := blk_frozen BK210.out 7
                try go_wp2_with (first | ((with_reducible refine gate_dst (N := 85) rfl ?_); (try (refine gate_guard (by rfl) ?_; dsimp only)); refine Kd.R_lit (Kd.int .i64) _ 3 ?hg (N := 85) ?hd (xs := ([x13_3] : List Int)) (inner := [.int .i64 x13_3]) (ok := fun _ => True) (okp := fun _ => True) ?hr ?hp (fun _ hk => hk) trivial (Below.refl _ _) (Nat.le_refl _) (by simp) ?_; (case hd => rfl); (case hg => rfl); (case hr => first | (go_simp; done) | (go_simp; rfl)); (case hp => exact (Reps.one (show Kd.M (Kd.int .i64) _ _ _ x13_3 [.int .i64 x13_3] from rfl) (Reps.none _ _))); intro v244 w88 ho89 hb hg_ hnew_; clear hg_ hnew_; (first | rw [← Ny243.out] at ho89 | (simp only [Int.reduceToNat] at ho89; rw [← Ny243.out] at ho89)); have HO245 := Aside0.mk (Kd.R_lower (Kd.R_new' (Kd.R_new' ho89 (Kd.R_lt (by (with_reducible repeat (first | apply Kd.R_alloc | apply Kd.R_drewN | apply Kd.R_drew)); exact HO_6.out))) (Kd.R_lt (by (with_reducible repeat (first | apply Kd.R_alloc | apply Kd.R_drewN | apply Kd.R_drew)); exact HO_9.out))) (below_size (by repeat (first | (with_reducible first | exact HB.out | apply below_alloc | apply pw_below_drewN | apply below_drew1 | refine below_set ?_ GE210.out) | exact HB.out)))); replace HO_6 := Aside0.mk (Kd.R_elder' (by (with_reducible repeat (first | apply Kd.R_alloc | apply Kd.R_drewN | apply Kd.R_drew)); exact HO_6.out) (Kd.R_base ho89) hb); replace HO_9 := Aside0.mk (Kd.R_elder' (by (with_reducible repeat (first | apply Kd.R_alloc | apply Kd.R_drewN | apply Kd.R_drew)); exact HO_9.out) (Kd.R_base ho89) hb); replace BK210 := Aside0.mk (blk_below (g := gb210) (o := .cells #[.int .i64 ((rd_T36 l0 x49_2).f0.f0), .int .i64 ((rd_T36 l0 x49_2).f0.f1), .int .i64 ((rd_T36 l0 x49_2).f0.f2), .int .i64 ((rd_T36 l0 x49_2).f0.f3), .slice A209_4 ((rd_T36 l0 x49_2).f0.f4).length c209_4, .string ((rd_T36 l0 x49_2).f0.f5), .slice A209_6 ((rd_T36 l0 x49_2).f1).length c209_6, .int .i64 ((rd_T36 l0 x49_2).f2)] 36 (0, 0)) (by (with_reducible repeat (first | refine blk_drewN ?_ _ | refine blk_drew ?_ | refine blk_alloc ?_ _)); exact BK210.out) hb); replace HB := Aside0.mk (below_step (by repeat (first | (with_reducible first | exact HB.out | apply below_alloc | apply pw_below_drewN | apply below_drew1 | refine below_set ?_ GE210.out) | exact HB.out)) hb); clear hb ho89; obtain ⟨Ao91, co91, eo91⟩ := Kd.R_slice HO245.out; subst eo91) | ((with_reducible refine gate_builtin (b := .append) (xs := #[.tmp 83, .tmp 85]) rfl ?_); (try (refine gate_guard (by rfl) ?_; dsimp only)); at_builtin; refine Kd.R_append_rows (Kd.int .i64) (w0 := w) w.heap.size rfl (.tmp 83) (.tmp 85) 22 3 (.int .i64 0) 8 rfl Try.underlying22 info3 rfl (by decide) (by omega) u9 x9_2 y243 _ _ _ (fun k_ => some k_ ≠ (v206 : Value).ownBlock ∧ some k_ ≠ (.slice Ao91 y243.length co91 : Value).ownBlock) (fun _ => False) rfl rfl ?aO ?aR (fun _ _ h => h) (fun _ h => h.elim) ?aF ?aB ?aS ?aL ?_; (case aR => repeat (first | exact (Kd.R_reads' HO245.out).2.2 | (with_reducible refine Kd.C_alloc ?_ _) | (with_reducible refine Kd.C_drewN ?_ _) | (with_reducible refine Kd.C_drew ?_))); (case aB => exact (by repeat (first | (with_reducible first | exact HB.out | apply below_alloc | apply pw_below_drewN | apply below_drew1 | refine below_set ?_ GE210.out) | exact HB.out))); (case aF => exact (fun k_ hk => ⟨Kd.fresh' (Kd.R_lt (by (with_reducible repeat (first | apply Kd.R_alloc | apply Kd.R_drewN | apply Kd.R_drew)); exact HO_6.out)) k_ hk, Kd.fresh' (Kd.R_lt (by (with_reducible repeat (first | apply Kd.R_alloc | apply Kd.R_drewN | apply Kd.R_drew)); exact HO245.out)) k_ hk⟩)); (case aO => exact (by (with_reducible repeat (first | apply Kd.R_alloc | apply Kd.R_drewN | apply Kd.R_drew)); exact HO_9.out)); (case aS => exact (below_size (by repeat (first | (with_reducible first | exact HB.out | apply below_alloc | apply pw_below_drewN | apply below_drew1 | refine below_set ?_ GE210.out) | exact HB.out)))); (case aL => have := LMc85.out; omega); intro v247 w90 ho hb hg hat; rw [← Ny246.out] at ho; have HO248 := Aside0.mk (ho); replace HO_6 := Aside0.mk (Kd.R_after (ok := (fun k_ => some k_ ≠ (.slice Ao91 y243.length co91 : Value).ownBlock)) (by (with_reducible repeat (first | apply Kd.R_alloc | apply Kd.R_drewN | apply Kd.R_drew)); exact Kd.R_mono HO_6.out (fun _ hk => ⟨hk.2, hk.1⟩)) hg hat); replace BK210 := Aside0.mk (blk_grown (g := gb210) (o := .cells #[.int .i64 ((rd_T36 l0 x49_2).f0.f0), .int .i64 ((rd_T36 l0 x49_2).f0.f1), .int .i64 ((rd_T36 l0 x49_2).f0.f2), .int .i64 ((rd_T36 l0 x49_2).f0.f3), .slice A209_4 ((rd_T36 l0 x49_2).f0.f4).length c209_4, .string ((rd_T36 l0 x49_2).f0.f5), .slice A209_6 ((rd_T36 l0 x49_2).f1).length c209_6, .int .i64 ((rd_T36 l0 x49_2).f2)] 36 (0, 0)) (by (with_reducible repeat (first | refine blk_drewN ?_ _ | refine blk_drew ?_ | refine blk_alloc ?_ _)); exact BK210.out) hg (Kd.R_ne HO_9.out BK210.out (by decide))); replace HO245 := Aside0.mk (Kd.R_after (ok := (fun k_ => some k_ ≠ (v206 : Value).ownBlock)) (by (with_reducible repeat (first | apply Kd.R_alloc | apply Kd.R_drewN | apply Kd.R_drew)); exact Kd.R_mono HO245.out (fun _ hk => ⟨hk.1.2, hk.2⟩)) hg hat); replace HB := Aside0.mk (hb); clear HO_9 ho hb hg hat))
                go_roundg k3
                case measure => have := HJ2.out; have := HK2.out; have := HK3.out; omega
                case rel => exact ⟨(y246), (wrap64 (x10_2 + ((rd_T36 l0 x49_2).f2))), (wrap64 (x49_2 + 1)), (by first | rfl | (simp; done) | (simp [*]; done)), (by first | rfl | (simp; done) | (simp [*]; done)), H', ⟨by have := HJ2.out; have := HK2.out; have := HK3.out; omega⟩, ⟨by (with_reducible repeat (first | apply Kd.R_alloc | apply Kd.R_drewN | apply Kd.R_drew)); exact Kd.R_mono HO_6.out (fun _ hk => hk.2)⟩, ⟨by (with_reducible repeat (first | apply Kd.R_alloc | apply Kd.R_drewN | apply Kd.R_drew)); exact Kd.R_mono HO248.out (fun _ hk => hk.1)⟩, ⟨by repeat (first | (with_reducible first | exact HB.out | apply below_alloc | apply pw_below_drewN | apply below_drew1 | refine below_set ?_ GE210.out) | exact HB.out)⟩⟩
              rw [if_pos c23] at H
              have c23b0 : decide (x13_3 < (((rd_T36 l0 x49_2).f1).length : Int)) = true := decide_eq_true c23
              clear c23
              obtain ⟨ji24, hji24⟩ : ∃ j_ : Int, (wrap64 (x49_2 + 1)) = j_ := ⟨_, rfl⟩
              replace H : (if 0 ≤ (ji24) then (if (ji24) ≤ (l0.length : Int) then ((slices_Clone_int_int.f x9_2).bind fun t215 => ((some (([x13_3] : List Int) : List Int)).bind fun y218 => (if t215.length + y218.length < 17592186044416 then ((terrlaw5_possible.f k3 (l0.take ((ji24) : Int).toNat) (t215 ++ y218)).bind fun t224 => (if t224 = true then (if x13_3 = (((rd_T36 l0 x49_2).f1).length : Int) then ((some (([(-1)] : List Int) : List Int)).bind fun y225 => (if x9_2.length + y225.length < 17592186044416 then (terrlaw5_PlaceClears.l0 k3 l0 t203 t204 t205 (x9_2 ++ y225) x10_2 l0 (l0.length : Int) ji24) else (none))) else ((some (([x13_3] : List Int) : List Int)).bind fun y231 => (if x9_2.length + y231.length < 17592186044416 then (terrlaw5_PlaceClears.l0 k3 l0 t203 t204 t205 (x9_2 ++ y231) (wrap64 (x10_2 + ((rd_T36 l0 x49_2).f2))) l0 (l0.length : Int) ji24) else (none)))) else (terrlaw5_PlaceClears.l1 k3 l0 t203 t204 t205 x9_2 x10_2 x49_2 (wrap64 (x13_3 + 1)) l0 (l0.length : Int) x49_2 ((rd_T36 l0 x49_2).f0.f0) ((rd_T36 l0 x49_2).f0.f1) ((rd_T36 l0 x49_2).f0.f2) ((rd_T36 l0 x49_2).f0.f3) ((rd_T36 l0 x49_2).f0.f4) ((rd_T36 l0 x49_2).f0.f5) ((rd_T36 l0 x49_2).f1) ((rd_T36 l0 x49_2).f2)))) else (none)))) else (none)) else (none)) = some r := by first | (rw [hji24] at H; exact H) | (simp only [hji24] at H ⊢; exact H)
              have hji24w : (IntKind.i64.wrap (x49_2 + 1)) = ji24 := (i64_w _).trans hji24
              by_cases c25 : 0 ≤ (ji24)
              rotate_left
              · rw [if_neg c25] at H
                exact absurd H (by simp)
              rw [if_pos c25] at H
              have c25b0 := eq_true c25
              have c25b1 : decide (0 ≤ (ji24)) = true := decide_eq_true c25
              clear c25
              by_cases c26 : (ji24) ≤ (l0.length : Int)
              rotate_left
              · rw [if_neg c26] at H
                exact absurd H (by simp)
              rw [if_pos c26] at H
              have c26b0 := eq_true c26
              have c26b1 : decide ((ji24) ≤ (l0.length : Int)) = true := decide_eq_true c26
              clear c26
              obtain ⟨y211, hy211⟩ : ∃ y_ : List (S36), y_ = (l0.take ((ji24) : Int).toNat) := ⟨_, rfl⟩
              replace H : ((slices_Clone_int_int.f x9_2).bind fun t215 => ((some (([x13_3] : List Int) : List Int)).bind fun y218 => (if t215.length + y218.length < 17592186044416 then ((terrlaw5_possible.f k3 y211 (t215 ++ y218)).bind fun t224 => (if t224 = true then (if x13_3 = (((rd_T36 l0 x49_2).f1).length : Int) then ((some (([(-1)] : List Int) : List Int)).bind fun y225 => (if x9_2.length + y225.length < 17592186044416 then (terrlaw5_PlaceClears.l0 k3 l0 t203 t204 t205 (x9_2 ++ y225) x10_2 l0 (l0.length : Int) ji24) else (none))) else ((some (([x13_3] : List Int) : List Int)).bind fun y231 => (if x9_2.length + y231.length < 17592186044416 then (terrlaw5_PlaceClears.l0 k3 l0 t203 t204 t205 (x9_2 ++ y231) (wrap64 (x10_2 + ((rd_T36 l0 x49_2).f2))) l0 (l0.length : Int) ji24) else (none)))) else (terrlaw5_PlaceClears.l1 k3 l0 t203 t204 t205 x9_2 x10_2 x49_2 (wrap64 (x13_3 + 1)) l0 (l0.length : Int) x49_2 ((rd_T36 l0 x49_2).f0.f0) ((rd_T36 l0 x49_2).f0.f1) ((rd_T36 l0 x49_2).f0.f2) ((rd_T36 l0 x49_2).f0.f3) ((rd_T36 l0 x49_2).f0.f4) ((rd_T36 l0 x49_2).f0.f5) ((rd_T36 l0 x49_2).f1) ((rd_T36 l0 x49_2).f2)))) else (none)))) = some r := by first | (rw [hy211]; with_reducible exact H) | (have H2_ := (Option.bind_some _ _).symm.trans H; rw [hy211]; with_reducible exact H2_) | (have H2_ := (Option.bind_some _ _).symm.trans H; with_reducible exact H2_) | with_reducible exact H | (rw [hy211]; exact H) | exact H
              have Ny211 := Aside0.mk hy211
              clear hy211
              replace H := Option.bind_eq_some_iff.mp H
              obtain ⟨t215, A270, H⟩ := H
              replace H : ((some (([x13_3] : List Int) : List Int)).bind fun y218 => (if t215.length + y218.length < 17592186044416 then ((terrlaw5_possible.f k3 y211 (t215 ++ y218)).bind fun t224 => (if t224 = true then (if x13_3 = (((rd_T36 l0 x49_2).f1).length : Int) then ((some (([(-1)] : List Int) : List Int)).bind fun y225 => (if x9_2.length + y225.length < 17592186044416 then (terrlaw5_PlaceClears.l0 k3 l0 t203 t204 t205 (x9_2 ++ y225) x10_2 l0 (l0.length : Int) ji24) else (none))) else ((some (([x13_3] : List Int) : List Int)).bind fun y231 => (if x9_2.length + y231.length < 17592186044416 then (terrlaw5_PlaceClears.l0 k3 l0 t203 t204 t205 (x9_2 ++ y231) (wrap64 (x10_2 + ((rd_T36 l0 x49_2).f2))) l0 (l0.length : Int) ji24) else (none)))) else (terrlaw5_PlaceClears.l1 k3 l0 t203 t204 t205 x9_2 x10_2 x49_2 (wrap64 (x13_3 + 1)) l0 (l0.length : Int) x49_2 ((rd_T36 l0 x49_2).f0.f0) ((rd_T36 l0 x49_2).f0.f1) ((rd_T36 l0 x49_2).f0.f2) ((rd_T36 l0 x49_2).f0.f3) ((rd_T36 l0 x49_2).f0.f4) ((rd_T36 l0 x49_2).f0.f5) ((rd_T36 l0 x49_2).f1) ((rd_T36 l0 x49_2).f2)))) else (none))) = some r := H
              have A27 := Aside0.mk A270
              clear A270
              obtain ⟨y218, hy218⟩ : ∃ y_ : List Int, y_ = (([x13_3] : List Int)) := ⟨_, rfl⟩
              replace H : (if t215.length + y218.length < 17592186044416 then ((terrlaw5_possible.f k3 y211 (t215 ++ y218)).bind fun t224 => (if t224 = true then (if x13_3 = (((rd_T36 l0 x49_2).f1).length : Int) then ((some (([(-1)] : List Int) : List Int)).bind fun y225 => (if x9_2.length + y225.length < 17592186044416 then (terrlaw5_PlaceClears.l0 k3 l0 t203 t204 t205 (x9_2 ++ y225) x10_2 l0 (l0.length : Int) ji24) else (none))) else ((some (([x13_3] : List Int) : List Int)).bind fun y231 => (if x9_2.length + y231.length < 17592186044416 then (terrlaw5_PlaceClears.l0 k3 l0 t203 t204 t205 (x9_2 ++ y231) (wrap64 (x10_2 + ((rd_T36 l0 x49_2).f2))) l0 (l0.length : Int) ji24) else (none)))) else (terrlaw5_PlaceClears.l1 k3 l0 t203 t204 t205 x9_2 x10_2 x49_2 (wrap64 (x13_3 + 1)) l0 (l0.length : Int) x49_2 ((rd_T36 l0 x49_2).f0.f0) ((rd_T36 l0 x49_2).f0.f1) ((rd_T36 l0 x49_2).f0.f2) ((rd_T36 l0 x49_2).f0.f3) ((rd_T36 l0 x49_2).f0.f4) ((rd_T36 l0 x49_2).f0.f5) ((rd_T36 l0 x49_2).f1) ((rd_T36 l0 x49_2).f2)))) else (none)) = some r := by first | (rw [hy218]; with_reducible exact H) | (have H2_ := (Option.bind_some _ _).symm.trans H; rw [hy218]; with_reducible exact H2_) | (have H2_ := (Option.bind_some _ _).symm.trans H; with_reducible exact H2_) | with_reducible exact H | (rw [hy218]; exact H) | exact H
              have Ny218 := Aside0.mk hy218
              clear hy218
              by_cases c28 : t215.length + y218.length < 17592186044416
              rotate_left
              · rw [if_neg c28] at H
                exact absurd H (by simp)
              rw [if_pos c28] at H
              have LMc28 := Aside0.mk c28
              clear c28
              obtain ⟨y221, hy221⟩ : ∃ y_ : List Int, y_ = (t215 ++ y218) := ⟨_, rfl⟩
              replace H : ((terrlaw5_possible.f k3 y211 y221).bind fun t224 => (if t224 = true then (if x13_3 = (((rd_T36 l0 x49_2).f1).length : Int) then ((some (([(-1)] : List Int) : List Int)).bind fun y225 => (if x9_2.length + y225.length < 17592186044416 then (terrlaw5_PlaceClears.l0 k3 l0 t203 t204 t205 (x9_2 ++ y225) x10_2 l0 (l0.length : Int) ji24) else (none))) else ((some (([x13_3] : List Int) : List Int)).bind fun y231 => (if x9_2.length + y231.length < 17592186044416 then (terrlaw5_PlaceClears.l0 k3 l0 t203 t204 t205 (x9_2 ++ y231) (wrap64 (x10_2 + ((rd_T36 l0 x49_2).f2))) l0 (l0.length : Int) ji24) else (none)))) else (terrlaw5_PlaceClears.l1 k3 l0 t203 t204 t205 x9_2 x10_2 x49_2 (wrap64 (x13_3 + 1)) l0 (l0.length : Int) x49_2 ((rd_T36 l0 x49_2).f0.f0) ((rd_T36 l0 x49_2).f0.f1) ((rd_T36 l0 x49_2).f0.f2) ((rd_T36 l0 x49_2).f0.f3) ((rd_T36 l0 x49_2).f0.f4) ((rd_T36 l0 x49_2).f0.f5) ((rd_T36 l0 x49_2).f1) ((rd_T36 l0 x49_2).f2)))) = some r := by first | (rw [hy221]; with_reducible exact H) | (have H2_ := (Option.bind_some _ _).symm.trans H; rw [hy221]; with_reducible exact H2_) | (have H2_ := (Option.bind_some _ _).symm.trans H; with_reducible exact H2_) | with_reducible exact H | (rw [hy221]; exact H) | exact H
              have Ny221 := Aside0.mk hy221
              clear hy221
              replace H := Option.bind_eq_some_iff.mp H
              obtain ⟨t224, A290, H⟩ := H
              replace H : (if t224 = true then (if x13_3 = (((rd_T36 l0 x49_2).f1).length : Int) then ((some (([(-1)] : List Int) : List Int)).bind fun y225 => (if x9_2.length + y225.length < 17592186044416 then (terrlaw5_PlaceClears.l0 k3 l0 t203 t204 t205 (x9_2 ++ y225) x10_2 l0 (l0.length : Int) ji24) else (none))) else ((some (([x13_3] : List Int) : List Int)).bind fun y231 => (if x9_2.length + y231.length < 17592186044416 then (terrlaw5_PlaceClears.l0 k3 l0 t203 t204 t205 (x9_2 ++ y231) (wrap64 (x10_2 + ((rd_T36 l0 x49_2).f2))) l0 (l0.length : Int) ji24) else (none)))) else (terrlaw5_PlaceClears.l1 k3 l0 t203 t204 t205 x9_2 x10_2 x49_2 (wrap64 (x13_3 + 1)) l0 (l0.length : Int) x49_2 ((rd_T36 l0 x49_2).f0.f0) ((rd_T36 l0 x49_2).f0.f1) ((rd_T36 l0 x49_2).f0.f2) ((rd_T36 l0 x49_2).f0.f3) ((rd_T36 l0 x49_2).f0.f4) ((rd_T36 l0 x49_2).f0.f5) ((rd_T36 l0 x49_2).f1) ((rd_T36 l0 x49_2).f2))) = some r := H
              have A29 := Aside0.mk A290
              clear A290
              have HHo := Aside0.mk H
              clear H
              obtain ⟨Ao33, co33, eo33⟩ := Kd.R_slice HO_9.out
              subst eo33
              try go_wp2
              replace HO_6 := Aside0.mk (Kd.R_drew HO_6.out)
              replace HO_9 := Aside0.mk (Kd.R_drew HO_9.out)
              replace BK210 := Aside0.mk (blk_drew BK210.out)
              replace HB := Aside0.mk (below_drew1 HB.out)
              have q35 : ((ji24) : Int) ≤ ((l0.length : Int) : Int) := of_decide_eq_true (by first | (with_reducible assumption) | assumption)
              obtain ⟨i035, hi035, _, hsz35, _⟩ := info_parts info36
              have hroom35 : l0.length ≤ c0 := HC0.out
              have hC35 : Kd.C k36 _ (some ad209) l0.length l0 := HR0.out
              have hcut35 := cut_to (P := Try.prog) 24 36 .i64 Try.underlying24 hi035 (some ad209) l0.length c0 (ji24) (of_decide_eq_true (by first | (with_reducible assumption) | assumption)) q35 hroom35
              have hr35 := Kd.C_take (m := ((ji24) : Int).toNat) hC35 (by omega)
              have hy35 : y211.length = ((ji24) : Int).toNat := (by rw [Ny211.out, List.length_take]; omega)
              rw [← Ny211.out] at hr35
              rw [← hy35] at hcut35
              have HR214 := Aside0.mk hr35
              have HC214 := Aside0.mk (show y211.length ≤ c0 from by omega)
              clear hr35 hC35 hroom35 hi035 hsz35
              have KY35 := Aside0.mk hy35
              clear hy35
              replace q35 := eq_true q35
              refine start_ (n := 18) (S := fun w' => w'.cell? ⟨gb210, 0, none⟩ = some (.int .i64 ((rd_T36 l0 x49_2).f0.f0)) ∧ w'.cell? ⟨gb210, 1, none⟩ = some (.int .i64 ((rd_T36 l0 x49_2).f0.f1)) ∧ w'.cell? ⟨gb210, 2, none⟩ = some (.int .i64 ((rd_T36 l0 x49_2).f0.f2)) ∧ w'.cell? ⟨gb210, 3, none⟩ = some (.int .i64 ((rd_T36 l0 x49_2).f0.f3)) ∧ w'.cell? ⟨gb210, 4, none⟩ = some (.slice A209_4 ((rd_T36 l0 x49_2).f0.f4).length c209_4) ∧ w'.cell? ⟨gb210, 5, none⟩ = some (.string ((rd_T36 l0 x49_2).f0.f5)) ∧ w'.cell? ⟨gb210, 6, none⟩ = some (.slice A209_6 ((rd_T36 l0 x49_2).f1).length c209_6) ∧ w'.cell? ⟨gb210, 7, none⟩ = some (.int .i64 ((rd_T36 l0 x49_2).f2))) (ds := []) (bA 18 0) (by kernel_rfl) rfl rfl ⟨(blk_cell BK210.out 0).trans rfl, (blk_cell BK210.out 1).trans rfl, (blk_cell BK210.out 2).trans rfl, (blk_cell BK210.out 3).trans rfl, (blk_cell BK210.out 4).trans rfl, (blk_cell BK210.out 5).trans rfl, (blk_cell BK210.out 6).trans rfl, (blk_cell BK210.out 7).trans rfl⟩ (fun hHeld => ?_); refine with_tabW terrlaw5_PlaceClears.tab13 terrlaw5_PlaceClears.bits13 (fun HT_ HW_ => ?_)
              generalize wr.drew = w34 at HO_6 HO_9 BK210 HB HR214 hHeld ⊢
              refine pure_ (i := 0) (N := some 54) (v := ?_) (a' := ?_) (bA 18 1) rfl rfl (any_of HT_.out (by kernel_rfl)) (fun _ _ _ h => h) (Or.inl ⟨by rfl, ?_⟩) ?_ ?_
              rotate_left
              · intro w'
                go_simp
                with_reducible rfl
              rotate_left
              · simp only [Act.put, List.setIfInBounds_toArray, List.set_cons_zero, List.set_cons_succ, i64_w, i32_w]
                rfl
              refine pure_ (i := 1) (N := some 55) (v := ?_) (a' := ?_) (bA 18 3) rfl rfl (any_of HT_.out (by kernel_rfl)) (fun _ _ _ h => h) (Or.inl ⟨by rfl, ?_⟩) ?_ ?_
              rotate_left
              · intro w'
                go_simp
                with_reducible rfl
              rotate_left
              · simp only [Act.put, List.setIfInBounds_toArray, List.set_cons_zero, List.set_cons_succ, i64_w, i32_w]
                rfl
              refine take_ (i := 2) (N := some 56) (v := ?_) (a' := ?_) (bA 18 7) rfl rfl (take_ofW HT_.out HW_.out (by kernel_rfl)) (fun _ _ _ h => h) (Or.inl ⟨by rfl, ?_⟩) hHeld ?_ ?_
              rotate_left
              · rintro w' ⟨s0, s1, s2, s3, s4, s5, s6, s7⟩
                go_simp
                with_reducible rfl
              rotate_left
              · simp only [Act.put, List.setIfInBounds_toArray, List.set_cons_zero, List.set_cons_succ, i64_w, i32_w]
                rfl
              refine pure_ (i := 3) (N := some 57) (v := ?_) (a' := ?_) (bA 18 15) rfl rfl (any_of HT_.out (by kernel_rfl)) (fun _ _ _ h => h) (Or.inl ⟨by rfl, ?_⟩) ?_ ?_
              rotate_left
              · intro w'
                go_simp
                with_reducible rfl
              rotate_left
              · simp only [Act.put, List.setIfInBounds_toArray, List.set_cons_zero, List.set_cons_succ, i64_w, i32_w]
                rfl
              refine pure_ (i := 4) (N := some 58) (v := ?_) (a' := ?_) (bA 18 31) rfl rfl (any_of HT_.out (by kernel_rfl)) (fun _ _ _ h => h) (Or.inl ⟨by rfl, ?_⟩) ?_ ?_
              rotate_left
              · intro w'
                go_simp
                with_reducible rfl
              rotate_left
              · simp only [Act.put, List.setIfInBounds_toArray, List.set_cons_zero, List.set_cons_succ, i64_w, i32_w]
                rfl
              refine pure_ (i := 5) (N := some 59) (v := ?_) (a' := ?_) (bA 18 63) rfl rfl (any_of HT_.out (by kernel_rfl)) (fun _ _ _ h => h) (Or.inl ⟨by rfl, ?_⟩) ?_ ?_
              rotate_left
              · intro w'
                go_simp
                with_reducible rfl
              rotate_left
              · simp only [Act.put, List.setIfInBounds_toArray, List.set_cons_zero, List.set_cons_succ, i64_w, i32_w]
                rfl
              refine pure_ (i := 6) (N := some 60) (v := ?_) (a' := ?_) (bA 18 127) rfl rfl (any_of HT_.out (by kernel_rfl)) (fun _ _ _ h => h) (Or.inl ⟨by rfl, ?_⟩) ?_ ?_
              rotate_left
              · intro w'
                go_simp
                with_reducible rfl
              rotate_left
              · simp only [Act.put, List.setIfInBounds_toArray, List.set_cons_zero, List.set_cons_succ, i64_w, i32_w]
                rfl
              refine pure_ (i := 7) (N := some 61) (v := ?_) (a' := ?_) (bA 18 255) rfl rfl (any_of HT_.out (by kernel_rfl)) (fun _ _ _ h => h) (Or.inl ⟨by rfl, ?_⟩) ?_ ?_
              rotate_left
              · intro w'
                go_simp
                with_reducible rfl
              rotate_left
              · simp only [Act.put, List.setIfInBounds_toArray, List.set_cons_zero, List.set_cons_succ, i64_w, i32_w]
                rfl
              refine pure_ (i := 8) (N := some 62) (v := ?_) (a' := ?_) (bA 18 511) rfl rfl (any_of HT_.out (by kernel_rfl)) (fun _ _ _ h => h) (Or.inl ⟨by rfl, ?_⟩) ?_ ?_
              rotate_left
              · intro w'
                go_simp
                with_reducible rfl
              rotate_left
              · simp only [Act.put, List.setIfInBounds_toArray, List.set_cons_zero, List.set_cons_succ, i64_w, i32_w]
                rfl
              refine pure_ (i := 9) (N := some 63) (v := ?_) (a' := ?_) (bA 18 1023) rfl rfl (any_of HT_.out (by kernel_rfl)) (fun _ _ _ h => h) (Or.inl ⟨by rfl, ?_⟩) ?_ ?_
              rotate_left
              · intro w'
                go_simp
                with_reducible rfl
              rotate_left
              · simp only [Act.put, List.setIfInBounds_toArray, List.set_cons_zero, List.set_cons_succ, i64_w, i32_w]
                rfl
              refine pure_ (i := 10) (N := some 64) (v := ?_) (a' := ?_) (bA 18 2047) rfl rfl (any_of HT_.out (by kernel_rfl)) (fun _ _ _ h => h) (Or.inl ⟨by rfl, ?_⟩) ?_ ?_
              rotate_left
              · intro w'
                go_simp
                with_reducible rfl
              rotate_left
              · simp only [Act.put, List.setIfInBounds_toArray, List.set_cons_zero, List.set_cons_succ, i64_w, i32_w]
                rfl
              refine pure_ (i := 12) (N := some 66) (v := ?_) (a' := ?_) (bA 18 6143) rfl rfl (any_of HT_.out (by kernel_rfl)) (fun _ _ _ h => h) (Or.inl ⟨by rfl, ?_⟩) ?_ ?_
              rotate_left
              · intro w'
                go_simp
                with_reducible rfl
              rotate_left
              · simp only [Act.put, List.setIfInBounds_toArray, List.set_cons_zero, List.set_cons_succ, i64_w, i32_w]
                rfl
              refine join_ (σ := Value × Value) 4 (bA 18 16383) (fun s_ => [(65, s_.1), (67, s_.2)]) (fun s_ w' => (w'.cell? ⟨gb210, 0, none⟩ = some (.int .i64 ((rd_T36 l0 x49_2).f0.f0)) ∧ w'.cell? ⟨gb210, 1, none⟩ = some (.int .i64 ((rd_T36 l0 x49_2).f0.f1)) ∧ w'.cell? ⟨gb210, 2, none⟩ = some (.int .i64 ((rd_T36 l0 x49_2).f0.f2)) ∧ w'.cell? ⟨gb210, 3, none⟩ = some (.int .i64 ((rd_T36 l0 x49_2).f0.f3)) ∧ w'.cell? ⟨gb210, 4, none⟩ = some (.slice A209_4 ((rd_T36 l0 x49_2).f0.f4).length c209_4) ∧ w'.cell? ⟨gb210, 5, none⟩ = some (.string ((rd_T36 l0 x49_2).f0.f5)) ∧ w'.cell? ⟨gb210, 6, none⟩ = some (.slice A209_6 ((rd_T36 l0 x49_2).f1).length c209_6) ∧ w'.cell? ⟨gb210, 7, none⟩ = some (.int .i64 ((rd_T36 l0 x49_2).f2))) ∧ (Kd.R (Kd.int .i64) 3 w' w.heap.size (fun k_ => some k_ ≠ (s_.2 : Value).ownBlock ∧ some k_ ≠ (v206 : Value).ownBlock ∧ some k_ ≠ (.slice Ao33 x9_2.length co33 : Value).ownBlock) s_.1 t215) ∧ (Kd.R (Kd.int .i64) 3 w' w.heap.size (fun k_ => some k_ ≠ (s_.1 : Value).ownBlock ∧ some k_ ≠ (v206 : Value).ownBlock ∧ some k_ ≠ (.slice Ao33 x9_2.length co33 : Value).ownBlock) s_.2 y218) ∧ (Kd.R (Kd.int .i64) 3 w' w.heap.size (fun k_ => some k_ ≠ (s_.1 : Value).ownBlock ∧ some k_ ≠ (s_.2 : Value).ownBlock ∧ some k_ ≠ (.slice Ao33 x9_2.length co33 : Value).ownBlock) v206 t203) ∧ (Kd.R (Kd.int .i64) 3 w' w.heap.size (fun k_ => some k_ ≠ (s_.1 : Value).ownBlock ∧ some k_ ≠ (s_.2 : Value).ownBlock ∧ some k_ ≠ (v206 : Value).ownBlock) (.slice Ao33 x9_2.length co33) x9_2) ∧ (w'.heap[gb210]? = some (.cells #[.int .i64 ((rd_T36 l0 x49_2).f0.f0), .int .i64 ((rd_T36 l0 x49_2).f0.f1), .int .i64 ((rd_T36 l0 x49_2).f0.f2), .int .i64 ((rd_T36 l0 x49_2).f0.f3), .slice A209_4 ((rd_T36 l0 x49_2).f0.f4).length c209_4, .string ((rd_T36 l0 x49_2).f0.f5), .slice A209_6 ((rd_T36 l0 x49_2).f1).length c209_6, .int .i64 ((rd_T36 l0 x49_2).f2)] 36 (0, 0))) ∧ (Below w.heap.size w w')) ?_ ?_
              rotate_left
              · intro hCont
                refine two_ (i := 11) (j := 13) (Ni := some 65) (Nj := some 67) (bA 18 8191) (bA 18 14335) rfl rfl rfl rfl (two_of HT_.out (by kernel_rfl)) (by decide) (by decide) (fun K hK => ?_) (fun K hK => ?_)
                · skip
                  refine goes_ Try.func34 (by kernel_rfl) rfl #[.slice Ao33 x9_2.length co33] (by rfl) rfl rfl (by (try simp only [List.map_toArray, List.map_cons, List.map_nil]); first | done | rfl | (simp only [List.length_drop, List.length_take]; rfl)) ?_
                  with_reducible refine (slices_Clone_int_int.calls _ _ x9_2 t215 _ ?side1 ?side2 A27.out).mono ?_
                  (case side1 => repeat (first | exact (Kd.R_reads' HO_9.out).2.2 | (with_reducible refine Kd.C_alloc ?_ _) | (with_reducible refine Kd.C_drewN ?_ _) | (with_reducible refine Kd.C_drew ?_)))
                  (case side2 => exact (Kd.R_reads' HO_9.out).2.1)
                  rintro e w36 ⟨v216, rfl, ho0, hb⟩
                  refine ⟨_, rfl, ?_⟩
                  have HO217 := Aside0.mk (Kd.R_lower (Kd.R_new' (Kd.R_new' ho0 (Kd.R_lt (by (with_reducible repeat (first | apply Kd.R_alloc | apply Kd.R_drewN | apply Kd.R_drew)); exact HO_6.out))) (Kd.R_lt (by (with_reducible repeat (first | apply Kd.R_alloc | apply Kd.R_drewN | apply Kd.R_drew)); exact HO_9.out))) (below_size (by repeat (first | (with_reducible first | exact HB.out | apply below_alloc | apply pw_below_drewN | apply below_drew1 | refine below_set ?_ GE210.out) | exact HB.out))))
                  replace HO_6 := Aside0.mk (Kd.R_elder' (by (with_reducible repeat (first | apply Kd.R_alloc | apply Kd.R_drewN | apply Kd.R_drew)); exact HO_6.out) (Kd.R_base ho0) hb)
                  replace HO_9 := Aside0.mk (Kd.R_elder' (by (with_reducible repeat (first | apply Kd.R_alloc | apply Kd.R_drewN | apply Kd.R_drew)); exact HO_9.out) (Kd.R_base ho0) hb)
                  replace BK210 := Aside0.mk (blk_below (g := gb210) (o := .cells #[.int .i64 ((rd_T36 l0 x49_2).f0.f0), .int .i64 ((rd_T36 l0 x49_2).f0.f1), .int .i64 ((rd_T36 l0 x49_2).f0.f2), .int .i64 ((rd_T36 l0 x49_2).f0.f3), .slice A209_4 ((rd_T36 l0 x49_2).f0.f4).length c209_4, .string ((rd_T36 l0 x49_2).f0.f5), .slice A209_6 ((rd_T36 l0 x49_2).f1).length c209_6, .int .i64 ((rd_T36 l0 x49_2).f2)] 36 (0, 0)) (by (with_reducible repeat (first | refine blk_drewN ?_ _ | refine blk_drew ?_ | refine blk_alloc ?_ _)); exact BK210.out) hb)
                  replace HB := Aside0.mk (below_step (by repeat (first | (with_reducible first | exact HB.out | apply below_alloc | apply pw_below_drewN | apply below_drew1 | refine below_set ?_ GE210.out) | exact HB.out)) hb)
                  (try clear hb)
                  (try clear hb2)
                  (try clear hk)
                  (try clear hi)
                  (try clear ho0)
                  refine hK.out _ _ ⟨(blk_cell BK210.out 0).trans rfl, (blk_cell BK210.out 1).trans rfl, (blk_cell BK210.out 2).trans rfl, (blk_cell BK210.out 3).trans rfl, (blk_cell BK210.out 4).trans rfl, (blk_cell BK210.out 5).trans rfl, (blk_cell BK210.out 6).trans rfl, (blk_cell BK210.out 7).trans rfl⟩ (fun hHeld => ?_)
                  clear hK K
                  refine norm_ (a' := ?_) ?_ ?_
                  rotate_left
                  · show Act.put _ (some 65) _ = _
                    simp only [Act.put, List.setIfInBounds_toArray, List.set_cons_zero, List.set_cons_succ, i64_w, i32_w]
                    rfl
                  refine one_ (i := 13) (N := some 67) (bA 18 16383) rfl rfl (one_of HT_.out (by kernel_rfl)) (by decide) (fun K hK => ?_)
                  refine Kd.R_lit_step (Kd.int .i64) _ 3 ?hg (N := 67) ?hd (xs := ([x13_3] : List Int)) (inner := [.int .i64 x13_3]) (ok := fun _ => True) (okp := fun _ => True) ?hr ?hp (fun _ hk => hk) trivial (Below.refl _ _) (Nat.le_refl _) (by simp) ?_; (case hd => rfl); (case hg => rfl); (case hr => first | (go_simp; done) | (go_simp; rfl)); (case hp => exact (Reps.one (show Kd.M (Kd.int .i64) _ _ _ x13_3 [.int .i64 x13_3] from rfl) (Reps.none _ _)))
                  intro v219 w37 ho38 hb hg_ hnew_
                  clear hg_ hnew_
                  (first | rw [← Ny218.out] at ho38 | (simp only [Int.reduceToNat] at ho38; rw [← Ny218.out] at ho38))
                  have HO220 := Aside0.mk (Kd.R_lower (Kd.R_new' (Kd.R_new' (Kd.R_new' ho38 (Kd.R_lt (by (with_reducible repeat (first | apply Kd.R_alloc | apply Kd.R_drewN | apply Kd.R_drew)); exact HO_6.out))) (Kd.R_lt (by (with_reducible repeat (first | apply Kd.R_alloc | apply Kd.R_drewN | apply Kd.R_drew)); exact HO_9.out))) (Kd.R_lt (by (with_reducible repeat (first | apply Kd.R_alloc | apply Kd.R_drewN | apply Kd.R_drew)); exact HO217.out))) (below_size (by repeat (first | (with_reducible first | exact HB.out | apply below_alloc | apply pw_below_drewN | apply below_drew1 | refine below_set ?_ GE210.out) | exact HB.out))))
                  replace HO_6 := Aside0.mk (Kd.R_elder' (by (with_reducible repeat (first | apply Kd.R_alloc | apply Kd.R_drewN | apply Kd.R_drew)); exact HO_6.out) (Kd.R_base ho38) hb)
                  replace HO_9 := Aside0.mk (Kd.R_elder' (by (with_reducible repeat (first | apply Kd.R_alloc | apply Kd.R_drewN | apply Kd.R_drew)); exact HO_9.out) (Kd.R_base ho38) hb)
                  replace HO217 := Aside0.mk (Kd.R_elder' (by (with_reducible repeat (first | apply Kd.R_alloc | apply Kd.R_drewN | apply Kd.R_drew)); exact HO217.out) (Kd.R_base ho38) hb)
                  replace BK210 := Aside0.mk (blk_below (g := gb210) (o := .cells #[.int .i64 ((rd_T36 l0 x49_2).f0.f0), .int .i64 ((rd_T36 l0 x49_2).f0.f1), .int .i64 ((rd_T36 l0 x49_2).f0.f2), .int .i64 ((rd_T36 l0 x49_2).f0.f3), .slice A209_4 ((rd_T36 l0 x49_2).f0.f4).length c209_4, .string ((rd_T36 l0 x49_2).f0.f5), .slice A209_6 ((rd_T36 l0 x49_2).f1).length c209_6, .int .i64 ((rd_T36 l0 x49_2).f2)] 36 (0, 0)) (by (with_reducible repeat (first | refine blk_drewN ?_ _ | refine blk_drew ?_ | refine blk_alloc ?_ _)); exact BK210.out) hb)
                  replace HB := Aside0.mk (below_step (by repeat (first | (with_reducible first | exact HB.out | apply below_alloc | apply pw_below_drewN | apply below_drew1 | refine below_set ?_ GE210.out) | exact HB.out)) hb)
                  clear hb ho38
                  refine hK.out _ _ ⟨(blk_cell BK210.out 0).trans rfl, (blk_cell BK210.out 1).trans rfl, (blk_cell BK210.out 2).trans rfl, (blk_cell BK210.out 3).trans rfl, (blk_cell BK210.out 4).trans rfl, (blk_cell BK210.out 5).trans rfl, (blk_cell BK210.out 6).trans rfl, (blk_cell BK210.out 7).trans rfl⟩ (fun hHeld => ?_)
                  clear hK K
                  refine norm_ (a' := ?_) ?_ ?_
                  rotate_left
                  · show Act.put _ (some 67) _ = _
                    simp only [Act.put, List.setIfInBounds_toArray, List.set_cons_zero, List.set_cons_succ, i64_w, i32_w]
                    rfl
                  exact norm_ (by simp only [putAll, Act.put, List.setIfInBounds_toArray, List.set_cons_zero, List.set_cons_succ]) (hCont (v216, v219) _ ⟨hHeld, (by (with_reducible repeat (first | apply Kd.R_alloc | apply Kd.R_drewN | apply Kd.R_drew)); exact Kd.R_mono HO217.out (fun _ hk => ⟨hk.2, ⟨hk.1.1.2, hk.1.2⟩⟩)), (by (with_reducible repeat (first | apply Kd.R_alloc | apply Kd.R_drewN | apply Kd.R_drew)); exact Kd.R_mono HO220.out (fun _ hk => ⟨hk.2, ⟨hk.1.1.2, hk.1.2⟩⟩)), (by (with_reducible repeat (first | apply Kd.R_alloc | apply Kd.R_drewN | apply Kd.R_drew)); exact Kd.R_mono HO_6.out (fun _ hk => ⟨hk.1.2, ⟨hk.2, hk.1.1⟩⟩)), (by (with_reducible repeat (first | apply Kd.R_alloc | apply Kd.R_drewN | apply Kd.R_drew)); exact Kd.R_mono HO_9.out (fun _ hk => ⟨hk.1.2, ⟨hk.2, hk.1.1⟩⟩)), (by (with_reducible repeat (first | refine blk_drewN ?_ _ | refine blk_drew ?_ | refine blk_alloc ?_ _)); exact BK210.out), (by repeat (first | (with_reducible first | exact HB.out | apply below_alloc | apply pw_below_drewN | apply below_drew1 | refine below_set ?_ GE210.out) | exact HB.out))⟩)
                · skip
                  refine Kd.R_lit_step (Kd.int .i64) _ 3 ?hg (N := 67) ?hd (xs := ([x13_3] : List Int)) (inner := [.int .i64 x13_3]) (ok := fun _ => True) (okp := fun _ => True) ?hr ?hp (fun _ hk => hk) trivial (Below.refl _ _) (Nat.le_refl _) (by simp) ?_; (case hd => rfl); (case hg => rfl); (case hr => first | (go_simp; done) | (go_simp; rfl)); (case hp => exact (Reps.one (show Kd.M (Kd.int .i64) _ _ _ x13_3 [.int .i64 x13_3] from rfl) (Reps.none _ _)))
                  intro v219 w36 ho37 hb hg_ hnew_
                  clear hg_ hnew_
                  (first | rw [← Ny218.out] at ho37 | (simp only [Int.reduceToNat] at ho37; rw [← Ny218.out] at ho37))
                  have HO220 := Aside0.mk (Kd.R_lower (Kd.R_new' (Kd.R_new' ho37 (Kd.R_lt (by (with_reducible repeat (first | apply Kd.R_alloc | apply Kd.R_drewN | apply Kd.R_drew)); exact HO_6.out))) (Kd.R_lt (by (with_reducible repeat (first | apply Kd.R_alloc | apply Kd.R_drewN | apply Kd.R_drew)); exact HO_9.out))) (below_size (by repeat (first | (with_reducible first | exact HB.out | apply below_alloc | apply pw_below_drewN | apply below_drew1 | refine below_set ?_ GE210.out) | exact HB.out))))
                  replace HO_6 := Aside0.mk (Kd.R_elder' (by (with_reducible repeat (first | apply Kd.R_alloc | apply Kd.R_drewN | apply Kd.R_drew)); exact HO_6.out) (Kd.R_base ho37) hb)
                  replace HO_9 := Aside0.mk (Kd.R_elder' (by (with_reducible repeat (first | apply Kd.R_alloc | apply Kd.R_drewN | apply Kd.R_drew)); exact HO_9.out) (Kd.R_base ho37) hb)
                  replace BK210 := Aside0.mk (blk_below (g := gb210) (o := .cells #[.int .i64 ((rd_T36 l0 x49_2).f0.f0), .int .i64 ((rd_T36 l0 x49_2).f0.f1), .int .i64 ((rd_T36 l0 x49_2).f0.f2), .int .i64 ((rd_T36 l0 x49_2).f0.f3), .slice A209_4 ((rd_T36 l0 x49_2).f0.f4).length c209_4, .string ((rd_T36 l0 x49_2).f0.f5), .slice A209_6 ((rd_T36 l0 x49_2).f1).length c209_6, .int .i64 ((rd_T36 l0 x49_2).f2)] 36 (0, 0)) (by (with_reducible repeat (first | refine blk_drewN ?_ _ | refine blk_drew ?_ | refine blk_alloc ?_ _)); exact BK210.out) hb)
                  replace HB := Aside0.mk (below_step (by repeat (first | (with_reducible first | exact HB.out | apply below_alloc | apply pw_below_drewN | apply below_drew1 | refine below_set ?_ GE210.out) | exact HB.out)) hb)
                  clear hb ho37
                  refine hK.out _ _ ⟨(blk_cell BK210.out 0).trans rfl, (blk_cell BK210.out 1).trans rfl, (blk_cell BK210.out 2).trans rfl, (blk_cell BK210.out 3).trans rfl, (blk_cell BK210.out 4).trans rfl, (blk_cell BK210.out 5).trans rfl, (blk_cell BK210.out 6).trans rfl, (blk_cell BK210.out 7).trans rfl⟩ (fun hHeld => ?_)
                  clear hK K
                  refine norm_ (a' := ?_) ?_ ?_
                  rotate_left
                  · show Act.put _ (some 67) _ = _
                    simp only [Act.put, List.setIfInBounds_toArray, List.set_cons_zero, List.set_cons_succ, i64_w, i32_w]
                    rfl
                  refine one_ (i := 11) (N := some 65) (bA 18 16383) rfl rfl (one_of HT_.out (by kernel_rfl)) (by decide) (fun K hK => ?_)
                  refine goes_ Try.func34 (by kernel_rfl) rfl #[.slice Ao33 x9_2.length co33] (by rfl) rfl rfl (by (try simp only [List.map_toArray, List.map_cons, List.map_nil]); first | done | rfl | (simp only [List.length_drop, List.length_take]; rfl)) ?_
                  with_reducible refine (slices_Clone_int_int.calls _ _ x9_2 t215 _ ?side1 ?side2 A27.out).mono ?_
                  (case side1 => repeat (first | exact (Kd.R_reads' HO_9.out).2.2 | (with_reducible refine Kd.C_alloc ?_ _) | (with_reducible refine Kd.C_drewN ?_ _) | (with_reducible refine Kd.C_drew ?_)))
                  (case side2 => exact (Kd.R_reads' HO_9.out).2.1)
                  rintro e w38 ⟨v216, rfl, ho0, hb⟩
                  refine ⟨_, rfl, ?_⟩
                  have HO217 := Aside0.mk (Kd.R_lower (Kd.R_new' (Kd.R_new' (Kd.R_new' ho0 (Kd.R_lt (by (with_reducible repeat (first | apply Kd.R_alloc | apply Kd.R_drewN | apply Kd.R_drew)); exact HO_6.out))) (Kd.R_lt (by (with_reducible repeat (first | apply Kd.R_alloc | apply Kd.R_drewN | apply Kd.R_drew)); exact HO_9.out))) (Kd.R_lt (by (with_reducible repeat (first | apply Kd.R_alloc | apply Kd.R_drewN | apply Kd.R_drew)); exact HO220.out))) (below_size (by repeat (first | (with_reducible first | exact HB.out | apply below_alloc | apply pw_below_drewN | apply below_drew1 | refine below_set ?_ GE210.out) | exact HB.out))))
                  replace HO_6 := Aside0.mk (Kd.R_elder' (by (with_reducible repeat (first | apply Kd.R_alloc | apply Kd.R_drewN | apply Kd.R_drew)); exact HO_6.out) (Kd.R_base ho0) hb)
                  replace HO_9 := Aside0.mk (Kd.R_elder' (by (with_reducible repeat (first | apply Kd.R_alloc | apply Kd.R_drewN | apply Kd.R_drew)); exact HO_9.out) (Kd.R_base ho0) hb)
                  replace HO220 := Aside0.mk (Kd.R_elder' (by (with_reducible repeat (first | apply Kd.R_alloc | apply Kd.R_drewN | apply Kd.R_drew)); exact HO220.out) (Kd.R_base ho0) hb)
                  replace BK210 := Aside0.mk (blk_below (g := gb210) (o := .cells #[.int .i64 ((rd_T36 l0 x49_2).f0.f0), .int .i64 ((rd_T36 l0 x49_2).f0.f1), .int .i64 ((rd_T36 l0 x49_2).f0.f2), .int .i64 ((rd_T36 l0 x49_2).f0.f3), .slice A209_4 ((rd_T36 l0 x49_2).f0.f4).length c209_4, .string ((rd_T36 l0 x49_2).f0.f5), .slice A209_6 ((rd_T36 l0 x49_2).f1).length c209_6, .int .i64 ((rd_T36 l0 x49_2).f2)] 36 (0, 0)) (by (with_reducible repeat (first | refine blk_drewN ?_ _ | refine blk_drew ?_ | refine blk_alloc ?_ _)); exact BK210.out) hb)
                  replace HB := Aside0.mk (below_step (by repeat (first | (with_reducible first | exact HB.out | apply below_alloc | apply pw_below_drewN | apply below_drew1 | refine below_set ?_ GE210.out) | exact HB.out)) hb)
                  (try clear hb)
                  (try clear hb2)
                  (try clear hk)
                  (try clear hi)
                  (try clear ho0)
                  refine hK.out _ _ ⟨(blk_cell BK210.out 0).trans rfl, (blk_cell BK210.out 1).trans rfl, (blk_cell BK210.out 2).trans rfl, (blk_cell BK210.out 3).trans rfl, (blk_cell BK210.out 4).trans rfl, (blk_cell BK210.out 5).trans rfl, (blk_cell BK210.out 6).trans rfl, (blk_cell BK210.out 7).trans rfl⟩ (fun hHeld => ?_)
                  clear hK K
                  refine norm_ (a' := ?_) ?_ ?_
                  rotate_left
                  · show Act.put _ (some 65) _ = _
                    simp only [Act.put, List.setIfInBounds_toArray, List.set_cons_zero, List.set_cons_succ, i64_w, i32_w]
                    rfl
                  exact norm_ (by simp only [putAll, Act.put, List.setIfInBounds_toArray, List.set_cons_zero, List.set_cons_succ]) (hCont (v216, v219) _ ⟨hHeld, (by (with_reducible repeat (first | apply Kd.R_alloc | apply Kd.R_drewN | apply Kd.R_drew)); exact Kd.R_mono HO217.out (fun _ hk => ⟨hk.2, ⟨hk.1.1.2, hk.1.2⟩⟩)), (by (with_reducible repeat (first | apply Kd.R_alloc | apply Kd.R_drewN | apply Kd.R_drew)); exact Kd.R_mono HO220.out (fun _ hk => ⟨hk.2, ⟨hk.1.1.2, hk.1.2⟩⟩)), (by (with_reducible repeat (first | apply Kd.R_alloc | apply Kd.R_drewN | apply Kd.R_drew)); exact Kd.R_mono HO_6.out (fun _ hk => ⟨hk.2, ⟨hk.1.2, hk.1.1⟩⟩)), (by (with_reducible repeat (first | apply Kd.R_alloc | apply Kd.R_drewN | apply Kd.R_drew)); exact Kd.R_mono HO_9.out (fun _ hk => ⟨hk.2, ⟨hk.1.2, hk.1.1⟩⟩)), (by (with_reducible repeat (first | refine blk_drewN ?_ _ | refine blk_drew ?_ | refine blk_alloc ?_ _)); exact BK210.out), (by repeat (first | (with_reducible first | exact HB.out | apply below_alloc | apply pw_below_drewN | apply below_drew1 | refine below_set ?_ GE210.out) | exact HB.out))⟩)
              rintro ⟨v216, v219⟩ w39 ⟨hS_, h0_, h1_, h2_, h3_, h4_, h5_⟩
              have HO217 : Aside0 (Kd.R (Kd.int .i64) 3 w39 w.heap.size (fun k_ => some k_ ≠ (v219 : Value).ownBlock ∧ some k_ ≠ (v206 : Value).ownBlock ∧ some k_ ≠ (.slice Ao33 x9_2.length co33 : Value).ownBlock) v216 t215) := ⟨h0_⟩
              have HO220 : Aside0 (Kd.R (Kd.int .i64) 3 w39 w.heap.size (fun k_ => some k_ ≠ (v216 : Value).ownBlock ∧ some k_ ≠ (v206 : Value).ownBlock ∧ some k_ ≠ (.slice Ao33 x9_2.length co33 : Value).ownBlock) v219 y218) := ⟨h1_⟩
              replace HO_6 : Aside0 (Kd.R (Kd.int .i64) 3 w39 w.heap.size (fun k_ => some k_ ≠ (v216 : Value).ownBlock ∧ some k_ ≠ (v219 : Value).ownBlock ∧ some k_ ≠ (.slice Ao33 x9_2.length co33 : Value).ownBlock) v206 t203) := ⟨h2_⟩
              replace HO_9 : Aside0 (Kd.R (Kd.int .i64) 3 w39 w.heap.size (fun k_ => some k_ ≠ (v216 : Value).ownBlock ∧ some k_ ≠ (v219 : Value).ownBlock ∧ some k_ ≠ (v206 : Value).ownBlock) (.slice Ao33 x9_2.length co33) x9_2) := ⟨h3_⟩
              replace BK210 : Aside0 (w39.heap[gb210]? = some (.cells #[.int .i64 ((rd_T36 l0 x49_2).f0.f0), .int .i64 ((rd_T36 l0 x49_2).f0.f1), .int .i64 ((rd_T36 l0 x49_2).f0.f2), .int .i64 ((rd_T36 l0 x49_2).f0.f3), .slice A209_4 ((rd_T36 l0 x49_2).f0.f4).length c209_4, .string ((rd_T36 l0 x49_2).f0.f5), .slice A209_6 ((rd_T36 l0 x49_2).f1).length c209_6, .int .i64 ((rd_T36 l0 x49_2).f2)] 36 (0, 0))) := ⟨h4_⟩
              replace HB : Aside0 (Below w.heap.size w w39) := ⟨h5_⟩
              clear h0_ h1_ h2_ h3_ h4_ h5_
              have hHeld : w39.cell? ⟨gb210, 0, none⟩ = some (.int .i64 ((rd_T36 l0 x49_2).f0.f0)) ∧ w39.cell? ⟨gb210, 1, none⟩ = some (.int .i64 ((rd_T36 l0 x49_2).f0.f1)) ∧ w39.cell? ⟨gb210, 2, none⟩ = some (.int .i64 ((rd_T36 l0 x49_2).f0.f2)) ∧ w39.cell? ⟨gb210, 3, none⟩ = some (.int .i64 ((rd_T36 l0 x49_2).f0.f3)) ∧ w39.cell? ⟨gb210, 4, none⟩ = some (.slice A209_4 ((rd_T36 l0 x49_2).f0.f4).length c209_4) ∧ w39.cell? ⟨gb210, 5, none⟩ = some (.string ((rd_T36 l0 x49_2).f0.f5)) ∧ w39.cell? ⟨gb210, 6, none⟩ = some (.slice A209_6 ((rd_T36 l0 x49_2).f1).length c209_6) ∧ w39.cell? ⟨gb210, 7, none⟩ = some (.int .i64 ((rd_T36 l0 x49_2).f2)) := hS_
              obtain ⟨Ao41, co41, eo41⟩ := Kd.R_slice HO220.out
              (first | subst eo41 | (injection eo41 with f1_ f2_ f3_; have f4_ := f1_.symm; have f5_ := f3_.symm; clear f1_ f2_ f3_; subst f4_; subst f5_))
              refine norm_ (a' := ?_) ?_ ?_
              rotate_left
              · simp only [putAll, Act.put, List.setIfInBounds_toArray, List.set_cons_zero, List.set_cons_succ]
                rfl
              refine one_ (i := 14) (N := some 68) (bA 18 32767) rfl rfl (one_of HT_.out (by kernel_rfl)) (by decide) (fun K hK => ?_)
              refine Kd.R_append_rows_step (Kd.int .i64) (w0 := w) w.heap.size (by rfl) (.tmp 65) (.tmp 67) 22 3 (.int .i64 0) 8 rfl Try.underlying22 info3 rfl (by decide) (by omega) v216 t215 y218 _ _ _ (fun k_ => some k_ ≠ (v206 : Value).ownBlock ∧ some k_ ≠ (.slice Ao33 x9_2.length co33 : Value).ownBlock ∧ some k_ ≠ (.slice Ao41 y218.length co41 : Value).ownBlock) (fun _ => False) rfl rfl ?aO ?aR (fun _ _ h => h) (fun _ h => h.elim) ?aF ?aB ?aS ?aL ?_
              (case aR => repeat (first | exact (Kd.R_reads' HO220.out).2.2 | (with_reducible refine Kd.C_alloc ?_ _) | (with_reducible refine Kd.C_drewN ?_ _) | (with_reducible refine Kd.C_drew ?_)))
              (case aB => exact (by repeat (first | (with_reducible first | exact HB.out | apply below_alloc | apply pw_below_drewN | apply below_drew1 | refine below_set ?_ GE210.out) | exact HB.out)))
              (case aF => exact (fun k_ hk => ⟨Kd.fresh' (Kd.R_lt (by (with_reducible repeat (first | apply Kd.R_alloc | apply Kd.R_drewN | apply Kd.R_drew)); exact HO_6.out)) k_ hk, Kd.fresh' (Kd.R_lt (by (with_reducible repeat (first | apply Kd.R_alloc | apply Kd.R_drewN | apply Kd.R_drew)); exact HO_9.out)) k_ hk, Kd.fresh' (Kd.R_lt (by (with_reducible repeat (first | apply Kd.R_alloc | apply Kd.R_drewN | apply Kd.R_drew)); exact HO220.out)) k_ hk⟩))
              (case aO => exact (by (with_reducible repeat (first | apply Kd.R_alloc | apply Kd.R_drewN | apply Kd.R_drew)); exact Kd.R_mono HO217.out (fun _ hk => ⟨hk.2.1, ⟨hk.2.2, hk.1⟩⟩)))
              (case aS => exact (below_size (by repeat (first | (with_reducible first | exact HB.out | apply below_alloc | apply pw_below_drewN | apply below_drew1 | refine below_set ?_ GE210.out) | exact HB.out))))
              (case aL => have := LMc28.out; omega)
              intro v222 w40 ho hb hg hat
              rw [← Ny221.out] at ho
              have HO223 := Aside0.mk (ho)
              replace HO_6 := Aside0.mk (Kd.R_after (ok := (fun k_ => some k_ ≠ (.slice Ao33 x9_2.length co33 : Value).ownBlock ∧ some k_ ≠ (.slice Ao41 y218.length co41 : Value).ownBlock)) (by (with_reducible repeat (first | apply Kd.R_alloc | apply Kd.R_drewN | apply Kd.R_drew)); exact Kd.R_mono HO_6.out (fun _ hk => ⟨⟨hk.2.2, hk.2.1⟩, hk.1⟩)) hg hat)
              replace HO_9 := Aside0.mk (Kd.R_after (ok := (fun k_ => some k_ ≠ (v206 : Value).ownBlock ∧ some k_ ≠ (.slice Ao41 y218.length co41 : Value).ownBlock)) (by (with_reducible repeat (first | apply Kd.R_alloc | apply Kd.R_drewN | apply Kd.R_drew)); exact Kd.R_mono HO_9.out (fun _ hk => ⟨⟨hk.2.2, hk.2.1⟩, hk.1⟩)) hg hat)
              replace BK210 := Aside0.mk (blk_grown (g := gb210) (o := .cells #[.int .i64 ((rd_T36 l0 x49_2).f0.f0), .int .i64 ((rd_T36 l0 x49_2).f0.f1), .int .i64 ((rd_T36 l0 x49_2).f0.f2), .int .i64 ((rd_T36 l0 x49_2).f0.f3), .slice A209_4 ((rd_T36 l0 x49_2).f0.f4).length c209_4, .string ((rd_T36 l0 x49_2).f0.f5), .slice A209_6 ((rd_T36 l0 x49_2).f1).length c209_6, .int .i64 ((rd_T36 l0 x49_2).f2)] 36 (0, 0)) (by (with_reducible repeat (first | refine blk_drewN ?_ _ | refine blk_drew ?_ | refine blk_alloc ?_ _)); exact BK210.out) hg (Kd.R_ne HO217.out BK210.out (by decide)))
              replace HO220 := Aside0.mk (Kd.R_after (ok := (fun k_ => some k_ ≠ (v206 : Value).ownBlock ∧ some k_ ≠ (.slice Ao33 x9_2.length co33 : Value).ownBlock)) (by (with_reducible repeat (first | apply Kd.R_alloc | apply Kd.R_drewN | apply Kd.R_drew)); exact Kd.R_mono HO220.out (fun _ hk => ⟨⟨hk.2.1, hk.2.2⟩, hk.1⟩)) hg hat)
              replace HB := Aside0.mk (hb)
              clear HO217 ho hb hg hat
              obtain ⟨Ao42, co42, eo42⟩ := Kd.R_slice HO223.out
              (first | subst eo42 | (injection eo42 with f1_ f2_ f3_; have f4_ := f1_.symm; have f5_ := f3_.symm; clear f1_ f2_ f3_; subst f4_; subst f5_))
              refine hK.out _ _ ⟨(blk_cell BK210.out 0).trans rfl, (blk_cell BK210.out 1).trans rfl, (blk_cell BK210.out 2).trans rfl, (blk_cell BK210.out 3).trans rfl, (blk_cell BK210.out 4).trans rfl, (blk_cell BK210.out 5).trans rfl, (blk_cell BK210.out 6).trans rfl, (blk_cell BK210.out 7).trans rfl⟩ (fun hHeld => ?_)
              clear hK K
              refine norm_ (a' := ?_) ?_ ?_
              rotate_left
              · show Act.put _ (some 68) _ = _
                simp only [Act.put, List.setIfInBounds_toArray, List.set_cons_zero, List.set_cons_succ, i64_w, i32_w]
                rfl
              refine one_ (i := 15) (N := some 69) (bA 18 65535) rfl rfl (one_of HT_.out (by kernel_rfl)) (by decide) (fun K hK => ?_)
              refine goes_ Try.func33 (by kernel_rfl) rfl #[.slice (some ad209) y211.length c0, .slice Ao42 y221.length co42] (by rfl) rfl rfl (by (try simp only [List.map_toArray, List.map_cons, List.map_nil]); first | done | rfl | (simp only [List.length_drop, List.length_take]; rfl)) ?_
              with_reducible refine (terrlaw5_possible.calls k3 _ _ y211 _ _ y221 t224 _ ?side1 ?side2 ?side3 ?side4 A29.out).mono ?_
              (case side1 => repeat (first | exact (Kd.C_below HR214.out HB.out) | (with_reducible refine Kd.C_alloc ?_ _) | (with_reducible refine Kd.C_drewN ?_ _) | (with_reducible refine Kd.C_drew ?_)))
              (case side2 => exact HC214.out)
              (case side3 => repeat (first | exact (Kd.R_reads' HO223.out).2.2 | (with_reducible refine Kd.C_alloc ?_ _) | (with_reducible refine Kd.C_drewN ?_ _) | (with_reducible refine Kd.C_drew ?_)))
              (case side4 => exact (Kd.R_reads' HO223.out).2.1)
              rintro e w43 ⟨rfl, hb⟩
              refine ⟨_, rfl, ?_⟩
              replace HO_6 := Aside0.mk (Kd.R_below (by (with_reducible repeat (first | apply Kd.R_alloc | apply Kd.R_drewN | apply Kd.R_drew)); exact HO_6.out) hb)
              replace HO_9 := Aside0.mk (Kd.R_below (by (with_reducible repeat (first | apply Kd.R_alloc | apply Kd.R_drewN | apply Kd.R_drew)); exact HO_9.out) hb)
              replace HO220 := Aside0.mk (Kd.R_below (by (with_reducible repeat (first | apply Kd.R_alloc | apply Kd.R_drewN | apply Kd.R_drew)); exact HO220.out) hb)
              replace HO223 := Aside0.mk (Kd.R_below (by (with_reducible repeat (first | apply Kd.R_alloc | apply Kd.R_drewN | apply Kd.R_drew)); exact HO223.out) hb)
              replace BK210 := Aside0.mk (blk_below (g := gb210) (o := .cells #[.int .i64 ((rd_T36 l0 x49_2).f0.f0), .int .i64 ((rd_T36 l0 x49_2).f0.f1), .int .i64 ((rd_T36 l0 x49_2).f0.f2), .int .i64 ((rd_T36 l0 x49_2).f0.f3), .slice A209_4 ((rd_T36 l0 x49_2).f0.f4).length c209_4, .string ((rd_T36 l0 x49_2).f0.f5), .slice A209_6 ((rd_T36 l0 x49_2).f1).length c209_6, .int .i64 ((rd_T36 l0 x49_2).f2)] 36 (0, 0)) (by (with_reducible repeat (first | refine blk_drewN ?_ _ | refine blk_drew ?_ | refine blk_alloc ?_ _)); exact BK210.out) hb)
              replace HB := Aside0.mk (below_step (by repeat (first | (with_reducible first | exact HB.out | apply below_alloc | apply pw_below_drewN | apply below_drew1 | refine below_set ?_ GE210.out) | exact HB.out)) hb)
              (try clear hb)
              (try clear hb2)
              (try clear hk)
              (try clear hi)
              refine hK.out _ _ ⟨(blk_cell BK210.out 0).trans rfl, (blk_cell BK210.out 1).trans rfl, (blk_cell BK210.out 2).trans rfl, (blk_cell BK210.out 3).trans rfl, (blk_cell BK210.out 4).trans rfl, (blk_cell BK210.out 5).trans rfl, (blk_cell BK210.out 6).trans rfl, (blk_cell BK210.out 7).trans rfl⟩ (fun hHeld => ?_)
              clear hK K
              refine norm_ (a' := ?_) ?_ ?_
              rotate_left
              · show Act.put _ (some 69) _ = _
                simp only [Act.put, List.setIfInBounds_toArray, List.set_cons_zero, List.set_cons_succ, i64_w, i32_w]
                rfl
              refine pure_ (i := 16) (N := some 70) (v := ?_) (a' := ?_) (bA 18 131071) rfl rfl (any_of HT_.out (by kernel_rfl)) (fun _ _ _ h => h) (Or.inl ⟨by rfl, ?_⟩) ?_ ?_
              rotate_left
              · intro w'
                go_simp
                with_reducible rfl
              rotate_left
              · simp only [Act.put, List.setIfInBounds_toArray, List.set_cons_zero, List.set_cons_succ, i64_w, i32_w]
                rfl
              refine pure_ (i := 17) (N := some 71) (v := ?_) (a' := ?_) (bA 18 262143) rfl rfl (any_of HT_.out (by kernel_rfl)) (fun _ _ _ h => h) (Or.inl ⟨by rfl, ?_⟩) ?_ ?_
              rotate_left
              · intro w'
                go_simp
                with_reducible rfl
              rotate_left
              · simp only [Act.put, List.setIfInBounds_toArray, List.set_cons_zero, List.set_cons_succ, i64_w, i32_w]
                rfl
              refine done_ (done_of HT_.out (by kernel_rfl)) ?_
              have H := HHo.out
              clear HHo
              by_cases c30 : t224 = true
              rotate_left
              · replace c30 := Bool.eq_false_iff.mpr c30
                subst c30
                have H1 : (terrlaw5_PlaceClears.l1 k3 l0 t203 t204 t205 x9_2 x10_2 x49_2 (wrap64 (x13_3 + 1)) l0 (l0.length : Int) x49_2 ((rd_T36 l0 x49_2).f0.f0) ((rd_T36 l0 x49_2).f0.f1) ((rd_T36 l0 x49_2).f0.f2) ((rd_T36 l0 x49_2).f0.f3) ((rd_T36 l0 x49_2).f0.f4) ((rd_T36 l0 x49_2).f0.f5) ((rd_T36 l0 x49_2).f1) ((rd_T36 l0 x49_2).f2)) = some r := by rw [if_neg (show ¬ (false = true) by decide)] at H; exact H
                clear H
                have H := H1
                clear H1
                have H' := Aside0.mk H
                clear H
                try go_wp2
                go_roundg k3
                case measure => have := HJ2.out; have := HK2.out; have := HK3.out; omega
                case rel => exact ⟨(wrap64 (x13_3 + 1)), (by first | rfl | (simp; done) | (simp [*]; done)), H', ⟨by have := HJ2.out; have := HK2.out; have := HK3.out; omega⟩, ⟨by (with_reducible repeat (first | apply Kd.R_alloc | apply Kd.R_drewN | apply Kd.R_drew)); exact Kd.R_mono HO_6.out (fun _ hk => hk.1.1)⟩, ⟨by (with_reducible repeat (first | apply Kd.R_alloc | apply Kd.R_drewN | apply Kd.R_drew)); exact Kd.R_mono HO_9.out (fun _ hk => hk.1.1)⟩, ⟨by (with_reducible repeat (first | refine blk_drewN ?_ _ | refine blk_drew ?_ | refine blk_alloc ?_ _)); exact BK210.out⟩, ⟨by repeat (first | (with_reducible first | exact HB.out | apply below_alloc | apply pw_below_drewN | apply below_drew1 | refine below_set ?_ GE210.out) | exact HB.out)⟩⟩
              subst c30
              have H1 : (if x13_3 = (((rd_T36 l0 x49_2).f1).length : Int) then ((some (([(-1)] : List Int) : List Int)).bind fun y225 => (if x9_2.length + y225.length < 17592186044416 then (terrlaw5_PlaceClears.l0 k3 l0 t203 t204 t205 (x9_2 ++ y225) x10_2 l0 (l0.length : Int) ji24) else (none))) else ((some (([x13_3] : List Int) : List Int)).bind fun y231 => (if x9_2.length + y231.length < 17592186044416 then (terrlaw5_PlaceClears.l0 k3 l0 t203 t204 t205 (x9_2 ++ y231) (wrap64 (x10_2 + ((rd_T36 l0 x49_2).f2))) l0 (l0.length : Int) ji24) else (none)))) = some r := by rw [if_pos rfl] at H; exact H
              clear H
              have H := H1
              clear H1
              by_cases c31 : x13_3 = (((rd_T36 l0 x49_2).f1).length : Int)
              · rw [if_pos c31] at H
                have c31b0 : (x13_3 == (((rd_T36 l0 x49_2).f1).length : Int)) = true := beq_iff_eq.mpr c31
                have c31b1 : (x13_3 != (((rd_T36 l0 x49_2).f1).length : Int)) = false := bne_eq_false_iff_eq.mpr c31
                clear c31
                obtain ⟨y225, hy225⟩ : ∃ y_ : List Int, y_ = (([(-1)] : List Int)) := ⟨_, rfl⟩
                replace H : (if x9_2.length + y225.length < 17592186044416 then (terrlaw5_PlaceClears.l0 k3 l0 t203 t204 t205 (x9_2 ++ y225) x10_2 l0 (l0.length : Int) ji24) else (none)) = some r := by first | (rw [hy225]; with_reducible exact H) | (have H2_ := (Option.bind_some _ _).symm.trans H; rw [hy225]; with_reducible exact H2_) | (have H2_ := (Option.bind_some _ _).symm.trans H; with_reducible exact H2_) | with_reducible exact H | (rw [hy225]; exact H) | exact H
                have Ny225 := Aside0.mk hy225
                clear hy225
                by_cases c32 : x9_2.length + y225.length < 17592186044416
                rotate_left
                · rw [if_neg c32] at H
                  exact absurd H (by simp)
                rw [if_pos c32] at H
                have LMc32 := Aside0.mk c32
                clear c32
                obtain ⟨y228, hy228⟩ : ∃ y_ : List Int, y_ = (x9_2 ++ y225) := ⟨_, rfl⟩
                replace H : (terrlaw5_PlaceClears.l0 k3 l0 t203 t204 t205 y228 x10_2 l0 (l0.length : Int) ji24) = some r := by first | (rw [hy228]; with_reducible exact H) | (have H2_ := (Option.bind_some _ _).symm.trans H; rw [hy228]; with_reducible exact H2_) | (have H2_ := (Option.bind_some _ _).symm.trans H; with_reducible exact H2_) | with_reducible exact H | (rw [hy228]; exact H) | exact H
                have Ny228 := Aside0.mk hy228
                clear hy228
                have H' := Aside0.mk H
                clear H
                have hcz44_0 : w43.cell? ⟨gb210, 0, none⟩ = some (.int .i64 ((rd_T36 l0 x49_2).f0.f0)) := (blk_cell BK210.out 0).trans rfl
                have hcz44_1 : w43.cell? ⟨gb210, 1, none⟩ = some (.int .i64 ((rd_T36 l0 x49_2).f0.f1)) := (blk_cell BK210.out 1).trans rfl
                have hcz44_2 : w43.cell? ⟨gb210, 2, none⟩ = some (.int .i64 ((rd_T36 l0 x49_2).f0.f2)) := (blk_cell BK210.out 2).trans rfl
                have hcz44_3 : w43.cell? ⟨gb210, 3, none⟩ = some (.int .i64 ((rd_T36 l0 x49_2).f0.f3)) := (blk_cell BK210.out 3).trans rfl
                have hcz44_4 : w43.cell? ⟨gb210, 4, none⟩ = some (.slice A209_4 ((rd_T36 l0 x49_2).f0.f4).length c209_4) := (blk_cell BK210.out 4).trans rfl
                have hcz44_5 : w43.cell? ⟨gb210, 5, none⟩ = some (.string ((rd_T36 l0 x49_2).f0.f5)) := (blk_cell BK210.out 5).trans rfl
                have hcz44_6 : w43.cell? ⟨gb210, 6, none⟩ = some (.slice A209_6 ((rd_T36 l0 x49_2).f1).length c209_6) := (blk_cell BK210.out 6).trans rfl
                have hcz44_7 : w43.cell? ⟨gb210, 7, none⟩ = some (.int .i64 ((rd_T36 l0 x49_2).f2)) := (blk_cell BK210.out 7).trans rfl
                have hfz44_0 := blk_frozen BK210.out 0
                have hfz44_1 := blk_frozen BK210.out 1
                have hfz44_2 := blk_frozen BK210.out 2
                have hfz44_3 := blk_frozen BK210.out 3
                have hfz44_4 := blk_frozen BK210.out 4
                have hfz44_5 := blk_frozen BK210.out 5
                have hfz44_6 := blk_frozen BK210.out 6
                have hfz44_7 := blk_frozen BK210.out 7
                try go_wp2_with (first | ((with_reducible refine gate_dst (N := 85) rfl ?_); (try (refine gate_guard (by rfl) ?_; dsimp only)); refine Kd.R_lit (Kd.int .i64) _ 3 ?hg (N := 85) ?hd (xs := ([(-1)] : List Int)) (inner := [.int .i64 (-1)]) (ok := fun _ => True) (okp := fun _ => True) ?hr ?hp (fun _ hk => hk) trivial (Below.refl _ _) (Nat.le_refl _) (by simp) ?_; (case hd => rfl); (case hg => rfl); (case hr => first | (go_simp; done) | (go_simp; rfl)); (case hp => exact (Reps.one (show Kd.M (Kd.int .i64) _ _ _ (-1) [.int .i64 (-1)] from rfl) (Reps.none _ _))); intro v226 w45 ho46 hb hg_ hnew_; clear hg_ hnew_; (first | rw [← Ny225.out] at ho46 | (simp only [Int.reduceToNat] at ho46; rw [← Ny225.out] at ho46)); have HO227 := Aside0.mk (Kd.R_lower (Kd.R_new' (Kd.R_new' (Kd.R_new' (Kd.R_new' ho46 (Kd.R_lt (by (with_reducible repeat (first | apply Kd.R_alloc | apply Kd.R_drewN | apply Kd.R_drew)); exact HO_6.out))) (Kd.R_lt (by (with_reducible repeat (first | apply Kd.R_alloc | apply Kd.R_drewN | apply Kd.R_drew)); exact HO_9.out))) (Kd.R_lt (by (with_reducible repeat (first | apply Kd.R_alloc | apply Kd.R_drewN | apply Kd.R_drew)); exact HO220.out))) (Kd.R_lt (by (with_reducible repeat (first | apply Kd.R_alloc | apply Kd.R_drewN | apply Kd.R_drew)); exact HO223.out))) (below_size (by repeat (first | (with_reducible first | exact HB.out | apply below_alloc | apply pw_below_drewN | apply below_drew1 | refine below_set ?_ GE210.out) | exact HB.out)))); replace HO_6 := Aside0.mk (Kd.R_elder' (by (with_reducible repeat (first | apply Kd.R_alloc | apply Kd.R_drewN | apply Kd.R_drew)); exact HO_6.out) (Kd.R_base ho46) hb); replace HO_9 := Aside0.mk (Kd.R_elder' (by (with_reducible repeat (first | apply Kd.R_alloc | apply Kd.R_drewN | apply Kd.R_drew)); exact HO_9.out) (Kd.R_base ho46) hb); replace HO220 := Aside0.mk (Kd.R_elder' (by (with_reducible repeat (first | apply Kd.R_alloc | apply Kd.R_drewN | apply Kd.R_drew)); exact HO220.out) (Kd.R_base ho46) hb); replace HO223 := Aside0.mk (Kd.R_elder' (by (with_reducible repeat (first | apply Kd.R_alloc | apply Kd.R_drewN | apply Kd.R_drew)); exact HO223.out) (Kd.R_base ho46) hb); replace BK210 := Aside0.mk (blk_below (g := gb210) (o := .cells #[.int .i64 ((rd_T36 l0 x49_2).f0.f0), .int .i64 ((rd_T36 l0 x49_2).f0.f1), .int .i64 ((rd_T36 l0 x49_2).f0.f2), .int .i64 ((rd_T36 l0 x49_2).f0.f3), .slice A209_4 ((rd_T36 l0 x49_2).f0.f4).length c209_4, .string ((rd_T36 l0 x49_2).f0.f5), .slice A209_6 ((rd_T36 l0 x49_2).f1).length c209_6, .int .i64 ((rd_T36 l0 x49_2).f2)] 36 (0, 0)) (by (with_reducible repeat (first | refine blk_drewN ?_ _ | refine blk_drew ?_ | refine blk_alloc ?_ _)); exact BK210.out) hb); replace HB := Aside0.mk (below_step (by repeat (first | (with_reducible first | exact HB.out | apply below_alloc | apply pw_below_drewN | apply below_drew1 | refine below_set ?_ GE210.out) | exact HB.out)) hb); clear hb ho46; obtain ⟨Ao48, co48, eo48⟩ := Kd.R_slice HO227.out; subst eo48) | ((with_reducible refine gate_builtin (b := .append) (xs := #[.tmp 83, .tmp 85]) rfl ?_); (try (refine gate_guard (by rfl) ?_; dsimp only)); at_builtin; refine Kd.R_append_rows (Kd.int .i64) (w0 := w) w.heap.size rfl (.tmp 83) (.tmp 85) 22 3 (.int .i64 0) 8 rfl Try.underlying22 info3 rfl (by decide) (by omega) (.slice Ao33 x9_2.length co33) x9_2 y225 _ _ _ (fun k_ => some k_ ≠ (v206 : Value).ownBlock ∧ some k_ ≠ (.slice Ao41 y218.length co41 : Value).ownBlock ∧ some k_ ≠ (.slice Ao42 y221.length co42 : Value).ownBlock ∧ some k_ ≠ (.slice Ao48 y225.length co48 : Value).ownBlock) (fun _ => False) rfl rfl ?aO ?aR (fun _ _ h => h) (fun _ h => h.elim) ?aF ?aB ?aS ?aL ?_; (case aR => repeat (first | exact (Kd.R_reads' HO227.out).2.2 | (with_reducible refine Kd.C_alloc ?_ _) | (with_reducible refine Kd.C_drewN ?_ _) | (with_reducible refine Kd.C_drew ?_))); (case aB => exact (by repeat (first | (with_reducible first | exact HB.out | apply below_alloc | apply pw_below_drewN | apply below_drew1 | refine below_set ?_ GE210.out) | exact HB.out))); (case aF => exact (fun k_ hk => ⟨Kd.fresh' (Kd.R_lt (by (with_reducible repeat (first | apply Kd.R_alloc | apply Kd.R_drewN | apply Kd.R_drew)); exact HO_6.out)) k_ hk, Kd.fresh' (Kd.R_lt (by (with_reducible repeat (first | apply Kd.R_alloc | apply Kd.R_drewN | apply Kd.R_drew)); exact HO220.out)) k_ hk, Kd.fresh' (Kd.R_lt (by (with_reducible repeat (first | apply Kd.R_alloc | apply Kd.R_drewN | apply Kd.R_drew)); exact HO223.out)) k_ hk, Kd.fresh' (Kd.R_lt (by (with_reducible repeat (first | apply Kd.R_alloc | apply Kd.R_drewN | apply Kd.R_drew)); exact HO227.out)) k_ hk⟩)); (case aO => exact (by (with_reducible repeat (first | apply Kd.R_alloc | apply Kd.R_drewN | apply Kd.R_drew)); exact Kd.R_mono HO_9.out (fun _ hk => ⟨hk.1.1.1, ⟨hk.1.1.2, ⟨hk.1.2, hk.2⟩⟩⟩))); (case aS => exact (below_size (by repeat (first | (with_reducible first | exact HB.out | apply below_alloc | apply pw_below_drewN | apply below_drew1 | refine below_set ?_ GE210.out) | exact HB.out)))); (case aL => have := LMc32.out; omega); intro v229 w47 ho hb hg hat; rw [← Ny228.out] at ho; have HO230 := Aside0.mk (ho); replace HO_6 := Aside0.mk (Kd.R_after (ok := (fun k_ => some k_ ≠ (.slice Ao41 y218.length co41 : Value).ownBlock ∧ some k_ ≠ (.slice Ao42 y221.length co42 : Value).ownBlock ∧ some k_ ≠ (.slice Ao48 y225.length co48 : Value).ownBlock)) (by (with_reducible repeat (first | apply Kd.R_alloc | apply Kd.R_drewN | apply Kd.R_drew)); exact Kd.R_mono HO_6.out (fun _ hk => ⟨⟨hk.1.1.2, ⟨hk.1.2, hk.2⟩⟩, hk.1.1.1⟩)) hg hat); replace BK210 := Aside0.mk (blk_grown (g := gb210) (o := .cells #[.int .i64 ((rd_T36 l0 x49_2).f0.f0), .int .i64 ((rd_T36 l0 x49_2).f0.f1), .int .i64 ((rd_T36 l0 x49_2).f0.f2), .int .i64 ((rd_T36 l0 x49_2).f0.f3), .slice A209_4 ((rd_T36 l0 x49_2).f0.f4).length c209_4, .string ((rd_T36 l0 x49_2).f0.f5), .slice A209_6 ((rd_T36 l0 x49_2).f1).length c209_6, .int .i64 ((rd_T36 l0 x49_2).f2)] 36 (0, 0)) (by (with_reducible repeat (first | refine blk_drewN ?_ _ | refine blk_drew ?_ | refine blk_alloc ?_ _)); exact BK210.out) hg (Kd.R_ne HO_9.out BK210.out (by decide))); replace HO220 := Aside0.mk (Kd.R_after (ok := (fun k_ => some k_ ≠ (v206 : Value).ownBlock ∧ some k_ ≠ (.slice Ao42 y221.length co42 : Value).ownBlock ∧ some k_ ≠ (.slice Ao48 y225.length co48 : Value).ownBlock)) (by (with_reducible repeat (first | apply Kd.R_alloc | apply Kd.R_drewN | apply Kd.R_drew)); exact Kd.R_mono HO220.out (fun _ hk => ⟨⟨hk.1.1.1, ⟨hk.1.2, hk.2⟩⟩, hk.1.1.2⟩)) hg hat); replace HO223 := Aside0.mk (Kd.R_after (ok := (fun k_ => some k_ ≠ (v206 : Value).ownBlock ∧ some k_ ≠ (.slice Ao41 y218.length co41 : Value).ownBlock ∧ some k_ ≠ (.slice Ao48 y225.length co48 : Value).ownBlock)) (by (with_reducible repeat (first | apply Kd.R_alloc | apply Kd.R_drewN | apply Kd.R_drew)); exact Kd.R_mono HO223.out (fun _ hk => ⟨⟨hk.1.1, ⟨hk.1.2.2, hk.2⟩⟩, hk.1.2.1⟩)) hg hat); replace HO227 := Aside0.mk (Kd.R_after (ok := (fun k_ => some k_ ≠ (v206 : Value).ownBlock ∧ some k_ ≠ (.slice Ao41 y218.length co41 : Value).ownBlock ∧ some k_ ≠ (.slice Ao42 y221.length co42 : Value).ownBlock)) (by (with_reducible repeat (first | apply Kd.R_alloc | apply Kd.R_drewN | apply Kd.R_drew)); exact Kd.R_mono HO227.out (fun _ hk => ⟨⟨hk.1.1.1.2, ⟨hk.1.2, hk.2⟩⟩, hk.1.1.2⟩)) hg hat); replace HB := Aside0.mk (hb); clear HO_9 ho hb hg hat))
                go_roundg k3
                case measure => have := HJ2.out; have := HK2.out; have := HK3.out; omega
                case rel => exact ⟨(y228), (x10_2), (ji24), (by first | rfl | (simp; done) | (simp [*]; done)), (by first | rfl | (simp; done) | (simp only [← hji24] <;> (first | rfl | simp)) | (simp [*]; done)), H', ⟨by have := HJ2.out; have := HK2.out; have := HK3.out; omega⟩, ⟨by (with_reducible repeat (first | apply Kd.R_alloc | apply Kd.R_drewN | apply Kd.R_drew)); exact Kd.R_mono HO_6.out (fun _ hk => hk.2)⟩, ⟨by (with_reducible repeat (first | apply Kd.R_alloc | apply Kd.R_drewN | apply Kd.R_drew)); exact Kd.R_mono HO230.out (fun _ hk => hk.1)⟩, ⟨by repeat (first | (with_reducible first | exact HB.out | apply below_alloc | apply pw_below_drewN | apply below_drew1 | refine below_set ?_ GE210.out) | exact HB.out)⟩⟩
              rw [if_neg c31] at H
              have c31b0 : (x13_3 == (((rd_T36 l0 x49_2).f1).length : Int)) = false := beq_eq_false_iff_ne.mpr c31
              have c31b1 : (x13_3 != (((rd_T36 l0 x49_2).f1).length : Int)) = true := bne_iff_ne.mpr c31
              obtain ⟨y231, hy231⟩ : ∃ y_ : List Int, y_ = (([x13_3] : List Int)) := ⟨_, rfl⟩
              replace H : (if x9_2.length + y231.length < 17592186044416 then (terrlaw5_PlaceClears.l0 k3 l0 t203 t204 t205 (x9_2 ++ y231) (wrap64 (x10_2 + ((rd_T36 l0 x49_2).f2))) l0 (l0.length : Int) ji24) else (none)) = some r := by first | (rw [hy231]; with_reducible exact H) | (have H2_ := (Option.bind_some _ _).symm.trans H; rw [hy231]; with_reducible exact H2_) | (have H2_ := (Option.bind_some _ _).symm.trans H; with_reducible exact H2_) | with_reducible exact H | (rw [hy231]; exact H) | exact H
              have Ny231 := Aside0.mk hy231
              clear hy231
              by_cases c49 : x9_2.length + y231.length < 17592186044416
              rotate_left
              · rw [if_neg c49] at H
                exact absurd H (by simp)
              rw [if_pos c49] at H
              have LMc49 := Aside0.mk c49
              clear c49
              obtain ⟨y234, hy234⟩ : ∃ y_ : List Int, y_ = (x9_2 ++ y231) := ⟨_, rfl⟩
              replace H : (terrlaw5_PlaceClears.l0 k3 l0 t203 t204 t205 y234 (wrap64 (x10_2 + ((rd_T36 l0 x49_2).f2))) l0 (l0.length : Int) ji24) = some r := by first | (rw [hy234]; with_reducible exact H) | (have H2_ := (Option.bind_some _ _).symm.trans H; rw [hy234]; with_reducible exact H2_) | (have H2_ := (Option.bind_some _ _).symm.trans H; with_reducible exact H2_) | with_reducible exact H | (rw [hy234]; exact H) | exact H
              have Ny234 := Aside0.mk hy234
              clear hy234
              have H' := Aside0.mk H
              clear H
              have hcz61_0 : w43.cell? ⟨gb210, 0, none⟩ = some (.int .i64 ((rd_T36 l0 x49_2).f0.f0)) := (blk_cell BK210.out 0).trans rfl
              have hcz61_1 : w43.cell? ⟨gb210, 1, none⟩ = some (.int .i64 ((rd_T36 l0 x49_2).f0.f1)) := (blk_cell BK210.out 1).trans rfl
              have hcz61_2 : w43.cell? ⟨gb210, 2, none⟩ = some (.int .i64 ((rd_T36 l0 x49_2).f0.f2)) := (blk_cell BK210.out 2).trans rfl
              have hcz61_3 : w43.cell? ⟨gb210, 3, none⟩ = some (.int .i64 ((rd_T36 l0 x49_2).f0.f3)) := (blk_cell BK210.out 3).trans rfl
              have hcz61_4 : w43.cell? ⟨gb210, 4, none⟩ = some (.slice A209_4 ((rd_T36 l0 x49_2).f0.f4).length c209_4) := (blk_cell BK210.out 4).trans rfl
              have hcz61_5 : w43.cell? ⟨gb210, 5, none⟩ = some (.string ((rd_T36 l0 x49_2).f0.f5)) := (blk_cell BK210.out 5).trans rfl
              have hcz61_6 : w43.cell? ⟨gb210, 6, none⟩ = some (.slice A209_6 ((rd_T36 l0 x49_2).f1).length c209_6) := (blk_cell BK210.out 6).trans rfl
              have hcz61_7 : w43.cell? ⟨gb210, 7, none⟩ = some (.int .i64 ((rd_T36 l0 x49_2).f2)) := (blk_cell BK210.out 7).trans rfl
              have hfz61_0 := blk_frozen BK210.out 0
              have hfz61_1 := blk_frozen BK210.out 1
              have hfz61_2 := blk_frozen BK210.out 2
              have hfz61_3 := blk_frozen BK210.out 3
              have hfz61_4 := blk_frozen BK210.out 4
              have hfz61_5 := blk_frozen BK210.out 5
              have hfz61_6 := blk_frozen BK210.out 6
              have hfz61_7 := blk_frozen BK210.out 7
              try go_wp2_with (first | ((with_reducible refine gate_dst (N := 85) rfl ?_); (try (refine gate_guard (by rfl) ?_; dsimp only)); refine Kd.R_lit (Kd.int .i64) _ 3 ?hg (N := 85) ?hd (xs := ([x13_3] : List Int)) (inner := [.int .i64 x13_3]) (ok := fun _ => True) (okp := fun _ => True) ?hr ?hp (fun _ hk => hk) trivial (Below.refl _ _) (Nat.le_refl _) (by simp) ?_; (case hd => rfl); (case hg => rfl); (case hr => first | (go_simp; done) | (go_simp; rfl)); (case hp => exact (Reps.one (show Kd.M (Kd.int .i64) _ _ _ x13_3 [.int .i64 x13_3] from rfl) (Reps.none _ _))); intro v232 w62 ho63 hb hg_ hnew_; clear hg_ hnew_; (first | rw [← Ny231.out] at ho63 | (simp only [Int.reduceToNat] at ho63; rw [← Ny231.out] at ho63)); have HO233 := Aside0.mk (Kd.R_lower (Kd.R_new' (Kd.R_new' (Kd.R_new' (Kd.R_new' ho63 (Kd.R_lt (by (with_reducible repeat (first | apply Kd.R_alloc | apply Kd.R_drewN | apply Kd.R_drew)); exact HO_6.out))) (Kd.R_lt (by (with_reducible repeat (first | apply Kd.R_alloc | apply Kd.R_drewN | apply Kd.R_drew)); exact HO_9.out))) (Kd.R_lt (by (with_reducible repeat (first | apply Kd.R_alloc | apply Kd.R_drewN | apply Kd.R_drew)); exact HO220.out))) (Kd.R_lt (by (with_reducible repeat (first | apply Kd.R_alloc | apply Kd.R_drewN | apply Kd.R_drew)); exact HO223.out))) (below_size (by repeat (first | (with_reducible first | exact HB.out | apply below_alloc | apply pw_below_drewN | apply below_drew1 | refine below_set ?_ GE210.out) | exact HB.out)))); replace HO_6 := Aside0.mk (Kd.R_elder' (by (with_reducible repeat (first | apply Kd.R_alloc | apply Kd.R_drewN | apply Kd.R_drew)); exact HO_6.out) (Kd.R_base ho63) hb); replace HO_9 := Aside0.mk (Kd.R_elder' (by (with_reducible repeat (first | apply Kd.R_alloc | apply Kd.R_drewN | apply Kd.R_drew)); exact HO_9.out) (Kd.R_base ho63) hb); replace HO220 := Aside0.mk (Kd.R_elder' (by (with_reducible repeat (first | apply Kd.R_alloc | apply Kd.R_drewN | apply Kd.R_drew)); exact HO220.out) (Kd.R_base ho63) hb); replace HO223 := Aside0.mk (Kd.R_elder' (by (with_reducible repeat (first | apply Kd.R_alloc | apply Kd.R_drewN | apply Kd.R_drew)); exact HO223.out) (Kd.R_base ho63) hb); replace BK210 := Aside0.mk (blk_below (g := gb210) (o := .cells #[.int .i64 ((rd_T36 l0 x49_2).f0.f0), .int .i64 ((rd_T36 l0 x49_2).f0.f1), .int .i64 ((rd_T36 l0 x49_2).f0.f2), .int .i64 ((rd_T36 l0 x49_2).f0.f3), .slice A209_4 ((rd_T36 l0 x49_2).f0.f4).length c209_4, .string ((rd_T36 l0 x49_2).f0.f5), .slice A209_6 ((rd_T36 l0 x49_2).f1).length c209_6, .int .i64 ((rd_T36 l0 x49_2).f2)] 36 (0, 0)) (by (with_reducible repeat (first | refine blk_drewN ?_ _ | refine blk_drew ?_ | refine blk_alloc ?_ _)); exact BK210.out) hb); replace HB := Aside0.mk (below_step (by repeat (first | (with_reducible first | exact HB.out | apply below_alloc | apply pw_below_drewN | apply below_drew1 | refine below_set ?_ GE210.out) | exact HB.out)) hb); clear hb ho63; obtain ⟨Ao65, co65, eo65⟩ := Kd.R_slice HO233.out; subst eo65) | ((with_reducible refine gate_builtin (b := .append) (xs := #[.tmp 83, .tmp 85]) rfl ?_); (try (refine gate_guard (by rfl) ?_; dsimp only)); at_builtin; refine Kd.R_append_rows (Kd.int .i64) (w0 := w) w.heap.size rfl (.tmp 83) (.tmp 85) 22 3 (.int .i64 0) 8 rfl Try.underlying22 info3 rfl (by decide) (by omega) (.slice Ao33 x9_2.length co33) x9_2 y231 _ _ _ (fun k_ => some k_ ≠ (v206 : Value).ownBlock ∧ some k_ ≠ (.slice Ao41 y218.length co41 : Value).ownBlock ∧ some k_ ≠ (.slice Ao42 y221.length co42 : Value).ownBlock ∧ some k_ ≠ (.slice Ao65 y231.length co65 : Value).ownBlock) (fun _ => False) rfl rfl ?aO ?aR (fun _ _ h => h) (fun _ h => h.elim) ?aF ?aB ?aS ?aL ?_; (case aR => repeat (first | exact (Kd.R_reads' HO233.out).2.2 | (with_reducible refine Kd.C_alloc ?_ _) | (with_reducible refine Kd.C_drewN ?_ _) | (with_reducible refine Kd.C_drew ?_))); (case aB => exact (by repeat (first | (with_reducible first | exact HB.out | apply below_alloc | apply pw_below_drewN | apply below_drew1 | refine below_set ?_ GE210.out) | exact HB.out))); (case aF => exact (fun k_ hk => ⟨Kd.fresh' (Kd.R_lt (by (with_reducible repeat (first | apply Kd.R_alloc | apply Kd.R_drewN | apply Kd.R_drew)); exact HO_6.out)) k_ hk, Kd.fresh' (Kd.R_lt (by (with_reducible repeat (first | apply Kd.R_alloc | apply Kd.R_drewN | apply Kd.R_drew)); exact HO220.out)) k_ hk, Kd.fresh' (Kd.R_lt (by (with_reducible repeat (first | apply Kd.R_alloc | apply Kd.R_drewN | apply Kd.R_drew)); exact HO223.out)) k_ hk, Kd.fresh' (Kd.R_lt (by (with_reducible repeat (first | apply Kd.R_alloc | apply Kd.R_drewN | apply Kd.R_drew)); exact HO233.out)) k_ hk⟩)); (case aO => exact (by (with_reducible repeat (first | apply Kd.R_alloc | apply Kd.R_drewN | apply Kd.R_drew)); exact Kd.R_mono HO_9.out (fun _ hk => ⟨hk.1.1.1, ⟨hk.1.1.2, ⟨hk.1.2, hk.2⟩⟩⟩))); (case aS => exact (below_size (by repeat (first | (with_reducible first | exact HB.out | apply below_alloc | apply pw_below_drewN | apply below_drew1 | refine below_set ?_ GE210.out) | exact HB.out)))); (case aL => have := LMc49.out; omega); intro v235 w64 ho hb hg hat; rw [← Ny234.out] at ho; have HO236 := Aside0.mk (ho); replace HO_6 := Aside0.mk (Kd.R_after (ok := (fun k_ => some k_ ≠ (.slice Ao41 y218.length co41 : Value).ownBlock ∧ some k_ ≠ (.slice Ao42 y221.length co42 : Value).ownBlock ∧ some k_ ≠ (.slice Ao65 y231.length co65 : Value).ownBlock)) (by (with_reducible repeat (first | apply Kd.R_alloc | apply Kd.R_drewN | apply Kd.R_drew)); exact Kd.R_mono HO_6.out (fun _ hk => ⟨⟨hk.1.1.2, ⟨hk.1.2, hk.2⟩⟩, hk.1.1.1⟩)) hg hat); replace BK210 := Aside0.mk (blk_grown (g := gb210) (o := .cells #[.int .i64 ((rd_T36 l0 x49_2).f0.f0), .int .i64 ((rd_T36 l0 x49_2).f0.f1), .int .i64 ((rd_T36 l0 x49_2).f0.f2), .int .i64 ((rd_T36 l0 x49_2).f0.f3), .slice A209_4 ((rd_T36 l0 x49_2).f0.f4).length c209_4, .string ((rd_T36 l0 x49_2).f0.f5), .slice A209_6 ((rd_T36 l0 x49_2).f1).length c209_6, .int .i64 ((rd_T36 l0 x49_2).f2)] 36 (0, 0)) (by (with_reducible repeat (first | refine blk_drewN ?_ _ | refine blk_drew ?_ | refine blk_alloc ?_ _)); exact BK210.out) hg (Kd.R_ne HO_9.out BK210.out (by decide))); replace HO220 := Aside0.mk (Kd.R_after (ok := (fun k_ => some k_ ≠ (v206 : Value).ownBlock ∧ some k_ ≠ (.slice Ao42 y221.length co42 : Value).ownBlock ∧ some k_ ≠ (.slice Ao65 y231.length co65 : Value).ownBlock)) (by (with_reducible repeat (first | apply Kd.R_alloc | apply Kd.R_drewN | apply Kd.R_drew)); exact Kd.R_mono HO220.out (fun _ hk => ⟨⟨hk.1.1.1, ⟨hk.1.2, hk.2⟩⟩, hk.1.1.2⟩)) hg hat); replace HO223 := Aside0.mk (Kd.R_after (ok := (fun k_ => some k_ ≠ (v206 : Value).ownBlock ∧ some k_ ≠ (.slice Ao41 y218.length co41 : Value).ownBlock ∧ some k_ ≠ (.slice Ao65 y231.length co65 : Value).ownBlock)) (by (with_reducible repeat (first | apply Kd.R_alloc | apply Kd.R_drewN | apply Kd.R_drew)); exact Kd.R_mono HO223.out (fun _ hk => ⟨⟨hk.1.1, ⟨hk.1.2.2, hk.2⟩⟩, hk.1.2.1⟩)) hg hat); replace HO233 := Aside0.mk (Kd.R_after (ok := (fun k_ => some k_ ≠ (v206 : Value).ownBlock ∧ some k_ ≠ (.slice Ao41 y218.length co41 : Value).ownBlock ∧ some k_ ≠ (.slice Ao42 y221.length co42 : Value).ownBlock)) (by (with_reducible repeat (first | apply Kd.R_alloc | apply Kd.R_drewN | apply Kd.R_drew)); exact Kd.R_mono HO233.out (fun _ hk => ⟨⟨hk.1.1.1.2, ⟨hk.1.2, hk.2⟩⟩, hk.1.1.2⟩)) hg hat); replace HB := Aside0.mk (hb); clear HO_9 ho hb hg hat))
              go_roundg k3
              case measure => have := HJ2.out; have := HK2.out; have := HK3.out; omega
              case rel => exact ⟨(y234), (wrap64 (x10_2 + ((rd_T36 l0 x49_2).f2))), (ji24), (by first | rfl | (simp; done) | (simp [*]; done)), (by first | rfl | (simp; done) | (simp only [← hji24] <;> (first | rfl | simp)) | (simp [*]; done)), H', ⟨by have := HJ2.out; have := HK2.out; have := HK3.out; omega⟩, ⟨by (with_reducible repeat (first | apply Kd.R_alloc | apply Kd.R_drewN | apply Kd.R_drew)); exact Kd.R_mono HO_6.out (fun _ hk => hk.2)⟩, ⟨by (with_reducible repeat (first | apply Kd.R_alloc | apply Kd.R_drewN | apply Kd.R_drew)); exact Kd.R_mono HO236.out (fun _ hk => hk.1)⟩, ⟨by repeat (first | (with_reducible first | exact HB.out | apply below_alloc | apply pw_below_drewN | apply below_drew1 | refine below_set ?_ GE210.out) | exact HB.out)⟩⟩
end Go.Proofs.Ytdmhnjpblpfbfaa.Q
