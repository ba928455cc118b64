/- What the Go function terrkeep5_FontLines comes to, and its contract. Condition: its printed twin gives an answer, which is true. -/
import Derived.Test.YtojehbkadlmbjaaDoorQf10
import Derived.Test.YtojehbkadlmbjaaDoorQf12
import Derived.Test.YtojehbkadlmbjaaDoorQf5
import Derived.Test.YtojehbkadlmbjaaDoorQf7
import Derived.Test.YtojehbkadlmbjaaDoorQf9
import Derived.Test.YtojehbkadlmbjaaDoorQf8
import Derived.Test.YtojehbkadlmbjaaDoorQf11
import Derived.Test.YtojehbkadlmbjaaDoorQf13
namespace Go.Proofs.YtojehbkadlmbjaaDoor.Q
open Go.RowKit Go.Proofs.YtojehbkadlmbjaaDoorW.PrintWords Go.Proofs.YtojehbkadlmbjaaDoorW.PrintLast Go.Proofs.YtojehbkadlmbjaaDoorW.PrintMore
attribute [local go_sem] max2_int min2_int max_two min_two max_three min_three max_four min_four
set_option linter.unusedVariables false
set_option linter.unusedSimpArgs false
/-! ### terrkeep5_FontLines: function 4 -/
mutual
def terrkeep5_FontLines.j0 : Nat → List Int → Int → Int → Bool → Option (Bool)
  | 0, _, _, _, _ => none
  | k + 1, x0, x1, x2, x33 => if x33 = true then (some false) else ((terrkeep5_text.f k x0).bind fun t148 => ((terrmake_Below.f x1 4).bind fun t149 => ((terrmake_Below.f x2 300).bind fun t150 => ((font_Wrap.f k t148 (wrap64 (1 + t149)) (wrap64 (1 + t150))).bind fun bt151 => (if bt151.2 = 0 then ((strings_Join.f bt151.1 (⟨#[32]⟩ : ByteArray)).bind fun t155 => ((strings_Fields.f k t155).bind fun t156 => ((strings_Fields.f k t148).bind fun t159 => ((slices_Equal_string_string.f k t156 t159).bind fun t162 => (if t162 = true then (terrkeep5_FontLines.l0 k (wrap64 (1 + t149)) (wrap64 (1 + t150)) bt151.1 bt151.1 (bt151.1.length : Int) 0) else (some false)))))) else (if bt151.2 = 17 then (some ((bt151.1.length : Int) == 0)) else (some false)))))))
def terrkeep5_FontLines.l0 : Nat → Int → Int → List ByteArray → List ByteArray → Int → Int → Option (Bool)
  | 0, _, _, _, _, _, _ => none
  | k + 1, x1, x2, x10, x65, x66, x67 => if x67 < x66 then (if 0 ≤ x67 then (if x67 < (x65.length : Int) then ((font_Size.f k (rdOf ByteArray.empty x65 x67) x1).bind fun bt164 => (if bt164.2.2 = 0 then (if bt164.1 > x2 then (terrkeep5_FontLines.j2 k x1 x2 x10 x67 (rdOf ByteArray.empty x65 x67) x65 x66 x67 true) else (terrkeep5_FontLines.j2 k x1 x2 x10 x67 (rdOf ByteArray.empty x65 x67) x65 x66 x67 ((rdOf ByteArray.empty x65 x67).toList == ([] : List UInt8)))) else (terrkeep5_FontLines.j2 k x1 x2 x10 x67 (rdOf ByteArray.empty x65 x67) x65 x66 x67 true))) else (none)) else (none)) else (some true)
def terrkeep5_FontLines.j2 : Nat → Int → Int → List ByteArray → Int → ByteArray → List ByteArray → Int → Int → Bool → Option (Bool)
  | 0, _, _, _, _, _, _, _, _, _ => none
  | k + 1, x1, x2, x10, x12, x13, x65, x66, x67, x89 => if x89 = true then (some false) else (if x12 = 0 then (terrkeep5_FontLines.l0 k x1 x2 x10 x65 x66 (wrap64 (x67 + 1))) else ((strings_Cut.f x13 (⟨#[32]⟩ : ByteArray)).bind fun bt167 => (if 0 ≤ (wrap64 (x12 - 1)) then (if (wrap64 (x12 - 1)) < (x10.length : Int) then (if (rdOf ByteArray.empty x10 (wrap64 (x12 - 1))).size + 1 ≤ 9223372036854775807 then (if ((rdOf ByteArray.empty x10 (wrap64 (x12 - 1))) ++ (⟨#[32]⟩ : ByteArray)).size + bt167.1.size ≤ 9223372036854775807 then ((font_Size.f k (((rdOf ByteArray.empty x10 (wrap64 (x12 - 1))) ++ (⟨#[32]⟩ : ByteArray)) ++ bt167.1) x1).bind fun bt171 => (if bt171.1 ≤ x2 then (some false) else (terrkeep5_FontLines.l0 k x1 x2 x10 x65 x66 (wrap64 (x67 + 1))))) else (none)) else (none)) else (none)) else (none))))
end
def terrkeep5_FontLines.f (k : Nat) (l0 : List Int) (a1 : Int) (a2 : Int) : Option (Bool) := (font_Wrap.f k (⟨#[97, 32, 98]⟩ : ByteArray) 1 5).bind fun bt144 => (if bt144.2 = 0 then (terrkeep5_FontLines.j0 k l0 a1 a2 ((bt144.1.length : Int) != 2)) else (terrkeep5_FontLines.j0 k l0 a1 a2 true))
theorem terrkeep5_FontLines.mono_l : ∀ k, (∀ y0 y1 y2 y3, LeO (terrkeep5_FontLines.j0 k y0 y1 y2 y3) (terrkeep5_FontLines.j0 (k + 1) y0 y1 y2 y3)) ∧ (∀ y0 y1 y2 y3 y4 y5, LeO (terrkeep5_FontLines.l0 k y0 y1 y2 y3 y4 y5) (terrkeep5_FontLines.l0 (k + 1) y0 y1 y2 y3 y4 y5)) ∧ (∀ y0 y1 y2 y3 y4 y5 y6 y7 y8, LeO (terrkeep5_FontLines.j2 k y0 y1 y2 y3 y4 y5 y6 y7 y8) (terrkeep5_FontLines.j2 (k + 1) y0 y1 y2 y3 y4 y5 y6 y7 y8))
  | 0 => ⟨fun _ _ _ _ r h => by simp [terrkeep5_FontLines.j0] at h, fun _ _ _ _ _ _ r h => by simp [terrkeep5_FontLines.l0] at h, fun _ _ _ _ _ _ _ _ _ r h => by simp [terrkeep5_FontLines.j2] at h⟩
  | k + 1 => by
    obtain ⟨ih0, ih1, ih2⟩ := terrkeep5_FontLines.mono_l k
    refine ⟨?_, ?_, ?_⟩
    · intro y0 y1 y2 y3
      unfold terrkeep5_FontLines.j0
      repeat' first
      | (with_reducible exact ih0 _ _ _ _)
      | (with_reducible exact ih1 _ _ _ _ _ _)
      | (with_reducible exact ih2 _ _ _ _ _ _ _ _ _)
      | (with_reducible exact font_Size.mono _ _ _)
      | (with_reducible exact font_Wrap.mono _ _ _ _)
      | (with_reducible exact slices_Equal_string_string.mono _ _ _)
      | (with_reducible exact strings_Fields.mono _ _)
      | (with_reducible exact terrkeep5_text.mono _ _)
      | (with_reducible exact LeO.refl _)
      | (with_reducible exact LeO.none _)
      | (with_reducible refine LeO.ite ?_ ?_)
      | (with_reducible refine LeO.bind ?_ (fun _ => ?_))
      | exact ih0 _ _ _ _
      | exact ih1 _ _ _ _ _ _
      | exact ih2 _ _ _ _ _ _ _ _ _
      | exact font_Size.mono _ _ _
      | exact font_Wrap.mono _ _ _ _
      | exact slices_Equal_string_string.mono _ _ _
      | exact strings_Fields.mono _ _
      | exact terrkeep5_text.mono _ _
      | exact LeO.none _
      | refine LeO.ite ?_ ?_
      | refine LeO.bind ?_ (fun _ => ?_)
    · intro y0 y1 y2 y3 y4 y5
      unfold terrkeep5_FontLines.l0
      repeat' first
      | (with_reducible exact ih0 _ _ _ _)
      | (with_reducible exact ih1 _ _ _ _ _ _)
      | (with_reducible exact ih2 _ _ _ _ _ _ _ _ _)
      | (with_reducible exact font_Size.mono _ _ _)
      | (with_reducible exact font_Wrap.mono _ _ _ _)
      | (with_reducible exact slices_Equal_string_string.mono _ _ _)
      | (with_reducible exact strings_Fields.mono _ _)
      | (with_reducible exact terrkeep5_text.mono _ _)
      | (with_reducible exact LeO.refl _)
      | (with_reducible exact LeO.none _)
      | (with_reducible refine LeO.ite ?_ ?_)
      | (with_reducible refine LeO.bind ?_ (fun _ => ?_))
      | exact ih0 _ _ _ _
      | exact ih1 _ _ _ _ _ _
      | exact ih2 _ _ _ _ _ _ _ _ _
      | exact font_Size.mono _ _ _
      | exact font_Wrap.mono _ _ _ _
      | exact slices_Equal_string_string.mono _ _ _
      | exact strings_Fields.mono _ _
      | exact terrkeep5_text.mono _ _
      | exact LeO.none _
      | refine LeO.ite ?_ ?_
      | refine LeO.bind ?_ (fun _ => ?_)
    · intro y0 y1 y2 y3 y4 y5 y6 y7 y8
      unfold terrkeep5_FontLines.j2
      repeat' first
      | (with_reducible exact ih0 _ _ _ _)
      | (with_reducible exact ih1 _ _ _ _ _ _)
      | (with_reducible exact ih2 _ _ _ _ _ _ _ _ _)
      | (with_reducible exact font_Size.mono _ _ _)
      | (with_reducible exact font_Wrap.mono _ _ _ _)
      | (with_reducible exact slices_Equal_string_string.mono _ _ _)
      | (with_reducible exact strings_Fields.mono _ _)
      | (with_reducible exact terrkeep5_text.mono _ _)
      | (with_reducible exact LeO.refl _)
      | (with_reducible exact LeO.none _)
      | (with_reducible refine LeO.ite ?_ ?_)
      | (with_reducible refine LeO.bind ?_ (fun _ => ?_))
      | exact ih0 _ _ _ _
      | exact ih1 _ _ _ _ _ _
      | exact ih2 _ _ _ _ _ _ _ _ _
      | exact font_Size.mono _ _ _
      | exact font_Wrap.mono _ _ _ _
      | exact slices_Equal_string_string.mono _ _ _
      | exact strings_Fields.mono _ _
      | exact terrkeep5_text.mono _ _
      | exact LeO.none _
      | refine LeO.ite ?_ ?_
      | refine LeO.bind ?_ (fun _ => ?_)
theorem terrkeep5_FontLines.mono : ∀ a0 a1 a2 k, LeO (terrkeep5_FontLines.f k a0 a1 a2) (terrkeep5_FontLines.f (k + 1) a0 a1 a2) := by
  intro a0 a1 a2 k
  obtain ⟨ih0, ih1, ih2⟩ := terrkeep5_FontLines.mono_l k
  unfold terrkeep5_FontLines.f
  repeat' first
      | (with_reducible exact ih0 _ _ _ _)
      | (with_reducible exact ih1 _ _ _ _ _ _)
      | (with_reducible exact ih2 _ _ _ _ _ _ _ _ _)
      | (with_reducible exact font_Size.mono _ _ _)
      | (with_reducible exact font_Wrap.mono _ _ _ _)
      | (with_reducible exact slices_Equal_string_string.mono _ _ _)
      | (with_reducible exact strings_Fields.mono _ _)
      | (with_reducible exact terrkeep5_text.mono _ _)
      | (with_reducible exact LeO.refl _)
      | (with_reducible exact LeO.none _)
      | (with_reducible refine LeO.ite ?_ ?_)
      | (with_reducible refine LeO.bind ?_ (fun _ => ?_))
      | exact ih0 _ _ _ _
      | exact ih1 _ _ _ _ _ _
      | exact ih2 _ _ _ _ _ _ _ _ _
      | exact font_Size.mono _ _ _
      | exact font_Wrap.mono _ _ _ _
      | exact slices_Equal_string_string.mono _ _ _
      | exact strings_Fields.mono _ _
      | exact terrkeep5_text.mono _ _
      | exact LeO.none _
      | refine LeO.ite ?_ ?_
      | refine LeO.bind ?_ (fun _ => ?_)
set_option maxHeartbeats 8000000 in
set_option maxRecDepth 100000 in
theorem terrkeep5_FontLines.calls (k : Nat) (A0 : Option Addr) (c0 : Nat) (l0 : List Int) (a1 : Int) (a2 : Int) (r : Bool) (w : World) (hT : Laid w) (hr0 : Kd.C (Kd.int .i64) w A0 l0.length l0) (hc0 : l0.length ≤ c0) (h : terrkeep5_FontLines.f k l0 a1 a2 = some r) (hr : r = true) :
    Calls Tryd.prog 4 #[.slice A0 l0.length c0, .int .i64 a1, .int .i64 a2] w fun e w' => e = .returned (.bool r) ∧ Below w.heap.size w w' := by
  have HR0 := Aside0.mk hr0
  have HC0 := Aside0.mk hc0
  clear hr0 hc0
  have HB := Aside0.mk (Below.refl w.heap.size w)
  have H : ((font_Wrap.f k (⟨#[97, 32, 98]⟩ : ByteArray) 1 5).bind fun bt144 => (if bt144.2 = 0 then (terrkeep5_FontLines.j0 k l0 a1 a2 ((bt144.1.length : Int) != 2)) else (terrkeep5_FontLines.j0 k l0 a1 a2 true))) = some r := h
  clear h
  replace H := Option.bind_eq_some_iff.mp H
  obtain ⟨⟨t144, t145⟩, A40, H⟩ := H
  replace H : (if t145 = 0 then (terrkeep5_FontLines.j0 k l0 a1 a2 ((t144.length : Int) != 2)) else (terrkeep5_FontLines.j0 k l0 a1 a2 true)) = some r := H
  have A4 := Aside0.mk A40
  clear A40
  have HC5 := Aside0.mk H
  clear H
  go_enter Tryd.func4, Tryd.ntmps4
  go_upto_region 2 with (first | ((with_reducible refine gate_callee (f := 5) rfl ?_); refine goesL_ (some 24) rfl rfl Tryd.func5 (by kernel_rfl) rfl #[.string (⟨#[97, 32, 98]⟩ : ByteArray), .int .i64 1, .int .i64 5] rfl (by (try simp only [List.map_toArray, List.map_cons, List.map_nil]); first | done | rfl | (simp only [List.length_drop, List.length_take]; rfl)) ?_; (with_reducible refine (font_Wrap.calls k (⟨#[97, 32, 98]⟩ : ByteArray) 1 5 t144 t145 _ (hT.below (by repeat (first | (with_reducible first | exact HB.out | apply below_alloc | apply pw_below_drewN | apply below_drew1) | exact HB.out))).sp A4.out).mono ?_); rintro e w6 ⟨v146, rfl, ho0, hb⟩; refine ⟨_, rfl, ?_⟩; have n0_ := Aside0.mk (Kd.R_lower ho0 (below_size (by repeat (first | (with_reducible first | exact HB.out | apply below_alloc | apply pw_below_drewN | apply below_drew1) | exact HB.out)))); have n1_ := Aside0.mk (below_step (by repeat (first | (with_reducible first | exact HB.out | apply below_alloc | apply pw_below_drewN | apply below_drew1) | exact HB.out)) hb); clear HB; have HO147 := n0_; have HB := n1_; clear n0_ n1_; (try clear hb); (try clear hb2); (try clear hk); (try clear hi); (try clear ho0)))
  (try simp only [Act.put, List.setIfInBounds_toArray, List.set_cons_zero, List.set_cons_succ])
  go_cut [33] (fun v33 wc => ∃ (kq : Nat) (x33_4 : Bool), v33 = .bool x33_4 ∧ Aside0 (terrkeep5_FontLines.j0 kq l0 a1 a2 x33_4 = some r) ∧ Aside0 (kq ≤ k) ∧ Aside0 (Below w.heap.size w wc))
  case first =>
    have H := HC5.out
    clear HC5
    by_cases c7 : t145 = 0
    · rw [if_pos c7] at H
      have c7b0 : (t145 == 0) = true := beq_iff_eq.mpr c7
      have c7b1 : (t145 != 0) = false := bne_eq_false_iff_eq.mpr c7
      clear c7
      (first | rw [c7b0] | (simp only [i64_w, i32_w]; rw [c7b0]) | skip)
      have H' := Aside0.mk H
      clear H
      obtain ⟨Ao8, co8, eo8⟩ := Kd.R_slice HO147.out
      subst eo8
      go_wp2
      go_meet
      case rel => exact ⟨_, (((t144.length : Int) != 2)), (by first | rfl | (simp; done) | (simp [*]; done)), H', ⟨by first | omega | exact Nat.le_refl _⟩, ⟨by repeat (first | (with_reducible first | exact HB.out | apply below_alloc | apply pw_below_drewN | apply below_drew1) | exact HB.out)⟩⟩
    · rw [if_neg c7] at H
      have c7b0 : (t145 == 0) = false := beq_eq_false_iff_ne.mpr c7
      have c7b1 : (t145 != 0) = true := bne_iff_ne.mpr c7
      (first | rw [c7b0] | (simp only [i64_w, i32_w]; rw [c7b0]) | skip)
      have H' := Aside0.mk H
      clear H
      go_wp2
      go_meet
      case rel => exact ⟨_, (true), (by first | rfl | (simp; done) | (simp [*]; done)), H', ⟨by first | omega | exact Nat.le_refl _⟩, ⟨by repeat (first | (with_reducible first | exact HB.out | apply below_alloc | apply pw_below_drewN | apply below_drew1) | exact HB.out)⟩⟩
  case rest =>
    clear HC5
    try clear p2
    try clear c4
    try clear c5
    try clear p5
    try clear c7
    try clear c7b0
    try clear c7b1
    obtain ⟨kq, x33_4, rfl, HA, HJ4, HB⟩ := hcut
    cases kq with
    | zero => exact absurd HA.out (by simp [terrkeep5_FontLines.j0])
    | succ kj4 =>
      have H := HA.out
      clear HA
      simp only [terrkeep5_FontLines.j0] at H
      by_cases c9 : x33_4 = true
      · subst c9
        have H1 : (some false) = some r := by rw [if_pos rfl] at H; exact H
        clear H
        have H := H1
        clear H1
        exact absurd (H.trans (congrArg some hr)) (by decide)
      · replace c9 := Bool.eq_false_iff.mpr c9
        subst c9
        have H1 : ((terrkeep5_text.f kj4 l0).bind fun t148 => ((terrmake_Below.f a1 4).bind fun t149 => ((terrmake_Below.f a2 300).bind fun t150 => ((font_Wrap.f kj4 t148 (wrap64 (1 + t149)) (wrap64 (1 + t150))).bind fun bt151 => (if bt151.2 = 0 then ((strings_Join.f bt151.1 (⟨#[32]⟩ : ByteArray)).bind fun t155 => ((strings_Fields.f kj4 t155).bind fun t156 => ((strings_Fields.f kj4 t148).bind fun t159 => ((slices_Equal_string_string.f kj4 t156 t159).bind fun t162 => (if t162 = true then (terrkeep5_FontLines.l0 kj4 (wrap64 (1 + t149)) (wrap64 (1 + t150)) bt151.1 bt151.1 (bt151.1.length : Int) 0) else (some false)))))) else (if bt151.2 = 17 then (some ((bt151.1.length : Int) == 0)) else (some false))))))) = some r := by rw [if_neg (show ¬ (false = true) by decide)] at H; exact H
        clear H
        have H := H1
        clear H1
        replace H := Option.bind_eq_some_iff.mp H
        obtain ⟨t148, A100, H⟩ := H
        replace H : ((terrmake_Below.f a1 4).bind fun t149 => ((terrmake_Below.f a2 300).bind fun t150 => ((font_Wrap.f kj4 t148 (wrap64 (1 + t149)) (wrap64 (1 + t150))).bind fun bt151 => (if bt151.2 = 0 then ((strings_Join.f bt151.1 (⟨#[32]⟩ : ByteArray)).bind fun t155 => ((strings_Fields.f kj4 t155).bind fun t156 => ((strings_Fields.f kj4 t148).bind fun t159 => ((slices_Equal_string_string.f kj4 t156 t159).bind fun t162 => (if t162 = true then (terrkeep5_FontLines.l0 kj4 (wrap64 (1 + t149)) (wrap64 (1 + t150)) bt151.1 bt151.1 (bt151.1.length : Int) 0) else (some false)))))) else (if bt151.2 = 17 then (some ((bt151.1.length : Int) == 0)) else (some false)))))) = some r := H
        have A10 := Aside0.mk A100
        clear A100
        replace H := Option.bind_eq_some_iff.mp H
        obtain ⟨t149, A110, H⟩ := H
        replace H : ((terrmake_Below.f a2 300).bind fun t150 => ((font_Wrap.f kj4 t148 (wrap64 (1 + t149)) (wrap64 (1 + t150))).bind fun bt151 => (if bt151.2 = 0 then ((strings_Join.f bt151.1 (⟨#[32]⟩ : ByteArray)).bind fun t155 => ((strings_Fields.f kj4 t155).bind fun t156 => ((strings_Fields.f kj4 t148).bind fun t159 => ((slices_Equal_string_string.f kj4 t156 t159).bind fun t162 => (if t162 = true then (terrkeep5_FontLines.l0 kj4 (wrap64 (1 + t149)) (wrap64 (1 + t150)) bt151.1 bt151.1 (bt151.1.length : Int) 0) else (some false)))))) else (if bt151.2 = 17 then (some ((bt151.1.length : Int) == 0)) else (some false))))) = some r := H
        have A11 := Aside0.mk A110
        clear A110
        replace H := Option.bind_eq_some_iff.mp H
        obtain ⟨t150, A120, H⟩ := H
        replace H : ((font_Wrap.f kj4 t148 (wrap64 (1 + t149)) (wrap64 (1 + t150))).bind fun bt151 => (if bt151.2 = 0 then ((strings_Join.f bt151.1 (⟨#[32]⟩ : ByteArray)).bind fun t155 => ((strings_Fields.f kj4 t155).bind fun t156 => ((strings_Fields.f kj4 t148).bind fun t159 => ((slices_Equal_string_string.f kj4 t156 t159).bind fun t162 => (if t162 = true then (terrkeep5_FontLines.l0 kj4 (wrap64 (1 + t149)) (wrap64 (1 + t150)) bt151.1 bt151.1 (bt151.1.length : Int) 0) else (some false)))))) else (if bt151.2 = 17 then (some ((bt151.1.length : Int) == 0)) else (some false)))) = some r := H
        have A12 := Aside0.mk A120
        clear A120
        replace H := Option.bind_eq_some_iff.mp H
        obtain ⟨⟨t151, t152⟩, A130, H⟩ := H
        replace H : (if t152 = 0 then ((strings_Join.f t151 (⟨#[32]⟩ : ByteArray)).bind fun t155 => ((strings_Fields.f kj4 t155).bind fun t156 => ((strings_Fields.f kj4 t148).bind fun t159 => ((slices_Equal_string_string.f kj4 t156 t159).bind fun t162 => (if t162 = true then (terrkeep5_FontLines.l0 kj4 (wrap64 (1 + t149)) (wrap64 (1 + t150)) t151 t151 (t151.length : Int) 0) else (some false)))))) else (if t152 = 17 then (some ((t151.length : Int) == 0)) else (some false))) = some r := H
        have A13 := Aside0.mk A130
        clear A130
        by_cases c14 : t152 = 0
        · rw [if_pos c14] at H
          have c14b0 : (t152 == 0) = true := beq_iff_eq.mpr c14
          have c14b1 : (t152 != 0) = false := bne_eq_false_iff_eq.mpr c14
          clear c14
          replace H := Option.bind_eq_some_iff.mp H
          obtain ⟨t155, A150, H⟩ := H
          replace H : ((strings_Fields.f kj4 t155).bind fun t156 => ((strings_Fields.f kj4 t148).bind fun t159 => ((slices_Equal_string_string.f kj4 t156 t159).bind fun t162 => (if t162 = true then (terrkeep5_FontLines.l0 kj4 (wrap64 (1 + t149)) (wrap64 (1 + t150)) t151 t151 (t151.length : Int) 0) else (some false))))) = some r := H
          have A15 := Aside0.mk A150
          clear A150
          replace H := Option.bind_eq_some_iff.mp H
          obtain ⟨t156, A160, H⟩ := H
          replace H : ((strings_Fields.f kj4 t148).bind fun t159 => ((slices_Equal_string_string.f kj4 t156 t159).bind fun t162 => (if t162 = true then (terrkeep5_FontLines.l0 kj4 (wrap64 (1 + t149)) (wrap64 (1 + t150)) t151 t151 (t151.length : Int) 0) else (some false)))) = some r := H
          have A16 := Aside0.mk A160
          clear A160
          replace H := Option.bind_eq_some_iff.mp H
          obtain ⟨t159, A170, H⟩ := H
          replace H : ((slices_Equal_string_string.f kj4 t156 t159).bind fun t162 => (if t162 = true then (terrkeep5_FontLines.l0 kj4 (wrap64 (1 + t149)) (wrap64 (1 + t150)) t151 t151 (t151.length : Int) 0) else (some false))) = some r := H
          have A17 := Aside0.mk A170
          clear A170
          replace H := Option.bind_eq_some_iff.mp H
          obtain ⟨t162, A180, H⟩ := H
          replace H : (if t162 = true then (terrkeep5_FontLines.l0 kj4 (wrap64 (1 + t149)) (wrap64 (1 + t150)) t151 t151 (t151.length : Int) 0) else (some false)) = some r := H
          have A18 := Aside0.mk A180
          clear A180
          by_cases c19 : t162 = true
          · subst c19
            have H1 : (terrkeep5_FontLines.l0 kj4 (wrap64 (1 + t149)) (wrap64 (1 + t150)) t151 t151 (t151.length : Int) 0) = some r := by rw [if_pos rfl] at H; exact H
            clear H
            have H := H1
            clear H1
            have H' := Aside0.mk H
            clear H
            go_wp2_with (first | ((with_reducible refine gate_callee (f := 8) rfl ?_); refine goesL_ (some 35) rfl rfl Tryd.func8 (by kernel_rfl) rfl #[.slice A0 l0.length c0] rfl (by (try simp only [List.map_toArray, List.map_cons, List.map_nil]); first | done | rfl | (simp only [List.length_drop, List.length_take]; rfl)) ?_; (with_reducible refine (terrkeep5_text.calls kj4 _ _ l0 t148 _ ?side1 ?side2 A10.out).mono ?_); (case side1 => repeat (first | exact (Kd.C_below HR0.out HB.out) | (with_reducible refine Kd.C_alloc ?_ _) | (with_reducible refine Kd.C_drewN ?_ _) | (with_reducible refine Kd.C_drew ?_))); (case side2 => exact HC0.out); rintro e w20 ⟨rfl, hb⟩; refine ⟨_, rfl, ?_⟩; have n0_ := Aside0.mk (below_step (by repeat (first | (with_reducible first | exact HB.out | apply below_alloc | apply pw_below_drewN | apply below_drew1) | exact HB.out)) hb); clear HB; have HB := n0_; clear n0_; (try clear hb); (try clear hb2); (try clear hk); (try clear hi)) | ((with_reducible refine gate_callee (f := 9) rfl ?_); refine goesL_ (some 37) rfl rfl Tryd.func9 (by kernel_rfl) rfl #[.int .i64 a1, .int .i64 4] rfl (by (try simp only [List.map_toArray, List.map_cons, List.map_nil]); first | done | rfl | (simp only [List.length_drop, List.length_take]; rfl)) ?_; (with_reducible refine (terrmake_Below.calls a1 4 t149 _ A11.out).mono ?_); rintro e w' ⟨rfl, ⟨nd, rfl⟩⟩; refine ⟨_, rfl, ?_⟩) | ((with_reducible refine gate_callee (f := 9) rfl ?_); refine goesL_ (some 40) rfl rfl Tryd.func9 (by kernel_rfl) rfl #[.int .i64 a2, .int .i64 300] rfl (by (try simp only [List.map_toArray, List.map_cons, List.map_nil]); first | done | rfl | (simp only [List.length_drop, List.length_take]; rfl)) ?_; (with_reducible refine (terrmake_Below.calls a2 300 t150 _ A12.out).mono ?_); rintro e w' ⟨rfl, ⟨nd, rfl⟩⟩; refine ⟨_, rfl, ?_⟩) | ((with_reducible refine gate_callee (f := 5) rfl ?_); refine goesL_ (some 46) rfl rfl Tryd.func5 (by kernel_rfl) rfl #[.string t148, .int .i64 (wrap64 (1 + t149)), .int .i64 (wrap64 (1 + t150))] rfl (by (try simp only [List.map_toArray, List.map_cons, List.map_nil]); first | done | rfl | (simp only [List.length_drop, List.length_take]; rfl)) ?_; (with_reducible refine (font_Wrap.calls kj4 t148 (wrap64 (1 + t149)) (wrap64 (1 + t150)) t151 t152 _ (hT.below (by repeat (first | (with_reducible first | exact HB.out | apply below_alloc | apply pw_below_drewN | apply below_drew1) | exact HB.out))).sp A13.out).mono ?_); rintro e w21 ⟨v153, rfl, ho0, hb⟩; refine ⟨_, rfl, ?_⟩; have n0_ := Aside0.mk (Kd.R_lower ho0 (below_size (by repeat (first | (with_reducible first | exact HB.out | apply below_alloc | apply pw_below_drewN | apply below_drew1) | exact HB.out)))); have n1_ := Aside0.mk (below_step (by repeat (first | (with_reducible first | exact HB.out | apply below_alloc | apply pw_below_drewN | apply below_drew1) | exact HB.out)) hb); clear HB; have HO154 := n0_; have HB := n1_; clear n0_ n1_; (try clear hb); (try clear hb2); (try clear hk); (try clear hi); (try clear ho0); obtain ⟨Ao22, co22, eo22⟩ := Kd.R_slice HO154.out; subst eo22) | ((with_reducible refine gate_callee (f := 11) rfl ?_); refine goesL_ (some 59) rfl rfl Tryd.func11 (by kernel_rfl) rfl #[.slice Ao22 t151.length co22, .string (⟨#[32]⟩ : ByteArray)] rfl (by (try simp only [List.map_toArray, List.map_cons, List.map_nil]); first | done | rfl | (simp only [List.length_drop, List.length_take]; rfl)) ?_; (with_reducible refine (strings_Join.calls _ _ t151 (⟨#[32]⟩ : ByteArray) t155 _ ?side1 ?side2 A15.out).mono ?_); (case side1 => repeat (first | exact (Kd.R_reads' HO154.out).2.2 | (with_reducible refine Kd.C_alloc ?_ _) | (with_reducible refine Kd.C_drewN ?_ _) | (with_reducible refine Kd.C_drew ?_))); (case side2 => exact (Kd.R_reads' HO154.out).2.1); rintro e w23 ⟨rfl, hb⟩; refine ⟨_, rfl, ?_⟩; have n0_ := Aside0.mk (Kd.R_below (by (with_reducible repeat (first | apply Kd.R_alloc | apply Kd.R_drewN | apply Kd.R_drew)); exact HO154.out) hb); have n1_ := Aside0.mk (below_step (by repeat (first | (with_reducible first | exact HB.out | apply below_alloc | apply pw_below_drewN | apply below_drew1) | exact HB.out)) hb); clear HO154; clear HB; have HO154 := n0_; have HB := n1_; clear n0_ n1_; (try clear hb); (try clear hb2); (try clear hk); (try clear hi)) | ((with_reducible refine gate_callee (f := 10) rfl ?_); refine goesL_ (some 60) rfl rfl Tryd.func10 (by kernel_rfl) rfl #[.string t155] rfl (by (try simp only [List.map_toArray, List.map_cons, List.map_nil]); first | done | rfl | (simp only [List.length_drop, List.length_take]; rfl)) ?_; (with_reducible refine (strings_Fields.calls kj4 t155 t156 _ (hT.below (by repeat (first | (with_reducible first | exact HB.out | apply below_alloc | apply pw_below_drewN | apply below_drew1) | exact HB.out))).sp A16.out).mono ?_); rintro e w24 ⟨v157, rfl, ho0, hb⟩; refine ⟨_, rfl, ?_⟩; have n0_ := Aside0.mk (Kd.R_elder' (by (with_reducible repeat (first | apply Kd.R_alloc | apply Kd.R_drewN | apply Kd.R_drew)); exact HO154.out) (Kd.R_base ho0) hb); have n1_ := Aside0.mk (Kd.R_lower (Kd.R_new' ho0 (Kd.R_lt (by (with_reducible repeat (first | apply Kd.R_alloc | apply Kd.R_drewN | apply Kd.R_drew)); exact HO154.out))) (below_size (by repeat (first | (with_reducible first | exact HB.out | apply below_alloc | apply pw_below_drewN | apply below_drew1) | exact HB.out)))); have n2_ := Aside0.mk (below_step (by repeat (first | (with_reducible first | exact HB.out | apply below_alloc | apply pw_below_drewN | apply below_drew1) | exact HB.out)) hb); clear HO154; clear HB; have HO154 := n0_; have HO158 := n1_; have HB := n2_; clear n0_ n1_ n2_; (try clear hb); (try clear hb2); (try clear hk); (try clear hi); (try clear ho0)) | ((with_reducible refine gate_callee (f := 10) rfl ?_); refine goesL_ (some 62) rfl rfl Tryd.func10 (by kernel_rfl) rfl #[.string t148] rfl (by (try simp only [List.map_toArray, List.map_cons, List.map_nil]); first | done | rfl | (simp only [List.length_drop, List.length_take]; rfl)) ?_; (with_reducible refine (strings_Fields.calls kj4 t148 t159 _ (hT.below (by repeat (first | (with_reducible first | exact HB.out | apply below_alloc | apply pw_below_drewN | apply below_drew1) | exact HB.out))).sp A17.out).mono ?_); rintro e w25 ⟨v160, rfl, ho0, hb⟩; refine ⟨_, rfl, ?_⟩; have n0_ := Aside0.mk (Kd.R_elder' (by (with_reducible repeat (first | apply Kd.R_alloc | apply Kd.R_drewN | apply Kd.R_drew)); exact HO154.out) (Kd.R_base ho0) hb); have n1_ := Aside0.mk (Kd.R_elder' (by (with_reducible repeat (first | apply Kd.R_alloc | apply Kd.R_drewN | apply Kd.R_drew)); exact HO158.out) (Kd.R_base ho0) hb); have n2_ := Aside0.mk (Kd.R_lower (Kd.R_new' (Kd.R_new' ho0 (Kd.R_lt (by (with_reducible repeat (first | apply Kd.R_alloc | apply Kd.R_drewN | apply Kd.R_drew)); exact HO154.out))) (Kd.R_lt (by (with_reducible repeat (first | apply Kd.R_alloc | apply Kd.R_drewN | apply Kd.R_drew)); exact HO158.out))) (below_size (by repeat (first | (with_reducible first | exact HB.out | apply below_alloc | apply pw_below_drewN | apply below_drew1) | exact HB.out)))); have n3_ := Aside0.mk (below_step (by repeat (first | (with_reducible first | exact HB.out | apply below_alloc | apply pw_below_drewN | apply below_drew1) | exact HB.out)) hb); clear HO154; clear HO158; clear HB; have HO154 := n0_; have HO158 := n1_; have HO161 := n2_; have HB := n3_; clear n0_ n1_ n2_ n3_; (try clear hb); (try clear hb2); (try clear hk); (try clear hi); (try clear ho0); obtain ⟨Ao26, co26, eo26⟩ := Kd.R_slice HO158.out; subst eo26; obtain ⟨Ao27, co27, eo27⟩ := Kd.R_slice HO161.out; subst eo27) | ((with_reducible refine gate_callee (f := 7) rfl ?_); refine goesL_ (some 63) rfl rfl Tryd.func7 (by kernel_rfl) rfl #[.slice Ao26 t156.length co26, .slice Ao27 t159.length co27] rfl (by (try simp only [List.map_toArray, List.map_cons, List.map_nil]); first | done | rfl | (simp only [List.length_drop, List.length_take]; rfl)) ?_; (with_reducible refine (slices_Equal_string_string.calls kj4 _ _ t156 _ _ t159 true _ ?side1 ?side2 ?side3 ?side4 A18.out).mono ?_); (case side1 => repeat (first | exact (Kd.R_reads' HO158.out).2.2 | (with_reducible refine Kd.C_alloc ?_ _) | (with_reducible refine Kd.C_drewN ?_ _) | (with_reducible refine Kd.C_drew ?_))); (case side2 => exact (Kd.R_reads' HO158.out).2.1); (case side3 => repeat (first | exact (Kd.R_reads' HO161.out).2.2 | (with_reducible refine Kd.C_alloc ?_ _) | (with_reducible refine Kd.C_drewN ?_ _) | (with_reducible refine Kd.C_drew ?_))); (case side4 => exact (Kd.R_reads' HO161.out).2.1); rintro e w' ⟨rfl, ⟨nd, rfl⟩⟩; refine ⟨_, rfl, ?_⟩))
            go_loopg [67] kj4 (fun kq v67 w' => ∃ (x67_2 : Int), v67 = .int .i64 x67_2 ∧ Aside0 (terrkeep5_FontLines.l0 kq (wrap64 (1 + t149)) (wrap64 (1 + t150)) t151 t151 (t151.length : Int) x67_2 = some r) ∧ Aside0 (kq ≤ kj4) ∧ Aside0 (Kd.R Kd.string 9 w' w.heap.size (fun _ => True) (.slice Ao22 t151.length co22) t151) ∧ Aside0 (Kd.R Kd.string 9 w' w.heap.size (fun _ => True) (.slice Ao22 t151.length co22) t151) ∧ Aside0 (Below w.heap.size w w'))
            case atStart => exact ⟨(0), (by first | rfl | (simp; done) | (simp [*]; done)), H', ⟨Nat.le_refl _⟩, ⟨by (with_reducible repeat (first | apply Kd.R_alloc | apply Kd.R_drewN | apply Kd.R_drew)); exact Kd.R_mono HO154.out (fun _ hk => trivial)⟩, ⟨by (with_reducible repeat (first | apply Kd.R_alloc | apply Kd.R_drewN | apply Kd.R_drew)); exact Kd.R_mono HO154.out (fun _ hk => trivial)⟩, ⟨by repeat (first | (with_reducible first | exact HB.out | apply below_alloc | apply pw_below_drewN | apply below_drew1) | exact HB.out)⟩⟩
            case round =>
              clear H'
              try clear c1
              try clear p2
              try clear c4
              try clear c5
              try clear p5
              try clear p6
              try clear c7
              try clear c7b0
              try clear c7b1
              try clear c8
              try clear c9
              try clear c10
              try clear c11
              try clear c14
              try clear c14b0
              try clear c14b1
              try clear c19
              try clear p2
              try clear p5
              obtain ⟨x67_2, rfl, HA, HK2, HO_10, HO_65, HB⟩ := hrel
              cases gk with
              | zero => exact absurd HA.out (by simp [terrkeep5_FontLines.l0])
              | succ k2 =>
                have H := HA.out
                clear HA
                simp only [terrkeep5_FontLines.l0] at H
                by_cases c28 : x67_2 < (t151.length : Int)
                · rw [if_pos c28] at H
                  have c28b0 : decide (x67_2 < (t151.length : Int)) = true := decide_eq_true c28
                  clear c28
                  by_cases c29 : 0 ≤ x67_2
                  · rw [if_pos c29] at H
                    have c29b0 : decide (0 ≤ x67_2) = true := decide_eq_true c29
                    clear c29
                    by_cases c30 : x67_2 < (t151.length : Int)
                    · rw [if_pos c30] at H
                      have c30b0 : decide (x67_2 < (t151.length : Int)) = true := decide_eq_true c30
                      clear c30
                      replace H := Option.bind_eq_some_iff.mp H
                      obtain ⟨⟨t164, t165, t166⟩, A310, H⟩ := H
                      replace H : (if t166 = 0 then (if t164 > (wrap64 (1 + t150)) then (terrkeep5_FontLines.j2 k2 (wrap64 (1 + t149)) (wrap64 (1 + t150)) t151 x67_2 (rdOf ByteArray.empty t151 x67_2) t151 (t151.length : Int) x67_2 true) else (terrkeep5_FontLines.j2 k2 (wrap64 (1 + t149)) (wrap64 (1 + t150)) t151 x67_2 (rdOf ByteArray.empty t151 x67_2) t151 (t151.length : Int) x67_2 ((rdOf ByteArray.empty t151 x67_2).toList == ([] : List UInt8)))) else (terrkeep5_FontLines.j2 k2 (wrap64 (1 + t149)) (wrap64 (1 + t150)) t151 x67_2 (rdOf ByteArray.empty t151 x67_2) t151 (t151.length : Int) x67_2 true)) = some r := H
                      have A31 := Aside0.mk A310
                      clear A310
                      have HC32 := Aside0.mk H
                      clear H
                      have p163 : 0 ≤ (x67_2 : Int) := of_decide_eq_true (by first | (with_reducible assumption) | assumption)
                      have q163 : x67_2 < (t151.length : Int) := of_decide_eq_true (by first | (with_reducible assumption) | assumption)
                      obtain ⟨ad163, e163, hx163_0⟩ := Kd.at_string (Kd.R_reads' HO_65.out).2.2 x67_2 p163 q163
                      cases e163
                      replace p163 := eq_true p163
                      replace q163 := eq_true q163
                      go_upto_region 16 with (first | ((with_reducible refine gate_callee (f := 12) rfl ?_); refine goesL_ (some 75) rfl rfl Tryd.func12 (by kernel_rfl) rfl #[.string (rdOf ByteArray.empty t151 x67_2), .int .i64 (wrap64 (1 + t149))] rfl (by (try simp only [List.map_toArray, List.map_cons, List.map_nil]); first | done | rfl | (simp only [List.length_drop, List.length_take]; rfl)) ?_; (with_reducible refine (font_Size.calls k2 (rdOf ByteArray.empty t151 x67_2) (wrap64 (1 + t149)) t164 t165 t166 _ A31.out).mono ?_); rintro e w' ⟨rfl, ⟨nd, rfl⟩⟩; refine ⟨_, rfl, ?_⟩))
                      (try simp only [Act.put, List.setIfInBounds_toArray, List.set_cons_zero, List.set_cons_succ])
                      go_cut [89] (fun v89 wc => ∃ (kq : Nat) (x89_31 : Bool), v89 = .bool x89_31 ∧ Aside0 (terrkeep5_FontLines.j2 kq (wrap64 (1 + t149)) (wrap64 (1 + t150)) t151 x67_2 (rdOf ByteArray.empty t151 x67_2) t151 (t151.length : Int) x67_2 x89_31 = some r) ∧ Aside0 (kq ≤ k2) ∧ Aside0 (Kd.R Kd.string 9 wc w.heap.size (fun _ => True) (.slice (some ad163) t151.length co22) t151) ∧ Aside0 (Kd.R Kd.string 9 wc w.heap.size (fun _ => True) (.slice (some ad163) t151.length co22) t151) ∧ Aside0 (Below w.heap.size w wc))
                      case first =>
                        have H := HC32.out
                        clear HC32
                        by_cases c33 : t166 = 0
                        · rw [if_pos c33] at H
                          have c33b0 : (t166 == 0) = true := beq_iff_eq.mpr c33
                          have c33b1 : (t166 != 0) = false := bne_eq_false_iff_eq.mpr c33
                          clear c33
                          (first | rw [c33b0] | (simp only [i64_w, i32_w]; rw [c33b0]) | skip)
                          by_cases c34 : t164 > (wrap64 (1 + t150))
                          · rw [if_pos c34] at H
                            have c34b0 : decide ((wrap64 (1 + t150)) < t164) = true := decide_eq_true c34
                            clear c34
                            have H' := Aside0.mk H
                            clear H
                            go_wp2
                            go_meet
                            case rel => exact ⟨_, (true), (by first | rfl | (simp; done) | (simp [*]; done)), H', ⟨by have := HJ4.out; have := HK2.out; first | omega | exact Nat.le_refl _⟩, ⟨by (with_reducible repeat (first | apply Kd.R_alloc | apply Kd.R_drewN | apply Kd.R_drew)); exact HO_10.out⟩, ⟨by (with_reducible repeat (first | apply Kd.R_alloc | apply Kd.R_drewN | apply Kd.R_drew)); exact HO_65.out⟩, ⟨by repeat (first | (with_reducible first | exact HB.out | apply below_alloc | apply pw_below_drewN | apply below_drew1) | exact HB.out)⟩⟩
                          · rw [if_neg c34] at H
                            have c34b0 : decide ((wrap64 (1 + t150)) < t164) = false := decide_eq_false c34
                            clear c34
                            have H' := Aside0.mk H
                            clear H
                            go_wp2
                            go_meet
                            case rel => exact ⟨_, (((rdOf ByteArray.empty t151 x67_2).toList == ([] : List UInt8))), (by first | rfl | (simp; done) | (simp [*]; done)), H', ⟨by have := HJ4.out; have := HK2.out; first | omega | exact Nat.le_refl _⟩, ⟨by (with_reducible repeat (first | apply Kd.R_alloc | apply Kd.R_drewN | apply Kd.R_drew)); exact HO_10.out⟩, ⟨by (with_reducible repeat (first | apply Kd.R_alloc | apply Kd.R_drewN | apply Kd.R_drew)); exact HO_65.out⟩, ⟨by repeat (first | (with_reducible first | exact HB.out | apply below_alloc | apply pw_below_drewN | apply below_drew1) | exact HB.out)⟩⟩
                        · rw [if_neg c33] at H
                          have c33b0 : (t166 == 0) = false := beq_eq_false_iff_ne.mpr c33
                          have c33b1 : (t166 != 0) = true := bne_iff_ne.mpr c33
                          (first | rw [c33b0] | (simp only [i64_w, i32_w]; rw [c33b0]) | skip)
                          have H' := Aside0.mk H
                          clear H
                          go_wp2
                          go_meet
                          case rel => exact ⟨_, (true), (by first | rfl | (simp; done) | (simp [*]; done)), H', ⟨by have := HJ4.out; have := HK2.out; first | omega | exact Nat.le_refl _⟩, ⟨by (with_reducible repeat (first | apply Kd.R_alloc | apply Kd.R_drewN | apply Kd.R_drew)); exact HO_10.out⟩, ⟨by (with_reducible repeat (first | apply Kd.R_alloc | apply Kd.R_drewN | apply Kd.R_drew)); exact HO_65.out⟩, ⟨by repeat (first | (with_reducible first | exact HB.out | apply below_alloc | apply pw_below_drewN | apply below_drew1) | exact HB.out)⟩⟩
                      case rest =>
                        clear HC32
                        try clear c1
                        try clear p1
                        try clear q1
                        try clear hx1
                        try clear c2
                        try clear p2
                        try clear c3
                        try clear c4
                        try clear c5
                        try clear p5
                        try clear p6
                        try clear c7
                        try clear c7b0
                        try clear c7b1
                        try clear c8
                        try clear c9
                        try clear c10
                        try clear c11
                        try clear c12
                        try clear c14
                        try clear c14b0
                        try clear c14b1
                        try clear p16
                        try clear q16
                        try clear hx16
                        try clear c19
                        try clear c28
                        try clear c28b0
                        try clear c29
                        try clear c29b0
                        try clear c30
                        try clear c30b0
                        try clear c33
                        try clear c33b0
                        try clear c33b1
                        try clear c34
                        try clear c34b0
                        try clear hx163_0
                        try clear p163
                        try clear p2
                        try clear p5
                        try clear p6
                        try clear q163
                        obtain ⟨kq, x89_31, rfl, HA, HJ31, HO_10, HO_65, HB⟩ := hcut
                        cases kq with
                        | zero => exact absurd HA.out (by simp [terrkeep5_FontLines.j2])
                        | succ kj31 =>
                          have H := HA.out
                          clear HA
                          simp only [terrkeep5_FontLines.j2] at H
                          by_cases c35 : x89_31 = true
                          · subst c35
                            have H1 : (some false) = some r := by rw [if_pos rfl] at H; exact H
                            clear H
                            have H := H1
                            clear H1
                            exact absurd (H.trans (congrArg some hr)) (by decide)
                          · replace c35 := Bool.eq_false_iff.mpr c35
                            subst c35
                            have H1 : (if x67_2 = 0 then (terrkeep5_FontLines.l0 kj31 (wrap64 (1 + t149)) (wrap64 (1 + t150)) t151 t151 (t151.length : Int) (wrap64 (x67_2 + 1))) else ((strings_Cut.f (rdOf ByteArray.empty t151 x67_2) (⟨#[32]⟩ : ByteArray)).bind fun bt167 => (if 0 ≤ (wrap64 (x67_2 - 1)) then (if (wrap64 (x67_2 - 1)) < (t151.length : Int) then (if (rdOf ByteArray.empty t151 (wrap64 (x67_2 - 1))).size + 1 ≤ 9223372036854775807 then (if ((rdOf ByteArray.empty t151 (wrap64 (x67_2 - 1))) ++ (⟨#[32]⟩ : ByteArray)).size + bt167.1.size ≤ 9223372036854775807 then ((font_Size.f kj31 (((rdOf ByteArray.empty t151 (wrap64 (x67_2 - 1))) ++ (⟨#[32]⟩ : ByteArray)) ++ bt167.1) (wrap64 (1 + t149))).bind fun bt171 => (if bt171.1 ≤ (wrap64 (1 + t150)) then (some false) else (terrkeep5_FontLines.l0 kj31 (wrap64 (1 + t149)) (wrap64 (1 + t150)) t151 t151 (t151.length : Int) (wrap64 (x67_2 + 1))))) else (none)) else (none)) else (none)) else (none)))) = some r := by rw [if_neg (show ¬ (false = true) by decide)] at H; exact H
                            clear H
                            have H := H1
                            clear H1
                            by_cases c36 : x67_2 = 0
                            · rw [if_pos c36] at H
                              have c36b0 : (x67_2 == 0) = true := beq_iff_eq.mpr c36
                              have c36b1 : (x67_2 != 0) = false := bne_eq_false_iff_eq.mpr c36
                              clear c36
                              have H' := Aside0.mk H
                              clear H
                              go_wp2
                              go_roundg kj31
                              case measure => have := HJ4.out; have := HK2.out; have := HJ31.out; omega
                              case rel => exact ⟨(wrap64 (x67_2 + 1)), (by first | rfl | (simp; done) | (simp [*]; done)), H', ⟨by have := HJ4.out; have := HK2.out; have := HJ31.out; omega⟩, ⟨by (with_reducible repeat (first | apply Kd.R_alloc | apply Kd.R_drewN | apply Kd.R_drew)); exact HO_10.out⟩, ⟨by (with_reducible repeat (first | apply Kd.R_alloc | apply Kd.R_drewN | apply Kd.R_drew)); exact HO_65.out⟩, ⟨by repeat (first | (with_reducible first | exact HB.out | apply below_alloc | apply pw_below_drewN | apply below_drew1) | exact HB.out)⟩⟩
                            · rw [if_neg c36] at H
                              have c36b0 : (x67_2 == 0) = false := beq_eq_false_iff_ne.mpr c36
                              have c36b1 : (x67_2 != 0) = true := bne_iff_ne.mpr c36
                              replace H := Option.bind_eq_some_iff.mp H
                              obtain ⟨⟨t167, t168, t169⟩, A370, H⟩ := H
                              replace H : (if 0 ≤ (wrap64 (x67_2 - 1)) then (if (wrap64 (x67_2 - 1)) < (t151.length : Int) then (if (rdOf ByteArray.empty t151 (wrap64 (x67_2 - 1))).size + 1 ≤ 9223372036854775807 then (if ((rdOf ByteArray.empty t151 (wrap64 (x67_2 - 1))) ++ (⟨#[32]⟩ : ByteArray)).size + t167.size ≤ 9223372036854775807 then ((font_Size.f kj31 (((rdOf ByteArray.empty t151 (wrap64 (x67_2 - 1))) ++ (⟨#[32]⟩ : ByteArray)) ++ t167) (wrap64 (1 + t149))).bind fun bt171 => (if bt171.1 ≤ (wrap64 (1 + t150)) then (some false) else (terrkeep5_FontLines.l0 kj31 (wrap64 (1 + t149)) (wrap64 (1 + t150)) t151 t151 (t151.length : Int) (wrap64 (x67_2 + 1))))) else (none)) else (none)) else (none)) else (none)) = some r := H
                              have A37 := Aside0.mk A370
                              clear A370
                              obtain ⟨ji38, hji38⟩ : ∃ j_ : Int, (wrap64 (x67_2 - 1)) = j_ := ⟨_, rfl⟩
                              replace H : (if 0 ≤ (ji38) then (if (ji38) < (t151.length : Int) then (if (rdOf ByteArray.empty t151 (ji38)).size + 1 ≤ 9223372036854775807 then (if ((rdOf ByteArray.empty t151 (ji38)) ++ (⟨#[32]⟩ : ByteArray)).size + t167.size ≤ 9223372036854775807 then ((font_Size.f kj31 (((rdOf ByteArray.empty t151 (ji38)) ++ (⟨#[32]⟩ : ByteArray)) ++ t167) (wrap64 (1 + t149))).bind fun bt171 => (if bt171.1 ≤ (wrap64 (1 + t150)) then (some false) else (terrkeep5_FontLines.l0 kj31 (wrap64 (1 + t149)) (wrap64 (1 + t150)) t151 t151 (t151.length : Int) (wrap64 (x67_2 + 1))))) else (none)) else (none)) else (none)) else (none)) = some r := by first | (rw [hji38] at H; exact H) | (simp only [hji38] at H ⊢; exact H)
                              (try rw [hji38] at A37)
                              have hji38w : (IntKind.i64.wrap (x67_2 - 1)) = ji38 := (i64_w _).trans hji38
                              by_cases c39 : 0 ≤ (ji38)
                              · rw [if_pos c39] at H
                                have c39b0 : decide (0 ≤ (ji38)) = true := decide_eq_true c39
                                clear c39
                                by_cases c40 : (ji38) < (t151.length : Int)
                                · rw [if_pos c40] at H
                                  have c40b0 : decide ((ji38) < (t151.length : Int)) = true := decide_eq_true c40
                                  clear c40
                                  by_cases c41 : (rdOf ByteArray.empty t151 (ji38)).size + 1 ≤ 9223372036854775807
                                  · rw [if_pos c41] at H
                                    have c41b0 := eq_true c41
                                    have c41b1 : decide ((rdOf ByteArray.empty t151 (ji38)).size + 1 ≤ 9223372036854775807) = true := decide_eq_true c41
                                    try have c41b2 : (9223372036854775807 < (rdOf ByteArray.empty t151 (ji38)).size + 1) = False := eq_false (Nat.not_lt.2 c41)
                                    by_cases c42 : ((rdOf ByteArray.empty t151 (ji38)) ++ (⟨#[32]⟩ : ByteArray)).size + t167.size ≤ 9223372036854775807
                                    · rw [if_pos c42] at H
                                      have c42b0 := eq_true c42
                                      have c42b1 : decide (((rdOf ByteArray.empty t151 (ji38)) ++ (⟨#[32]⟩ : ByteArray)).size + t167.size ≤ 9223372036854775807) = true := decide_eq_true c42
                                      try have c42b2 : (9223372036854775807 < ((rdOf ByteArray.empty t151 (ji38)) ++ (⟨#[32]⟩ : ByteArray)).size + t167.size) = False := eq_false (Nat.not_lt.2 c42)
                                      replace H := Option.bind_eq_some_iff.mp H
                                      obtain ⟨⟨t171, t172, t173⟩, A430, H⟩ := H
                                      replace H : (if t171 ≤ (wrap64 (1 + t150)) then (some false) else (terrkeep5_FontLines.l0 kj31 (wrap64 (1 + t149)) (wrap64 (1 + t150)) t151 t151 (t151.length : Int) (wrap64 (x67_2 + 1)))) = some r := H
                                      have A43 := Aside0.mk A430
                                      clear A430
                                      by_cases c44 : t171 ≤ (wrap64 (1 + t150))
                                      · rw [if_pos c44] at H
                                        have c44b0 : decide (t171 ≤ (wrap64 (1 + t150))) = true := decide_eq_true c44
                                        clear c44
                                        exact absurd (H.trans (congrArg some hr)) (by decide)
                                      · rw [if_neg c44] at H
                                        have c44b0 : decide (t171 ≤ (wrap64 (1 + t150))) = false := decide_eq_false c44
                                        clear c44
                                        have H' := Aside0.mk H
                                        clear H
                                        go_wp2_with (first | ((with_reducible refine gate_callee (f := 13) rfl ?_); refine goesL_ (some 94) rfl rfl Tryd.func13 (by kernel_rfl) rfl #[.string (rdOf ByteArray.empty t151 x67_2), .string (⟨#[32]⟩ : ByteArray)] rfl (by (try simp only [List.map_toArray, List.map_cons, List.map_nil]); first | done | rfl | (simp only [List.length_drop, List.length_take]; rfl)) ?_; (with_reducible refine (strings_Cut.calls (rdOf ByteArray.empty t151 x67_2) (⟨#[32]⟩ : ByteArray) t167 t168 t169 _ (hT.below (by repeat (first | (with_reducible first | exact HB.out | apply below_alloc | apply pw_below_drewN | apply below_drew1) | exact HB.out))).mx A37.out).mono ?_); rintro e w' ⟨rfl, ⟨nd, rfl⟩⟩; refine ⟨_, rfl, ?_⟩; have p170 : 0 ≤ ((ji38) : Int) := of_decide_eq_true (by first | (with_reducible assumption) | assumption); have q170 : (ji38) < (t151.length : Int) := of_decide_eq_true (by first | (with_reducible assumption) | assumption); obtain ⟨ad170, e170, hx170_0⟩ := Kd.at_string (Kd.R_reads' HO_10.out).2.2 (ji38) p170 q170; obtain rfl : ad163 = ad170 := (by injection e170); replace p170 := eq_true p170; replace q170 := eq_true q170) | ((with_reducible refine gate_callee (f := 12) rfl ?_); refine goesL_ (some 108) rfl rfl Tryd.func12 (by kernel_rfl) rfl #[.string (((rdOf ByteArray.empty t151 (ji38)) ++ (⟨#[32]⟩ : ByteArray)) ++ t167), .int .i64 (wrap64 (1 + t149))] rfl (by (try simp only [List.map_toArray, List.map_cons, List.map_nil]); first | done | (simp only [hji38]; rfl) | rfl | (simp only [List.length_drop, List.length_take]; rfl)) ?_; (with_reducible refine (font_Size.calls kj31 (((rdOf ByteArray.empty t151 (ji38)) ++ (⟨#[32]⟩ : ByteArray)) ++ t167) (wrap64 (1 + t149)) t171 t172 t173 _ A43.out).mono ?_); rintro e w' ⟨rfl, ⟨nd, rfl⟩⟩; refine ⟨_, rfl, ?_⟩))
                                        go_roundg kj31
                                        case measure => have := HJ4.out; have := HK2.out; have := HJ31.out; omega
                                        case rel => exact ⟨(wrap64 (x67_2 + 1)), (by first | rfl | (simp; done) | (simp [*]; done)), H', ⟨by have := HJ4.out; have := HK2.out; have := HJ31.out; omega⟩, ⟨by (with_reducible repeat (first | apply Kd.R_alloc | apply Kd.R_drewN | apply Kd.R_drew)); exact HO_10.out⟩, ⟨by (with_reducible repeat (first | apply Kd.R_alloc | apply Kd.R_drewN | apply Kd.R_drew)); exact HO_65.out⟩, ⟨by repeat (first | (with_reducible first | exact HB.out | apply below_alloc | apply pw_below_drewN | apply below_drew1) | exact HB.out)⟩⟩
                                    · rw [if_neg c42] at H
                                      exact absurd H (by simp)
                                  · rw [if_neg c41] at H
                                    exact absurd H (by simp)
                                · rw [if_neg c40] at H
                                  exact absurd H (by simp)
                              · rw [if_neg c39] at H
                                exact absurd H (by simp)
                    · rw [if_neg c30] at H
                      exact absurd H (by simp)
                  · rw [if_neg c29] at H
                    exact absurd H (by simp)
                · rw [if_neg c28] at H
                  have c28b0 : decide (x67_2 < (t151.length : Int)) = false := decide_eq_false c28
                  clear c28
                  clear hr
                  obtain rfl := Option.some.inj H
                  go_wp2
                  go_ret
                  exact ⟨by first | rfl | (simp [errW_none, errW_some] <;> rfl) | (simp [*, errW_none, errW_some] <;> rfl), by repeat (first | (with_reducible first | exact HB.out | apply below_alloc | apply pw_below_drewN | apply below_drew1) | exact HB.out)⟩
          · replace c19 := Bool.eq_false_iff.mpr c19
            subst c19
            have H1 : (some false) = some r := by rw [if_neg (show ¬ (false = true) by decide)] at H; exact H
            clear H
            have H := H1
            clear H1
            exact absurd (H.trans (congrArg some hr)) (by decide)
        · rw [if_neg c14] at H
          have c14b0 : (t152 == 0) = false := beq_eq_false_iff_ne.mpr c14
          have c14b1 : (t152 != 0) = true := bne_iff_ne.mpr c14
          by_cases c45 : t152 = 17
          · rw [if_pos c45] at H
            have c45b0 : (t152 == 17) = true := beq_iff_eq.mpr c45
            have c45b1 : (t152 != 17) = false := bne_eq_false_iff_eq.mpr c45
            clear c45
            clear hr
            obtain rfl := Option.some.inj H
            go_wp2_with (first | ((with_reducible refine gate_callee (f := 8) rfl ?_); refine goesL_ (some 35) rfl rfl Tryd.func8 (by kernel_rfl) rfl #[.slice A0 l0.length c0] rfl (by (try simp only [List.map_toArray, List.map_cons, List.map_nil]); first | done | rfl | (simp only [List.length_drop, List.length_take]; rfl)) ?_; (with_reducible refine (terrkeep5_text.calls kj4 _ _ l0 t148 _ ?side1 ?side2 A10.out).mono ?_); (case side1 => repeat (first | exact (Kd.C_below HR0.out HB.out) | (with_reducible refine Kd.C_alloc ?_ _) | (with_reducible refine Kd.C_drewN ?_ _) | (with_reducible refine Kd.C_drew ?_))); (case side2 => exact HC0.out); rintro e w46 ⟨rfl, hb⟩; refine ⟨_, rfl, ?_⟩; have n0_ := Aside0.mk (below_step (by repeat (first | (with_reducible first | exact HB.out | apply below_alloc | apply pw_below_drewN | apply below_drew1) | exact HB.out)) hb); clear HB; have HB := n0_; clear n0_; (try clear hb); (try clear hb2); (try clear hk); (try clear hi)) | ((with_reducible refine gate_callee (f := 9) rfl ?_); refine goesL_ (some 37) rfl rfl Tryd.func9 (by kernel_rfl) rfl #[.int .i64 a1, .int .i64 4] rfl (by (try simp only [List.map_toArray, List.map_cons, List.map_nil]); first | done | rfl | (simp only [List.length_drop, List.length_take]; rfl)) ?_; (with_reducible refine (terrmake_Below.calls a1 4 t149 _ A11.out).mono ?_); rintro e w' ⟨rfl, ⟨nd, rfl⟩⟩; refine ⟨_, rfl, ?_⟩) | ((with_reducible refine gate_callee (f := 9) rfl ?_); refine goesL_ (some 40) rfl rfl Tryd.func9 (by kernel_rfl) rfl #[.int .i64 a2, .int .i64 300] rfl (by (try simp only [List.map_toArray, List.map_cons, List.map_nil]); first | done | rfl | (simp only [List.length_drop, List.length_take]; rfl)) ?_; (with_reducible refine (terrmake_Below.calls a2 300 t150 _ A12.out).mono ?_); rintro e w' ⟨rfl, ⟨nd, rfl⟩⟩; refine ⟨_, rfl, ?_⟩) | ((with_reducible refine gate_callee (f := 5) rfl ?_); refine goesL_ (some 46) rfl rfl Tryd.func5 (by kernel_rfl) rfl #[.string t148, .int .i64 (wrap64 (1 + t149)), .int .i64 (wrap64 (1 + t150))] rfl (by (try simp only [List.map_toArray, List.map_cons, List.map_nil]); first | done | rfl | (simp only [List.length_drop, List.length_take]; rfl)) ?_; (with_reducible refine (font_Wrap.calls kj4 t148 (wrap64 (1 + t149)) (wrap64 (1 + t150)) t151 t152 _ (hT.below (by repeat (first | (with_reducible first | exact HB.out | apply below_alloc | apply pw_below_drewN | apply below_drew1) | exact HB.out))).sp A13.out).mono ?_); rintro e w47 ⟨v153, rfl, ho0, hb⟩; refine ⟨_, rfl, ?_⟩; have n0_ := Aside0.mk (Kd.R_lower ho0 (below_size (by repeat (first | (with_reducible first | exact HB.out | apply below_alloc | apply pw_below_drewN | apply below_drew1) | exact HB.out)))); have n1_ := Aside0.mk (below_step (by repeat (first | (with_reducible first | exact HB.out | apply below_alloc | apply pw_below_drewN | apply below_drew1) | exact HB.out)) hb); clear HB; have HO154 := n0_; have HB := n1_; clear n0_ n1_; (try clear hb); (try clear hb2); (try clear hk); (try clear hi); (try clear ho0); obtain ⟨Ao48, co48, eo48⟩ := Kd.R_slice HO154.out; subst eo48))
            go_ret
            exact ⟨by first | rfl | (simp [errW_none, errW_some] <;> rfl) | (simp [*, errW_none, errW_some] <;> rfl), by repeat (first | (with_reducible first | exact HB.out | apply below_alloc | apply pw_below_drewN | apply below_drew1) | exact HB.out)⟩
          · rw [if_neg c45] at H
            have c45b0 : (t152 == 17) = false := beq_eq_false_iff_ne.mpr c45
            have c45b1 : (t152 != 17) = true := bne_iff_ne.mpr c45
            exact absurd (H.trans (congrArg some hr)) (by decide)

end Go.Proofs.YtojehbkadlmbjaaDoor.Q
