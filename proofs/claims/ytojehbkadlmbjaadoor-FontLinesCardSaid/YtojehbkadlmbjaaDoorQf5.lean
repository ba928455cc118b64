/- What the Go function font_Wrap comes to, and its contract. Condition: its printed twin gives an answer. -/
import Derived.Test.YtojehbkadlmbjaaDoorQf10
import Derived.Test.YtojehbkadlmbjaaDoorQf12
namespace Go.Proofs.YtojehbkadlmbjaaDoor.Q
open Go.RowKit Go.Proofs.YtojehbkadlmbjaaDoorW.PrintWords Go.Proofs.YtojehbkadlmbjaaDoorW.PrintLast Go.Proofs.YtojehbkadlmbjaaDoorW.PrintMore
attribute [local go_sem] max2_int min2_int max_two min_two max_three min_three max_four min_four
set_option linter.unusedVariables false
set_option linter.unusedSimpArgs false
/-! ### font_Wrap: function 5 -/
mutual
def font_Wrap.l0 : Nat → Int → Int → List ByteArray → ByteArray → List ByteArray → Int → Int → Option (List ByteArray × Int)
  | 0, _, _, _, _, _, _, _ => none
  | k + 1, x1, x2, x11, x12, x35, x36, x37 => if x37 < x36 then (if 0 ≤ x37 then (if x37 < (x35.length : Int) then (if x12.toList = ([] : List UInt8) then (font_Wrap.j1 k x1 x2 x11 x12 (rdOf ByteArray.empty x35 x37) (rdOf ByteArray.empty x35 x37) x35 x36 x37) else (if x12.size + 1 ≤ 9223372036854775807 then (if (x12 ++ (⟨#[32]⟩ : ByteArray)).size + (rdOf ByteArray.empty x35 x37).size ≤ 9223372036854775807 then (font_Wrap.j1 k x1 x2 x11 x12 (rdOf ByteArray.empty x35 x37) ((x12 ++ (⟨#[32]⟩ : ByteArray)) ++ (rdOf ByteArray.empty x35 x37)) x35 x36 x37) else (none)) else (none))) else (none)) else (none)) else (if x12.toList = ([] : List UInt8) then (some (x11, 0)) else (if x11.length < 8796093022208 then (some ((x11 ++ [x12]), 0)) else (none)))
def font_Wrap.j1 : Nat → Int → Int → List ByteArray → ByteArray → ByteArray → ByteArray → List ByteArray → Int → Int → Option (List ByteArray × Int)
  | 0, _, _, _, _, _, _, _, _, _ => none
  | k + 1, x1, x2, x11, x12, x14, x15, x35, x36, x37 => (font_Size.f k x15 x1).bind fun bt122 => (if bt122.1 ≤ x2 then (font_Wrap.l0 k x1 x2 x11 x15 x35 x36 (wrap64 (x37 + 1))) else (if x12.toList = ([] : List UInt8) then (some (([] : List ByteArray), 17)) else ((font_Size.f k x14 x1).bind fun bt125 => (if bt125.1 > x2 then (some (([] : List ByteArray), 17)) else (if x11.length < 8796093022208 then (font_Wrap.l0 k x1 x2 (x11 ++ [x12]) x14 x35 x36 (wrap64 (x37 + 1))) else (none))))))
end
def font_Wrap.f (k : Nat) (a0 : ByteArray) (a1 : Int) (a2 : Int) : Option (List ByteArray × Int) := (font_Size.f k a0 a1).bind fun bt112 => (if bt112.2.2 = 0 then (if a2 < 1 then (some (([] : List ByteArray), 1)) else ((strings_Fields.f k a0).bind fun t115 => (font_Wrap.l0 k a1 a2 ([] : List ByteArray) (⟨#[]⟩ : ByteArray) t115 (t115.length : Int) 0))) else (some (([] : List ByteArray), bt112.2.2)))
theorem font_Wrap.mono_l : ∀ k, (∀ y0 y1 y2 y3 y4 y5 y6, LeO (font_Wrap.l0 k y0 y1 y2 y3 y4 y5 y6) (font_Wrap.l0 (k + 1) y0 y1 y2 y3 y4 y5 y6)) ∧ (∀ y0 y1 y2 y3 y4 y5 y6 y7 y8, LeO (font_Wrap.j1 k y0 y1 y2 y3 y4 y5 y6 y7 y8) (font_Wrap.j1 (k + 1) y0 y1 y2 y3 y4 y5 y6 y7 y8))
  | 0 => ⟨fun _ _ _ _ _ _ _ r h => by simp [font_Wrap.l0] at h, fun _ _ _ _ _ _ _ _ _ r h => by simp [font_Wrap.j1] at h⟩
  | k + 1 => by
    obtain ⟨ih0, ih1⟩ := font_Wrap.mono_l k
    refine ⟨?_, ?_⟩
    · intro y0 y1 y2 y3 y4 y5 y6
      unfold font_Wrap.l0
      repeat' first
      | (with_reducible exact ih0 _ _ _ _ _ _ _)
      | (with_reducible exact ih1 _ _ _ _ _ _ _ _ _)
      | (with_reducible exact font_Size.mono _ _ _)
      | (with_reducible exact strings_Fields.mono _ _)
      | (with_reducible exact LeO.refl _)
      | (with_reducible exact LeO.none _)
      | (with_reducible refine LeO.ite ?_ ?_)
      | (with_reducible refine LeO.bind ?_ (fun _ => ?_))
      | exact ih0 _ _ _ _ _ _ _
      | exact ih1 _ _ _ _ _ _ _ _ _
      | exact font_Size.mono _ _ _
      | exact strings_Fields.mono _ _
      | exact LeO.none _
      | refine LeO.ite ?_ ?_
      | refine LeO.bind ?_ (fun _ => ?_)
    · intro y0 y1 y2 y3 y4 y5 y6 y7 y8
      unfold font_Wrap.j1
      repeat' first
      | (with_reducible exact ih0 _ _ _ _ _ _ _)
      | (with_reducible exact ih1 _ _ _ _ _ _ _ _ _)
      | (with_reducible exact font_Size.mono _ _ _)
      | (with_reducible exact strings_Fields.mono _ _)
      | (with_reducible exact LeO.refl _)
      | (with_reducible exact LeO.none _)
      | (with_reducible refine LeO.ite ?_ ?_)
      | (with_reducible refine LeO.bind ?_ (fun _ => ?_))
      | exact ih0 _ _ _ _ _ _ _
      | exact ih1 _ _ _ _ _ _ _ _ _
      | exact font_Size.mono _ _ _
      | exact strings_Fields.mono _ _
      | exact LeO.none _
      | refine LeO.ite ?_ ?_
      | refine LeO.bind ?_ (fun _ => ?_)
theorem font_Wrap.mono : ∀ a0 a1 a2 k, LeO (font_Wrap.f k a0 a1 a2) (font_Wrap.f (k + 1) a0 a1 a2) := by
  intro a0 a1 a2 k
  obtain ⟨ih0, ih1⟩ := font_Wrap.mono_l k
  unfold font_Wrap.f
  repeat' first
      | (with_reducible exact ih0 _ _ _ _ _ _ _)
      | (with_reducible exact ih1 _ _ _ _ _ _ _ _ _)
      | (with_reducible exact font_Size.mono _ _ _)
      | (with_reducible exact strings_Fields.mono _ _)
      | (with_reducible exact LeO.refl _)
      | (with_reducible exact LeO.none _)
      | (with_reducible refine LeO.ite ?_ ?_)
      | (with_reducible refine LeO.bind ?_ (fun _ => ?_))
      | exact ih0 _ _ _ _ _ _ _
      | exact ih1 _ _ _ _ _ _ _ _ _
      | exact font_Size.mono _ _ _
      | exact strings_Fields.mono _ _
      | exact LeO.none _
      | refine LeO.ite ?_ ?_
      | refine LeO.bind ?_ (fun _ => ?_)
set_option maxHeartbeats 8000000 in
set_option maxRecDepth 100000 in
theorem font_Wrap.calls (k : Nat) (a0 : ByteArray) (a1 : Int) (a2 : Int) (r1 : List ByteArray) (r2 : Int) (w : World) (hT : Spaces w) (h : font_Wrap.f k a0 a1 a2 = some (r1, r2)) :
    Calls Tryd.prog 5 #[.string a0, .int .i64 a1, .int .i64 a2] w fun e w' => ∃ v0_ : Value, e = .returned (.tuple #[v0_, .int .i64 r2]) ∧ Kd.R Kd.string 9 w' w.heap.size (fun _ => True) v0_ r1 ∧ Below w.heap.size w w' := by
  have HB := Aside0.mk (Below.refl w.heap.size w)
  have H : ((font_Size.f k a0 a1).bind fun bt112 => (if bt112.2.2 = 0 then (if a2 < 1 then (some (([] : List ByteArray), 1)) else ((strings_Fields.f k a0).bind fun t115 => (font_Wrap.l0 k a1 a2 ([] : List ByteArray) (⟨#[]⟩ : ByteArray) t115 (t115.length : Int) 0))) else (some (([] : List ByteArray), bt112.2.2)))) = some (r1, r2) := h
  clear h
  replace H := Option.bind_eq_some_iff.mp H
  obtain ⟨⟨t112, t113, t114⟩, A40, H⟩ := H
  replace H : (if t114 = 0 then (if a2 < 1 then (some (([] : List ByteArray), 1)) else ((strings_Fields.f k a0).bind fun t115 => (font_Wrap.l0 k a1 a2 ([] : List ByteArray) (⟨#[]⟩ : ByteArray) t115 (t115.length : Int) 0))) else (some (([] : List ByteArray), t114))) = some (r1, r2) := H
  have A4 := Aside0.mk A40
  clear A40
  by_cases c5 : t114 = 0
  · rw [if_pos c5] at H
    have c5b0 : (t114 == 0) = true := beq_iff_eq.mpr c5
    have c5b1 : (t114 != 0) = false := bne_eq_false_iff_eq.mpr c5
    clear c5
    by_cases c6 : a2 < 1
    · rw [if_pos c6] at H
      have c6b0 : decide (a2 < 1) = true := decide_eq_true c6
      clear c6
      simp only [Option.some.injEq, Prod.mk.injEq] at H
      obtain ⟨rfl, rfl⟩ := H
      go_enter Tryd.func5, Tryd.ntmps5
      go_wp2_with (first | ((with_reducible refine gate_callee (f := 12) rfl ?_); refine goesL_ (some 25) rfl rfl Tryd.func12 (by kernel_rfl) rfl #[.string a0, .int .i64 a1] rfl (by (try simp only [List.map_toArray, List.map_cons, List.map_nil]); first | done | rfl | (simp only [List.length_drop, List.length_take]; rfl)) ?_; (with_reducible refine (font_Size.calls k a0 a1 t112 t113 t114 _ A4.out).mono ?_); rintro e w' ⟨rfl, ⟨nd, rfl⟩⟩; refine ⟨_, rfl, ?_⟩))
      go_ret2
      exact ⟨_, by first | rfl | (simp [errW_none, errW_some] <;> rfl) | (simp [*, errW_none, errW_some] <;> rfl), by first | exact Kd.R_nil _ _ _ _ _ | exact Kd.N_nil _ _ _ _ _ | exact Kd.V_nil _ _ _ _ _ | exact Kd.Q_nil _ _ _ _ _ | exact Kd.S_nil _ _ _ _ _, by repeat (first | (with_reducible first | exact HB.out | apply below_alloc | apply pw_below_drewN | apply below_drew1) | exact HB.out)⟩
    · rw [if_neg c6] at H
      have c6b0 : decide (a2 < 1) = false := decide_eq_false c6
      clear c6
      replace H := Option.bind_eq_some_iff.mp H
      obtain ⟨t115, A70, H⟩ := H
      replace H : (font_Wrap.l0 k a1 a2 ([] : List ByteArray) (⟨#[]⟩ : ByteArray) t115 (t115.length : Int) 0) = some (r1, r2) := H
      have A7 := Aside0.mk A70
      clear A70
      have H' := Aside0.mk H
      clear H
      go_enter Tryd.func5, Tryd.ntmps5
      go_wp2_with (first | ((with_reducible refine gate_callee (f := 12) rfl ?_); refine goesL_ (some 25) rfl rfl Tryd.func12 (by kernel_rfl) rfl #[.string a0, .int .i64 a1] rfl (by (try simp only [List.map_toArray, List.map_cons, List.map_nil]); first | done | rfl | (simp only [List.length_drop, List.length_take]; rfl)) ?_; (with_reducible refine (font_Size.calls k a0 a1 t112 t113 t114 _ A4.out).mono ?_); rintro e w' ⟨rfl, ⟨nd, rfl⟩⟩; refine ⟨_, rfl, ?_⟩) | ((with_reducible refine gate_callee (f := 10) rfl ?_); refine goesL_ (some 35) rfl rfl Tryd.func10 (by kernel_rfl) rfl #[.string a0] rfl (by (try simp only [List.map_toArray, List.map_cons, List.map_nil]); first | done | rfl | (simp only [List.length_drop, List.length_take]; rfl)) ?_; (with_reducible refine (strings_Fields.calls k a0 t115 _ (hT.below (by repeat (first | (with_reducible first | exact HB.out | apply below_alloc | apply pw_below_drewN | apply below_drew1) | exact HB.out))) A7.out).mono ?_); rintro e w8 ⟨v116, rfl, ho0, hb⟩; refine ⟨_, rfl, ?_⟩; have n0_ := Aside0.mk (Kd.R_lower ho0 (below_size (by repeat (first | (with_reducible first | exact HB.out | apply below_alloc | apply pw_below_drewN | apply below_drew1) | exact HB.out)))); have n1_ := Aside0.mk (below_step (by repeat (first | (with_reducible first | exact HB.out | apply below_alloc | apply pw_below_drewN | apply below_drew1) | exact HB.out)) hb); clear HB; have HO117 := n0_; have HB := n1_; clear n0_ n1_; (try clear hb); (try clear hb2); (try clear hk); (try clear hi); (try clear ho0); obtain ⟨Ao9, co9, eo9⟩ := Kd.R_slice HO117.out; subst eo9))
      go_loopg [11, 12, 37] k (fun kq v11 v12 v37 w' => ∃ (x11_1 : List ByteArray) (x12_1 : ByteArray) (x37_1 : Int), v12 = .string x12_1 ∧ v37 = .int .i64 x37_1 ∧ Aside0 (font_Wrap.l0 kq a1 a2 x11_1 x12_1 t115 (t115.length : Int) x37_1 = some (r1, r2)) ∧ Aside0 (kq ≤ k) ∧ Aside0 (Kd.R Kd.string 9 w' w.heap.size (fun k_ => some k_ ≠ ((.slice Ao9 t115.length co9) : Value).ownBlock) v11 x11_1) ∧ Aside0 (Kd.R Kd.string 9 w' w.heap.size (fun k_ => some k_ ≠ (v11 : Value).ownBlock) (.slice Ao9 t115.length co9) t115) ∧ Aside0 (Below w.heap.size w w'))
      case atStart => exact ⟨(([] : List ByteArray)), ((⟨#[]⟩ : ByteArray)), (0), (by first | rfl | (simp; done) | (simp [*]; done)), (by first | rfl | (simp; done) | (simp [*]; done)), H', ⟨Nat.le_refl _⟩, ⟨by first | exact Kd.R_nil _ _ _ _ _ | exact Kd.N_nil _ _ _ _ _ | exact Kd.V_nil _ _ _ _ _ | exact Kd.Q_nil _ _ _ _ _ | exact Kd.S_nil _ _ _ _ _⟩, ⟨by (with_reducible repeat (first | apply Kd.R_alloc | apply Kd.R_drewN | apply Kd.R_drew)); exact Kd.R_mono HO117.out (fun _ hk => (by simp [Value.ownBlock]))⟩, ⟨by repeat (first | (with_reducible first | exact HB.out | apply below_alloc | apply pw_below_drewN | apply below_drew1) | exact HB.out)⟩⟩
      case round =>
        clear H'
        try clear c1
        try clear p2
        try clear c5
        try clear c5b0
        try clear c5b1
        try clear c6
        try clear c6b0
        obtain ⟨x11_1, x12_1, x37_1, rfl, rfl, HA, HK1, HO_11, HO_35, HB⟩ := hrel
        cases gk with
        | zero => exact absurd HA.out (by simp [font_Wrap.l0])
        | succ k1 =>
          have H := HA.out
          clear HA
          simp only [font_Wrap.l0] at H
          by_cases c10 : x37_1 < (t115.length : Int)
          · rw [if_pos c10] at H
            have c10b0 : decide (x37_1 < (t115.length : Int)) = true := decide_eq_true c10
            clear c10
            by_cases c11 : 0 ≤ x37_1
            · rw [if_pos c11] at H
              have c11b0 : decide (0 ≤ x37_1) = true := decide_eq_true c11
              clear c11
              by_cases c12 : x37_1 < (t115.length : Int)
              · rw [if_pos c12] at H
                have c12b0 : decide (x37_1 < (t115.length : Int)) = true := decide_eq_true c12
                clear c12
                have HC13 := Aside0.mk H
                clear H
                have p121 : 0 ≤ (x37_1 : Int) := of_decide_eq_true (by first | (with_reducible assumption) | assumption)
                have q121 : x37_1 < (t115.length : Int) := of_decide_eq_true (by first | (with_reducible assumption) | assumption)
                obtain ⟨ad121, e121, hx121_0⟩ := Kd.at_string (Kd.R_reads' HO_35.out).2.2 x37_1 p121 q121
                cases e121
                replace p121 := eq_true p121
                replace q121 := eq_true q121
                go_upto_if 43 with (fail)
                go_cut [15] (fun v15 wc => ∃ (kq : Nat) (x15_12 : ByteArray), v15 = .string x15_12 ∧ Aside0 (font_Wrap.j1 kq a1 a2 x11_1 x12_1 (rdOf ByteArray.empty t115 x37_1) x15_12 t115 (t115.length : Int) x37_1 = some (r1, r2)) ∧ Aside0 (kq ≤ k1) ∧ Aside0 (Kd.R Kd.string 9 wc w.heap.size (fun k_ => some k_ ≠ ((.slice (some ad121) t115.length co9) : Value).ownBlock) u11 x11_1) ∧ Aside0 (Kd.R Kd.string 9 wc w.heap.size (fun k_ => some k_ ≠ (u11 : Value).ownBlock) (.slice (some ad121) t115.length co9) t115) ∧ Aside0 (Below w.heap.size w wc))
                case first =>
                  have H := HC13.out
                  clear HC13
                  by_cases c14 : x12_1.toList = ([] : List UInt8)
                  · rw [if_pos c14] at H
                    have c14b0 : (x12_1.toList == ([] : List UInt8)) = true := beq_iff_eq.mpr c14
                    have c14b8 : x12_1.toList.isEmpty = true := List.isEmpty_iff.mpr c14
                    have c14b7 : (!x12_1.toList.isEmpty) = false := by rw [c14b8]; rfl
                    have c14b1 : (x12_1.toList != ([] : List UInt8)) = false := bne_eq_false_iff_eq.mpr c14
                    clear c14
                    (first | rw [c14b0] | (simp only [i64_w, i32_w]; rw [c14b0]) | skip)
                    have H' := Aside0.mk H
                    clear H
                    go_wp2
                    all_goals try (exfalso; have h9_ : (!x12_1.toList.isEmpty) = true := (by assumption); exact absurd (h9_.symm.trans c14b7) (by decide))
                    go_meet
                    case rel => exact ⟨_, (rdOf ByteArray.empty t115 x37_1), (by first | rfl | (simp; done) | (simp [*]; done)), H', ⟨by have := HK1.out; first | omega | exact Nat.le_refl _⟩, ⟨by (with_reducible repeat (first | apply Kd.R_alloc | apply Kd.R_drewN | apply Kd.R_drew)); exact HO_11.out⟩, ⟨by (with_reducible repeat (first | apply Kd.R_alloc | apply Kd.R_drewN | apply Kd.R_drew)); exact HO_35.out⟩, ⟨by repeat (first | (with_reducible first | exact HB.out | apply below_alloc | apply pw_below_drewN | apply below_drew1) | exact HB.out)⟩⟩
                  · rw [if_neg c14] at H
                    have c14b0 : (x12_1.toList == ([] : List UInt8)) = false := beq_eq_false_iff_ne.mpr c14
                    have c14b8 : x12_1.toList.isEmpty = false := Bool.eq_false_iff.mpr (fun h_ => c14 (List.isEmpty_iff.mp h_))
                    have c14b7 : (!x12_1.toList.isEmpty) = true := by rw [c14b8]; rfl
                    have c14b1 : (x12_1.toList != ([] : List UInt8)) = true := bne_iff_ne.mpr c14
                    (first | rw [c14b0] | (simp only [i64_w, i32_w]; rw [c14b0]) | skip)
                    by_cases c15 : x12_1.size + 1 ≤ 9223372036854775807
                    · rw [if_pos c15] at H
                      have c15b0 := eq_true c15
                      have c15b1 : decide (x12_1.size + 1 ≤ 9223372036854775807) = true := decide_eq_true c15
                      try have c15b2 : (9223372036854775807 < x12_1.size + 1) = False := eq_false (Nat.not_lt.2 c15)
                      by_cases c16 : (x12_1 ++ (⟨#[32]⟩ : ByteArray)).size + (rdOf ByteArray.empty t115 x37_1).size ≤ 9223372036854775807
                      · rw [if_pos c16] at H
                        have c16b0 := eq_true c16
                        have c16b1 : decide ((x12_1 ++ (⟨#[32]⟩ : ByteArray)).size + (rdOf ByteArray.empty t115 x37_1).size ≤ 9223372036854775807) = true := decide_eq_true c16
                        try have c16b2 : (9223372036854775807 < (x12_1 ++ (⟨#[32]⟩ : ByteArray)).size + (rdOf ByteArray.empty t115 x37_1).size) = False := eq_false (Nat.not_lt.2 c16)
                        have H' := Aside0.mk H
                        clear H
                        go_wp2
                        all_goals try (exfalso; have h9_ : (!x12_1.toList.isEmpty) = false := (by assumption); exact absurd (h9_.symm.trans c14b7) (by decide))
                        go_meet
                        case rel => exact ⟨_, ((x12_1 ++ (⟨#[32]⟩ : ByteArray)) ++ (rdOf ByteArray.empty t115 x37_1)), (by first | rfl | (simp; done) | (simp [*]; done)), H', ⟨by have := HK1.out; first | omega | exact Nat.le_refl _⟩, ⟨by (with_reducible repeat (first | apply Kd.R_alloc | apply Kd.R_drewN | apply Kd.R_drew)); exact HO_11.out⟩, ⟨by (with_reducible repeat (first | apply Kd.R_alloc | apply Kd.R_drewN | apply Kd.R_drew)); exact HO_35.out⟩, ⟨by repeat (first | (with_reducible first | exact HB.out | apply below_alloc | apply pw_below_drewN | apply below_drew1) | exact HB.out)⟩⟩
                      · rw [if_neg c16] at H
                        exact absurd H (by simp)
                    · rw [if_neg c15] at H
                      exact absurd H (by simp)
                case rest =>
                  clear HC13
                  try clear c1
                  try clear p1
                  try clear q1
                  try clear hx1
                  try clear p2
                  try clear c5
                  try clear c5b0
                  try clear c5b1
                  try clear c6
                  try clear c6b0
                  try clear c10
                  try clear c10b0
                  try clear c11
                  try clear c11b0
                  try clear c12
                  try clear c12b0
                  try clear p12
                  try clear q12
                  try clear hx12
                  try clear c14
                  try clear c14b0
                  try clear c14b1
                  try clear c15
                  try clear c15b0
                  try clear c15b1
                  try clear c15b2
                  try clear c16
                  try clear c16b0
                  try clear c16b1
                  try clear c16b2
                  try clear hx121_0
                  try clear p121
                  try clear p2
                  try clear q121
                  obtain ⟨kq, x15_12, rfl, HA, HJ12, HO_11, HO_35, HB⟩ := hcut
                  cases kq with
                  | zero => exact absurd HA.out (by simp [font_Wrap.j1])
                  | succ kj12 =>
                    have H := HA.out
                    clear HA
                    simp only [font_Wrap.j1] at H
                    replace H := Option.bind_eq_some_iff.mp H
                    obtain ⟨⟨t122, t123, t124⟩, A170, H⟩ := H
                    replace H : (if t122 ≤ a2 then (font_Wrap.l0 kj12 a1 a2 x11_1 x15_12 t115 (t115.length : Int) (wrap64 (x37_1 + 1))) else (if x12_1.toList = ([] : List UInt8) then (some (([] : List ByteArray), 17)) else ((font_Size.f kj12 (rdOf ByteArray.empty t115 x37_1) a1).bind fun bt125 => (if bt125.1 > a2 then (some (([] : List ByteArray), 17)) else (if x11_1.length < 8796093022208 then (font_Wrap.l0 kj12 a1 a2 (x11_1 ++ [x12_1]) (rdOf ByteArray.empty t115 x37_1) t115 (t115.length : Int) (wrap64 (x37_1 + 1))) else (none)))))) = some (r1, r2) := H
                    have A17 := Aside0.mk A170
                    clear A170
                    by_cases c18 : t122 ≤ a2
                    · rw [if_pos c18] at H
                      have c18b0 : decide (t122 ≤ a2) = true := decide_eq_true c18
                      clear c18
                      have H' := Aside0.mk H
                      clear H
                      go_wp2_with (first | ((with_reducible refine gate_callee (f := 12) rfl ?_); refine goesL_ (some 51) rfl rfl Tryd.func12 (by kernel_rfl) rfl #[.string x15_12, .int .i64 a1] rfl (by (try simp only [List.map_toArray, List.map_cons, List.map_nil]); first | done | rfl | (simp only [List.length_drop, List.length_take]; rfl)) ?_; (with_reducible refine (font_Size.calls kj12 x15_12 a1 t122 t123 t124 _ A17.out).mono ?_); rintro e w' ⟨rfl, ⟨nd, rfl⟩⟩; refine ⟨_, rfl, ?_⟩))
                      go_roundg kj12
                      case measure => have := HK1.out; have := HJ12.out; omega
                      case rel => exact ⟨(x11_1), (x15_12), (wrap64 (x37_1 + 1)), (by first | rfl | (simp; done) | (simp [*]; done)), (by first | rfl | (simp; done) | (simp [*]; done)), H', ⟨by have := HK1.out; have := HJ12.out; omega⟩, ⟨by (with_reducible repeat (first | apply Kd.R_alloc | apply Kd.R_drewN | apply Kd.R_drew)); exact HO_11.out⟩, ⟨by (with_reducible repeat (first | apply Kd.R_alloc | apply Kd.R_drewN | apply Kd.R_drew)); exact HO_35.out⟩, ⟨by repeat (first | (with_reducible first | exact HB.out | apply below_alloc | apply pw_below_drewN | apply below_drew1) | exact HB.out)⟩⟩
                    · rw [if_neg c18] at H
                      have c18b0 : decide (t122 ≤ a2) = false := decide_eq_false c18
                      clear c18
                      by_cases c19 : x12_1.toList = ([] : List UInt8)
                      · rw [if_pos c19] at H
                        have c19b0 : (x12_1.toList == ([] : List UInt8)) = true := beq_iff_eq.mpr c19
                        have c19b8 : x12_1.toList.isEmpty = true := List.isEmpty_iff.mpr c19
                        have c19b7 : (!x12_1.toList.isEmpty) = false := by rw [c19b8]; rfl
                        have c19b1 : (x12_1.toList != ([] : List UInt8)) = false := bne_eq_false_iff_eq.mpr c19
                        clear c19
                        simp only [Option.some.injEq, Prod.mk.injEq] at H
                        obtain ⟨rfl, rfl⟩ := H
                        go_wp2_with (first | ((with_reducible refine gate_callee (f := 12) rfl ?_); refine goesL_ (some 51) rfl rfl Tryd.func12 (by kernel_rfl) rfl #[.string x15_12, .int .i64 a1] rfl (by (try simp only [List.map_toArray, List.map_cons, List.map_nil]); first | done | rfl | (simp only [List.length_drop, List.length_take]; rfl)) ?_; (with_reducible refine (font_Size.calls kj12 x15_12 a1 t122 t123 t124 _ A17.out).mono ?_); rintro e w' ⟨rfl, ⟨nd, rfl⟩⟩; refine ⟨_, rfl, ?_⟩))
                        all_goals try (exfalso; have h9_ : (!x12_1.toList.isEmpty) = true := (by assumption); exact absurd (h9_.symm.trans c19b7) (by decide))
                        go_ret2
                        exact ⟨_, by first | rfl | (simp [errW_none, errW_some] <;> rfl) | (simp [*, errW_none, errW_some] <;> rfl), by first | exact Kd.R_nil _ _ _ _ _ | exact Kd.N_nil _ _ _ _ _ | exact Kd.V_nil _ _ _ _ _ | exact Kd.Q_nil _ _ _ _ _ | exact Kd.S_nil _ _ _ _ _, by repeat (first | (with_reducible first | exact HB.out | apply below_alloc | apply pw_below_drewN | apply below_drew1) | exact HB.out)⟩
                      · rw [if_neg c19] at H
                        have c19b0 : (x12_1.toList == ([] : List UInt8)) = false := beq_eq_false_iff_ne.mpr c19
                        have c19b8 : x12_1.toList.isEmpty = false := Bool.eq_false_iff.mpr (fun h_ => c19 (List.isEmpty_iff.mp h_))
                        have c19b7 : (!x12_1.toList.isEmpty) = true := by rw [c19b8]; rfl
                        have c19b1 : (x12_1.toList != ([] : List UInt8)) = true := bne_iff_ne.mpr c19
                        replace H := Option.bind_eq_some_iff.mp H
                        obtain ⟨⟨t125, t126, t127⟩, A200, H⟩ := H
                        replace H : (if t125 > a2 then (some (([] : List ByteArray), 17)) else (if x11_1.length < 8796093022208 then (font_Wrap.l0 kj12 a1 a2 (x11_1 ++ [x12_1]) (rdOf ByteArray.empty t115 x37_1) t115 (t115.length : Int) (wrap64 (x37_1 + 1))) else (none))) = some (r1, r2) := H
                        have A20 := Aside0.mk A200
                        clear A200
                        by_cases c21 : t125 > a2
                        · rw [if_pos c21] at H
                          have c21b0 : decide (a2 < t125) = true := decide_eq_true c21
                          clear c21
                          simp only [Option.some.injEq, Prod.mk.injEq] at H
                          obtain ⟨rfl, rfl⟩ := H
                          go_wp2_with (first | ((with_reducible refine gate_callee (f := 12) rfl ?_); refine goesL_ (some 51) rfl rfl Tryd.func12 (by kernel_rfl) rfl #[.string x15_12, .int .i64 a1] rfl (by (try simp only [List.map_toArray, List.map_cons, List.map_nil]); first | done | rfl | (simp only [List.length_drop, List.length_take]; rfl)) ?_; (with_reducible refine (font_Size.calls kj12 x15_12 a1 t122 t123 t124 _ A17.out).mono ?_); rintro e w' ⟨rfl, ⟨nd, rfl⟩⟩; refine ⟨_, rfl, ?_⟩) | ((with_reducible refine gate_callee (f := 12) rfl ?_); refine goesL_ (some 58) rfl rfl Tryd.func12 (by kernel_rfl) rfl #[.string (rdOf ByteArray.empty t115 x37_1), .int .i64 a1] rfl (by (try simp only [List.map_toArray, List.map_cons, List.map_nil]); first | done | rfl | (simp only [List.length_drop, List.length_take]; rfl)) ?_; (with_reducible refine (font_Size.calls kj12 (rdOf ByteArray.empty t115 x37_1) a1 t125 t126 t127 _ A20.out).mono ?_); rintro e w' ⟨rfl, ⟨nd, rfl⟩⟩; refine ⟨_, rfl, ?_⟩))
                          all_goals try (exfalso; have h9_ : (!x12_1.toList.isEmpty) = false := (by assumption); exact absurd (h9_.symm.trans c19b7) (by decide))
                          go_ret2
                          exact ⟨_, by first | rfl | (simp [errW_none, errW_some] <;> rfl) | (simp [*, errW_none, errW_some] <;> rfl), by first | exact Kd.R_nil _ _ _ _ _ | exact Kd.N_nil _ _ _ _ _ | exact Kd.V_nil _ _ _ _ _ | exact Kd.Q_nil _ _ _ _ _ | exact Kd.S_nil _ _ _ _ _, by repeat (first | (with_reducible first | exact HB.out | apply below_alloc | apply pw_below_drewN | apply below_drew1) | exact HB.out)⟩
                        · rw [if_neg c21] at H
                          have c21b0 : decide (a2 < t125) = false := decide_eq_false c21
                          clear c21
                          by_cases c22 : x11_1.length < 8796093022208
                          · rw [if_pos c22] at H
                            have LMc22 := Aside0.mk c22
                            clear c22
                            obtain ⟨y128, hy128⟩ : ∃ y_ : List ByteArray, y_ = (x11_1 ++ [x12_1]) := ⟨_, rfl⟩
                            replace H : (font_Wrap.l0 kj12 a1 a2 y128 (rdOf ByteArray.empty t115 x37_1) t115 (t115.length : Int) (wrap64 (x37_1 + 1))) = some (r1, r2) := by first | (rw [hy128]; with_reducible exact H) | (have H2_ := (Option.bind_some _ _).symm.trans H; rw [hy128]; with_reducible exact H2_) | (have H2_ := (Option.bind_some _ _).symm.trans H; with_reducible exact H2_) | with_reducible exact H | (rw [hy128]; exact H) | exact H
                            have Ny128 := Aside0.mk hy128
                            clear hy128
                            have H' := Aside0.mk H
                            clear H
                            go_wp2_with (first | ((with_reducible refine gate_callee (f := 12) rfl ?_); refine goesL_ (some 51) rfl rfl Tryd.func12 (by kernel_rfl) rfl #[.string x15_12, .int .i64 a1] rfl (by (try simp only [List.map_toArray, List.map_cons, List.map_nil]); first | done | rfl | (simp only [List.length_drop, List.length_take]; rfl)) ?_; (with_reducible refine (font_Size.calls kj12 x15_12 a1 t122 t123 t124 _ A17.out).mono ?_); rintro e w' ⟨rfl, ⟨nd, rfl⟩⟩; refine ⟨_, rfl, ?_⟩) | ((with_reducible refine gate_callee (f := 12) rfl ?_); refine goesL_ (some 58) rfl rfl Tryd.func12 (by kernel_rfl) rfl #[.string (rdOf ByteArray.empty t115 x37_1), .int .i64 a1] rfl (by (try simp only [List.map_toArray, List.map_cons, List.map_nil]); first | done | rfl | (simp only [List.length_drop, List.length_take]; rfl)) ?_; (with_reducible refine (font_Size.calls kj12 (rdOf ByteArray.empty t115 x37_1) a1 t125 t126 t127 _ A20.out).mono ?_); rintro e w' ⟨rfl, ⟨nd, rfl⟩⟩; refine ⟨_, rfl, ?_⟩) | ((with_reducible refine gate_builtin (b := .append) (xs := #[.tmp 65, .tmp 67]) rfl ?_); at_builtin; refine Kd.R_append Kd.string (w0 := w) w.heap.size rfl (.tmp 65) (.tmp 67) 22 9 (.string ⟨#[]⟩) 16 rfl Tryd.underlying22 info9 rfl (by decide) (by omega) u11 x11_1 x12_1 [.string x12_1] (fun k_ => some k_ ≠ (.slice (some ad121) t115.length co9 : Value).ownBlock) (fun _ => False) rfl rfl ?aP (fun _ hk => hk.elim) ?aF ?aO ?aB ?aS ?aL ?_; (case aP => exact rfl); (case aB => exact (by repeat (first | (with_reducible first | exact HB.out | apply below_alloc | apply pw_below_drewN | apply below_drew1) | exact HB.out))); (case aF => exact (fun k_ hk => Kd.fresh' (Kd.R_lt (by (with_reducible repeat (first | apply Kd.R_alloc | apply Kd.R_drewN | apply Kd.R_drew)); exact HO_35.out)) k_ hk)); (case aO => exact (by (with_reducible repeat (first | apply Kd.R_alloc | apply Kd.R_drewN | apply Kd.R_drew)); exact HO_11.out)); (case aS => exact (below_size (by repeat (first | (with_reducible first | exact HB.out | apply below_alloc | apply pw_below_drewN | apply below_drew1) | exact HB.out)))); (case aL => have := LMc22.out; omega); intro v129 w23 ho hb hg hat; rw [← Ny128.out] at ho; have n0_ := Aside0.mk (Kd.R_after (ok := (fun _ => True)) (by (with_reducible repeat (first | apply Kd.R_alloc | apply Kd.R_drewN | apply Kd.R_drew)); exact Kd.R_mono HO_35.out (fun _ hk => ⟨trivial, hk⟩)) hg hat); have n1_ := Aside0.mk (hb); have n2_ := Aside0.mk (ho); clear HO_35; clear HB; clear HO_11; have HO_35 := n0_; have HB := n1_; have HO130 := n2_; clear n0_ n1_ n2_; clear ho hb hg hat))
                            go_roundg kj12
                            case measure => have := HK1.out; have := HJ12.out; omega
                            case rel => exact ⟨(y128), ((rdOf ByteArray.empty t115 x37_1)), (wrap64 (x37_1 + 1)), (by first | rfl | (simp; done) | (simp [*]; done)), (by first | rfl | (simp; done) | (simp [*]; done)), H', ⟨by have := HK1.out; have := HJ12.out; omega⟩, ⟨by (with_reducible repeat (first | apply Kd.R_alloc | apply Kd.R_drewN | apply Kd.R_drew)); exact HO130.out⟩, ⟨by (with_reducible repeat (first | apply Kd.R_alloc | apply Kd.R_drewN | apply Kd.R_drew)); exact Kd.R_mono HO_35.out (fun _ hk => hk.2)⟩, ⟨by repeat (first | (with_reducible first | exact HB.out | apply below_alloc | apply pw_below_drewN | apply below_drew1) | exact HB.out)⟩⟩
                          · rw [if_neg c22] at H
                            exact absurd H (by simp)
              · rw [if_neg c12] at H
                exact absurd H (by simp)
            · rw [if_neg c11] at H
              exact absurd H (by simp)
          · rw [if_neg c10] at H
            have c10b0 : decide (x37_1 < (t115.length : Int)) = false := decide_eq_false c10
            clear c10
            by_cases c24 : x12_1.toList = ([] : List UInt8)
            · rw [if_pos c24] at H
              have c24b0 : (x12_1.toList == ([] : List UInt8)) = true := beq_iff_eq.mpr c24
              have c24b8 : x12_1.toList.isEmpty = true := List.isEmpty_iff.mpr c24
              have c24b7 : (!x12_1.toList.isEmpty) = false := by rw [c24b8]; rfl
              have c24b1 : (x12_1.toList != ([] : List UInt8)) = false := bne_eq_false_iff_eq.mpr c24
              clear c24
              simp only [Option.some.injEq, Prod.mk.injEq] at H
              obtain ⟨rfl, rfl⟩ := H
              go_wp2
              all_goals try (exfalso; have h9_ : (!x12_1.toList.isEmpty) = true := (by assumption); exact absurd (h9_.symm.trans c24b7) (by decide))
              go_ret2
              exact ⟨_, by first | rfl | (simp [errW_none, errW_some] <;> rfl) | (simp [*, errW_none, errW_some] <;> rfl), by (with_reducible repeat (first | apply Kd.R_alloc | apply Kd.R_drewN | apply Kd.R_drew)); exact Kd.R_mono HO_11.out (fun _ hk => trivial), by repeat (first | (with_reducible first | exact HB.out | apply below_alloc | apply pw_below_drewN | apply below_drew1) | exact HB.out)⟩
            · rw [if_neg c24] at H
              have c24b0 : (x12_1.toList == ([] : List UInt8)) = false := beq_eq_false_iff_ne.mpr c24
              have c24b8 : x12_1.toList.isEmpty = false := Bool.eq_false_iff.mpr (fun h_ => c24 (List.isEmpty_iff.mp h_))
              have c24b7 : (!x12_1.toList.isEmpty) = true := by rw [c24b8]; rfl
              have c24b1 : (x12_1.toList != ([] : List UInt8)) = true := bne_iff_ne.mpr c24
              by_cases c25 : x11_1.length < 8796093022208
              · rw [if_pos c25] at H
                have LMc25 := Aside0.mk c25
                clear c25
                obtain ⟨y118, hy118⟩ : ∃ y_ : List ByteArray, y_ = (x11_1 ++ [x12_1]) := ⟨_, rfl⟩
                replace H : (some (y118, 0)) = some (r1, r2) := by first | (rw [hy118]; with_reducible exact H) | (have H2_ := (Option.bind_some _ _).symm.trans H; rw [hy118]; with_reducible exact H2_) | (have H2_ := (Option.bind_some _ _).symm.trans H; with_reducible exact H2_) | with_reducible exact H | (rw [hy118]; exact H) | exact H
                have Ny118 := Aside0.mk hy118
                clear hy118
                simp only [Option.some.injEq, Prod.mk.injEq] at H
                obtain ⟨rfl, rfl⟩ := H
                go_wp2_with (first | ((with_reducible refine gate_builtin (b := .append) (xs := #[.tmp 81, .tmp 83]) rfl ?_); at_builtin; refine Kd.R_append Kd.string (w0 := w) w.heap.size rfl (.tmp 81) (.tmp 83) 22 9 (.string ⟨#[]⟩) 16 rfl Tryd.underlying22 info9 rfl (by decide) (by omega) u11 x11_1 x12_1 [.string x12_1] (fun k_ => some k_ ≠ (.slice Ao9 t115.length co9 : Value).ownBlock) (fun _ => False) rfl rfl ?aP (fun _ hk => hk.elim) ?aF ?aO ?aB ?aS ?aL ?_; (case aP => exact rfl); (case aB => exact (by repeat (first | (with_reducible first | exact HB.out | apply below_alloc | apply pw_below_drewN | apply below_drew1) | exact HB.out))); (case aF => exact (fun k_ hk => Kd.fresh' (Kd.R_lt (by (with_reducible repeat (first | apply Kd.R_alloc | apply Kd.R_drewN | apply Kd.R_drew)); exact HO_35.out)) k_ hk)); (case aO => exact (by (with_reducible repeat (first | apply Kd.R_alloc | apply Kd.R_drewN | apply Kd.R_drew)); exact HO_11.out)); (case aS => exact (below_size (by repeat (first | (with_reducible first | exact HB.out | apply below_alloc | apply pw_below_drewN | apply below_drew1) | exact HB.out)))); (case aL => have := LMc25.out; omega); intro v119 w26 ho hb hg hat; rw [← Ny118.out] at ho; have n0_ := Aside0.mk (Kd.R_after (ok := (fun _ => True)) (by (with_reducible repeat (first | apply Kd.R_alloc | apply Kd.R_drewN | apply Kd.R_drew)); exact Kd.R_mono HO_35.out (fun _ hk => ⟨trivial, hk⟩)) hg hat); have n1_ := Aside0.mk (hb); have n2_ := Aside0.mk (ho); clear HO_35; clear HB; clear HO_11; have HO_35 := n0_; have HB := n1_; have HO120 := n2_; clear n0_ n1_ n2_; clear ho hb hg hat))
                all_goals try (exfalso; have h9_ : (!x12_1.toList.isEmpty) = false := (by assumption); exact absurd (h9_.symm.trans c24b7) (by decide))
                go_ret2
                exact ⟨_, by first | rfl | (simp [errW_none, errW_some] <;> rfl) | (simp [*, errW_none, errW_some] <;> rfl), by (with_reducible repeat (first | apply Kd.R_alloc | apply Kd.R_drewN | apply Kd.R_drew)); exact Kd.R_mono HO120.out (fun _ hk => trivial), by repeat (first | (with_reducible first | exact HB.out | apply below_alloc | apply pw_below_drewN | apply below_drew1) | exact HB.out)⟩
              · rw [if_neg c25] at H
                exact absurd H (by simp)
  · rw [if_neg c5] at H
    have c5b0 : (t114 == 0) = false := beq_eq_false_iff_ne.mpr c5
    have c5b1 : (t114 != 0) = true := bne_iff_ne.mpr c5
    simp only [Option.some.injEq, Prod.mk.injEq] at H
    obtain ⟨rfl, rfl⟩ := H
    go_enter Tryd.func5, Tryd.ntmps5
    go_wp2_with (first | ((with_reducible refine gate_callee (f := 12) rfl ?_); refine goesL_ (some 25) rfl rfl Tryd.func12 (by kernel_rfl) rfl #[.string a0, .int .i64 a1] rfl (by (try simp only [List.map_toArray, List.map_cons, List.map_nil]); first | done | rfl | (simp only [List.length_drop, List.length_take]; rfl)) ?_; (with_reducible refine (font_Size.calls k a0 a1 t112 t113 t114 _ A4.out).mono ?_); rintro e w' ⟨rfl, ⟨nd, rfl⟩⟩; refine ⟨_, rfl, ?_⟩))
    go_ret2
    exact ⟨_, by first | rfl | (simp [errW_none, errW_some] <;> rfl) | (simp [*, errW_none, errW_some] <;> rfl), by first | exact Kd.R_nil _ _ _ _ _ | exact Kd.N_nil _ _ _ _ _ | exact Kd.V_nil _ _ _ _ _ | exact Kd.Q_nil _ _ _ _ _ | exact Kd.S_nil _ _ _ _ _, by repeat (first | (with_reducible first | exact HB.out | apply below_alloc | apply pw_below_drewN | apply below_drew1) | exact HB.out)⟩
end Go.Proofs.YtojehbkadlmbjaaDoor.Q
