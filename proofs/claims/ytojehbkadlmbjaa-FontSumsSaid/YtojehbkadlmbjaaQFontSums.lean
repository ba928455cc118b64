/- What the Go function terrkeep5_FontSums comes to, and its contract. Condition: its printed twin gives an answer, which is true. -/
import Derived.Test.YtojehbkadlmbjaaQf13
import Derived.Test.YtojehbkadlmbjaaQf12
import Derived.Test.YtojehbkadlmbjaaQf14
namespace Go.Proofs.Ytojehbkadlmbjaa.Q
open Go.RowKit Go.Proofs.YtojehbkadlmbjaaW.PrintWords Go.Proofs.YtojehbkadlmbjaaW.PrintLast Go.Proofs.YtojehbkadlmbjaaW.PrintMore
attribute [local go_sem] max2_int min2_int max_two min_two max_three min_three max_four min_four
set_option linter.unusedVariables false
set_option linter.unusedSimpArgs false
/-! ### terrkeep5_FontSums: function 3 -/
def terrkeep5_FontSums.f (k : Nat) (l0 : List Int) (a1 : Int) (a2 : Int) : Option (Bool) := (terrkeep5_text.f k l0).bind fun t110 => ((terrmake_Below.f a1 (wrap64 ((t110.size : Int) + 1))).bind fun t111 => ((terrmake_Below.f a2 7).bind fun t112 => ((font_Size.f k t110 (wrap64 (1 + t112))).bind fun bt113 => (if 0 ≤ t111 then (if t111 ≤ (t110.size : Int) then ((font_Size.f k (t110.extract 0 (t111 : Int).toNat) (wrap64 (1 + t112))).bind fun bt116 => ((font_Size.f k (t110.extract (t111 : Int).toNat t110.size) (wrap64 (1 + t112))).bind fun bt119 => ((font_Size.f k t110 (wrap64 ((wrap64 (1 + t112)) + 1))).bind fun bt122 => (if bt113.2.2 = 0 then (if bt116.2.2 = 0 then (if bt119.2.2 = 0 then (if bt122.2.2 = 0 then (if bt113.1 = (wrap64 (bt116.1 + bt119.1)) then (if (wrap64 (bt122.1 * (wrap64 (1 + t112)))) = (wrap64 (bt113.1 * (wrap64 ((wrap64 (1 + t112)) + 1)))) then (if bt122.2.1 = (wrap64 (bt113.2.1 + 6)) then (some (bt113.2.1 == (wrap64 (6 * (wrap64 (1 + t112)))))) else (some false)) else (some false)) else (some false)) else (some false)) else (some false)) else (some false)) else (some false))))) else (none)) else (none)))))
theorem terrkeep5_FontSums.mono : ∀ a0 a1 a2 k, LeO (terrkeep5_FontSums.f k a0 a1 a2) (terrkeep5_FontSums.f (k + 1) a0 a1 a2) := by
  intro a0 a1 a2 k
  unfold terrkeep5_FontSums.f
  repeat' first
      | (with_reducible exact font_Size.mono _ _ _)
      | (with_reducible exact terrkeep5_text.mono _ _)
      | (with_reducible exact LeO.refl _)
      | (with_reducible exact LeO.none _)
      | (with_reducible refine LeO.ite ?_ ?_)
      | (with_reducible refine LeO.bind ?_ (fun _ => ?_))
      | exact font_Size.mono _ _ _
      | exact terrkeep5_text.mono _ _
      | exact LeO.none _
      | refine LeO.ite ?_ ?_
      | refine LeO.bind ?_ (fun _ => ?_)
set_option maxHeartbeats 8000000 in
set_option maxRecDepth 100000 in
theorem terrkeep5_FontSums.calls (k : Nat) (A0 : Option Addr) (c0 : Nat) (l0 : List Int) (a1 : Int) (a2 : Int) (r : Bool) (w : World) (hr0 : Kd.C (Kd.int .i64) w A0 l0.length l0) (hc0 : l0.length ≤ c0) (h : terrkeep5_FontSums.f k l0 a1 a2 = some r) (hr : r = true) :
    Calls Try.prog 3 #[.slice A0 l0.length c0, .int .i64 a1, .int .i64 a2] w fun e w' => e = .returned (.bool r) ∧ Below w.heap.size w w' := by
  have HR0 := Aside0.mk hr0
  have HC0 := Aside0.mk hc0
  clear hr0 hc0
  have HB := Aside0.mk (Below.refl w.heap.size w)
  have H : ((terrkeep5_text.f k l0).bind fun t110 => ((terrmake_Below.f a1 (wrap64 ((t110.size : Int) + 1))).bind fun t111 => ((terrmake_Below.f a2 7).bind fun t112 => ((font_Size.f k t110 (wrap64 (1 + t112))).bind fun bt113 => (if 0 ≤ t111 then (if t111 ≤ (t110.size : Int) then ((font_Size.f k (t110.extract 0 (t111 : Int).toNat) (wrap64 (1 + t112))).bind fun bt116 => ((font_Size.f k (t110.extract (t111 : Int).toNat t110.size) (wrap64 (1 + t112))).bind fun bt119 => ((font_Size.f k t110 (wrap64 ((wrap64 (1 + t112)) + 1))).bind fun bt122 => (if bt113.2.2 = 0 then (if bt116.2.2 = 0 then (if bt119.2.2 = 0 then (if bt122.2.2 = 0 then (if bt113.1 = (wrap64 (bt116.1 + bt119.1)) then (if (wrap64 (bt122.1 * (wrap64 (1 + t112)))) = (wrap64 (bt113.1 * (wrap64 ((wrap64 (1 + t112)) + 1)))) then (if bt122.2.1 = (wrap64 (bt113.2.1 + 6)) then (some (bt113.2.1 == (wrap64 (6 * (wrap64 (1 + t112)))))) else (some false)) else (some false)) else (some false)) else (some false)) else (some false)) else (some false)) else (some false))))) else (none)) else (none)))))) = some r := h
  clear h
  replace H := Option.bind_eq_some_iff.mp H
  obtain ⟨t110, A40, H⟩ := H
  replace H : ((terrmake_Below.f a1 (wrap64 ((t110.size : Int) + 1))).bind fun t111 => ((terrmake_Below.f a2 7).bind fun t112 => ((font_Size.f k t110 (wrap64 (1 + t112))).bind fun bt113 => (if 0 ≤ t111 then (if t111 ≤ (t110.size : Int) then ((font_Size.f k (t110.extract 0 (t111 : Int).toNat) (wrap64 (1 + t112))).bind fun bt116 => ((font_Size.f k (t110.extract (t111 : Int).toNat t110.size) (wrap64 (1 + t112))).bind fun bt119 => ((font_Size.f k t110 (wrap64 ((wrap64 (1 + t112)) + 1))).bind fun bt122 => (if bt113.2.2 = 0 then (if bt116.2.2 = 0 then (if bt119.2.2 = 0 then (if bt122.2.2 = 0 then (if bt113.1 = (wrap64 (bt116.1 + bt119.1)) then (if (wrap64 (bt122.1 * (wrap64 (1 + t112)))) = (wrap64 (bt113.1 * (wrap64 ((wrap64 (1 + t112)) + 1)))) then (if bt122.2.1 = (wrap64 (bt113.2.1 + 6)) then (some (bt113.2.1 == (wrap64 (6 * (wrap64 (1 + t112)))))) else (some false)) else (some false)) else (some false)) else (some false)) else (some false)) else (some false)) else (some false))))) else (none)) else (none))))) = some r := H
  have A4 := Aside0.mk A40
  clear A40
  replace H := Option.bind_eq_some_iff.mp H
  obtain ⟨t111, A50, H⟩ := H
  replace H : ((terrmake_Below.f a2 7).bind fun t112 => ((font_Size.f k t110 (wrap64 (1 + t112))).bind fun bt113 => (if 0 ≤ t111 then (if t111 ≤ (t110.size : Int) then ((font_Size.f k (t110.extract 0 (t111 : Int).toNat) (wrap64 (1 + t112))).bind fun bt116 => ((font_Size.f k (t110.extract (t111 : Int).toNat t110.size) (wrap64 (1 + t112))).bind fun bt119 => ((font_Size.f k t110 (wrap64 ((wrap64 (1 + t112)) + 1))).bind fun bt122 => (if bt113.2.2 = 0 then (if bt116.2.2 = 0 then (if bt119.2.2 = 0 then (if bt122.2.2 = 0 then (if bt113.1 = (wrap64 (bt116.1 + bt119.1)) then (if (wrap64 (bt122.1 * (wrap64 (1 + t112)))) = (wrap64 (bt113.1 * (wrap64 ((wrap64 (1 + t112)) + 1)))) then (if bt122.2.1 = (wrap64 (bt113.2.1 + 6)) then (some (bt113.2.1 == (wrap64 (6 * (wrap64 (1 + t112)))))) else (some false)) else (some false)) else (some false)) else (some false)) else (some false)) else (some false)) else (some false))))) else (none)) else (none)))) = some r := H
  have A5 := Aside0.mk A50
  clear A50
  replace H := Option.bind_eq_some_iff.mp H
  obtain ⟨t112, A60, H⟩ := H
  replace H : ((font_Size.f k t110 (wrap64 (1 + t112))).bind fun bt113 => (if 0 ≤ t111 then (if t111 ≤ (t110.size : Int) then ((font_Size.f k (t110.extract 0 (t111 : Int).toNat) (wrap64 (1 + t112))).bind fun bt116 => ((font_Size.f k (t110.extract (t111 : Int).toNat t110.size) (wrap64 (1 + t112))).bind fun bt119 => ((font_Size.f k t110 (wrap64 ((wrap64 (1 + t112)) + 1))).bind fun bt122 => (if bt113.2.2 = 0 then (if bt116.2.2 = 0 then (if bt119.2.2 = 0 then (if bt122.2.2 = 0 then (if bt113.1 = (wrap64 (bt116.1 + bt119.1)) then (if (wrap64 (bt122.1 * (wrap64 (1 + t112)))) = (wrap64 (bt113.1 * (wrap64 ((wrap64 (1 + t112)) + 1)))) then (if bt122.2.1 = (wrap64 (bt113.2.1 + 6)) then (some (bt113.2.1 == (wrap64 (6 * (wrap64 (1 + t112)))))) else (some false)) else (some false)) else (some false)) else (some false)) else (some false)) else (some false)) else (some false))))) else (none)) else (none))) = some r := H
  have A6 := Aside0.mk A60
  clear A60
  replace H := Option.bind_eq_some_iff.mp H
  obtain ⟨⟨t113, t114, t115⟩, A70, H⟩ := H
  replace H : (if 0 ≤ t111 then (if t111 ≤ (t110.size : Int) then ((font_Size.f k (t110.extract 0 (t111 : Int).toNat) (wrap64 (1 + t112))).bind fun bt116 => ((font_Size.f k (t110.extract (t111 : Int).toNat t110.size) (wrap64 (1 + t112))).bind fun bt119 => ((font_Size.f k t110 (wrap64 ((wrap64 (1 + t112)) + 1))).bind fun bt122 => (if t115 = 0 then (if bt116.2.2 = 0 then (if bt119.2.2 = 0 then (if bt122.2.2 = 0 then (if t113 = (wrap64 (bt116.1 + bt119.1)) then (if (wrap64 (bt122.1 * (wrap64 (1 + t112)))) = (wrap64 (t113 * (wrap64 ((wrap64 (1 + t112)) + 1)))) then (if bt122.2.1 = (wrap64 (t114 + 6)) then (some (t114 == (wrap64 (6 * (wrap64 (1 + t112)))))) else (some false)) else (some false)) else (some false)) else (some false)) else (some false)) else (some false)) else (some false))))) else (none)) else (none)) = some r := H
  have A7 := Aside0.mk A70
  clear A70
  by_cases c8 : 0 ≤ t111
  · rw [if_pos c8] at H
    have c8b0 := eq_true c8
    have c8b1 : decide (0 ≤ t111) = true := decide_eq_true c8
    clear c8
    by_cases c9 : t111 ≤ (t110.size : Int)
    · rw [if_pos c9] at H
      have c9b0 := eq_true c9
      have c9b1 : decide (t111 ≤ (t110.size : Int)) = true := decide_eq_true c9
      clear c9
      replace H := Option.bind_eq_some_iff.mp H
      obtain ⟨⟨t116, t117, t118⟩, A100, H⟩ := H
      replace H : ((font_Size.f k (t110.extract (t111 : Int).toNat t110.size) (wrap64 (1 + t112))).bind fun bt119 => ((font_Size.f k t110 (wrap64 ((wrap64 (1 + t112)) + 1))).bind fun bt122 => (if t115 = 0 then (if t118 = 0 then (if bt119.2.2 = 0 then (if bt122.2.2 = 0 then (if t113 = (wrap64 (t116 + bt119.1)) then (if (wrap64 (bt122.1 * (wrap64 (1 + t112)))) = (wrap64 (t113 * (wrap64 ((wrap64 (1 + t112)) + 1)))) then (if bt122.2.1 = (wrap64 (t114 + 6)) then (some (t114 == (wrap64 (6 * (wrap64 (1 + t112)))))) else (some false)) else (some false)) else (some false)) else (some false)) else (some false)) else (some false)) else (some false)))) = some r := H
      have A10 := Aside0.mk A100
      clear A100
      have c11b0 := eq_true (of_decide_eq_true (by first | (with_reducible assumption) | assumption) : 0 ≤ t111)
      have c12b0 := eq_true (of_decide_eq_true (by first | (with_reducible assumption) | assumption) : t111 ≤ (t110.size : Int))
      replace H := Option.bind_eq_some_iff.mp H
      obtain ⟨⟨t119, t120, t121⟩, A130, H⟩ := H
      replace H : ((font_Size.f k t110 (wrap64 ((wrap64 (1 + t112)) + 1))).bind fun bt122 => (if t115 = 0 then (if t118 = 0 then (if t121 = 0 then (if bt122.2.2 = 0 then (if t113 = (wrap64 (t116 + t119)) then (if (wrap64 (bt122.1 * (wrap64 (1 + t112)))) = (wrap64 (t113 * (wrap64 ((wrap64 (1 + t112)) + 1)))) then (if bt122.2.1 = (wrap64 (t114 + 6)) then (some (t114 == (wrap64 (6 * (wrap64 (1 + t112)))))) else (some false)) else (some false)) else (some false)) else (some false)) else (some false)) else (some false)) else (some false))) = some r := H
      have A13 := Aside0.mk A130
      clear A130
      replace H := Option.bind_eq_some_iff.mp H
      obtain ⟨⟨t122, t123, t124⟩, A140, H⟩ := H
      replace H : (if t115 = 0 then (if t118 = 0 then (if t121 = 0 then (if t124 = 0 then (if t113 = (wrap64 (t116 + t119)) then (if (wrap64 (t122 * (wrap64 (1 + t112)))) = (wrap64 (t113 * (wrap64 ((wrap64 (1 + t112)) + 1)))) then (if t123 = (wrap64 (t114 + 6)) then (some (t114 == (wrap64 (6 * (wrap64 (1 + t112)))))) else (some false)) else (some false)) else (some false)) else (some false)) else (some false)) else (some false)) else (some false)) = some r := H
      have A14 := Aside0.mk A140
      clear A140
      by_cases c15 : t115 = 0
      · rw [if_pos c15] at H
        have c15b0 : (t115 == 0) = true := beq_iff_eq.mpr c15
        have c15b1 : (t115 != 0) = false := bne_eq_false_iff_eq.mpr c15
        clear c15
        by_cases c16 : t118 = 0
        · rw [if_pos c16] at H
          have c16b0 : (t118 == 0) = true := beq_iff_eq.mpr c16
          have c16b1 : (t118 != 0) = false := bne_eq_false_iff_eq.mpr c16
          clear c16
          by_cases c17 : t121 = 0
          · rw [if_pos c17] at H
            have c17b0 : (t121 == 0) = true := beq_iff_eq.mpr c17
            have c17b1 : (t121 != 0) = false := bne_eq_false_iff_eq.mpr c17
            clear c17
            by_cases c18 : t124 = 0
            · rw [if_pos c18] at H
              have c18b0 : (t124 == 0) = true := beq_iff_eq.mpr c18
              have c18b1 : (t124 != 0) = false := bne_eq_false_iff_eq.mpr c18
              clear c18
              by_cases c19 : t113 = (wrap64 (t116 + t119))
              · rw [if_pos c19] at H
                have c19b0 : (t113 == (wrap64 (t116 + t119))) = true := beq_iff_eq.mpr c19
                have c19b1 : (t113 != (wrap64 (t116 + t119))) = false := bne_eq_false_iff_eq.mpr c19
                clear c19
                by_cases c20 : (wrap64 (t122 * (wrap64 (1 + t112)))) = (wrap64 (t113 * (wrap64 ((wrap64 (1 + t112)) + 1))))
                · rw [if_pos c20] at H
                  have c20b0 : ((wrap64 (t122 * (wrap64 (1 + t112)))) == (wrap64 (t113 * (wrap64 ((wrap64 (1 + t112)) + 1))))) = true := beq_iff_eq.mpr c20
                  have c20b1 : ((wrap64 (t122 * (wrap64 (1 + t112)))) != (wrap64 (t113 * (wrap64 ((wrap64 (1 + t112)) + 1))))) = false := bne_eq_false_iff_eq.mpr c20
                  clear c20
                  by_cases c21 : t123 = (wrap64 (t114 + 6))
                  · rw [if_pos c21] at H
                    have c21b0 : (t123 == (wrap64 (t114 + 6))) = true := beq_iff_eq.mpr c21
                    have c21b1 : (t123 != (wrap64 (t114 + 6))) = false := bne_eq_false_iff_eq.mpr c21
                    clear c21
                    clear hr
                    obtain rfl := Option.some.inj H
                    go_enter Try.func3, Try.ntmps3
                    go_wp2_with (first | ((with_reducible refine gate_callee (f := 12) rfl ?_); refine goesL_ (some 22) rfl rfl Try.func12 (by kernel_rfl) rfl #[.slice A0 l0.length c0] rfl (by (try simp only [List.map_toArray, List.map_cons, List.map_nil]); first | done | rfl | (simp only [List.length_drop, List.length_take]; rfl)) ?_; (with_reducible refine (terrkeep5_text.calls k _ _ l0 t110 _ ?side1 ?side2 A4.out).mono ?_); (case side1 => repeat (first | exact HR0.out | (with_reducible refine Kd.C_alloc ?_ _) | (with_reducible refine Kd.C_drewN ?_ _) | (with_reducible refine Kd.C_drew ?_))); (case side2 => exact HC0.out); rintro e w22 ⟨rfl, hb⟩; refine ⟨_, rfl, ?_⟩; have n0_ := Aside0.mk (below_step (by repeat (first | (with_reducible first | exact HB.out | apply below_alloc | apply pw_below_drewN | apply below_drew1) | exact HB.out)) hb); clear HB; have HB := n0_; clear n0_; (try clear hb); (try clear hb2); (try clear hk); (try clear hi)) | ((with_reducible refine gate_callee (f := 13) rfl ?_); refine goesL_ (some 27) rfl rfl Try.func13 (by kernel_rfl) rfl #[.int .i64 a1, .int .i64 (wrap64 ((t110.size : Int) + 1))] rfl (by (try simp only [List.map_toArray, List.map_cons, List.map_nil]); first | done | rfl | (simp only [List.length_drop, List.length_take]; rfl)) ?_; (with_reducible refine (terrmake_Below.calls a1 (wrap64 ((t110.size : Int) + 1)) t111 _ A5.out).mono ?_); rintro e w' ⟨rfl, ⟨nd, rfl⟩⟩; refine ⟨_, rfl, ?_⟩) | ((with_reducible refine gate_callee (f := 13) rfl ?_); refine goesL_ (some 29) rfl rfl Try.func13 (by kernel_rfl) rfl #[.int .i64 a2, .int .i64 7] rfl (by (try simp only [List.map_toArray, List.map_cons, List.map_nil]); first | done | rfl | (simp only [List.length_drop, List.length_take]; rfl)) ?_; (with_reducible refine (terrmake_Below.calls a2 7 t112 _ A6.out).mono ?_); rintro e w' ⟨rfl, ⟨nd, rfl⟩⟩; refine ⟨_, rfl, ?_⟩) | ((with_reducible refine gate_callee (f := 14) rfl ?_); refine goesL_ (some 34) rfl rfl Try.func14 (by kernel_rfl) rfl #[.string t110, .int .i64 (wrap64 (1 + t112))] rfl (by (try simp only [List.map_toArray, List.map_cons, List.map_nil]); first | done | rfl | (simp only [List.length_drop, List.length_take]; rfl)) ?_; (with_reducible refine (font_Size.calls k t110 (wrap64 (1 + t112)) t113 t114 t115 _ A7.out).mono ?_); rintro e w' ⟨rfl, ⟨nd, rfl⟩⟩; refine ⟨_, rfl, ?_⟩) | ((with_reducible refine gate_callee (f := 14) rfl ?_); refine goesL_ (some 43) rfl rfl Try.func14 (by kernel_rfl) rfl #[.string (t110.extract 0 (t111 : Int).toNat), .int .i64 (wrap64 (1 + t112))] rfl (by (try simp only [List.map_toArray, List.map_cons, List.map_nil]); first | done | rfl | (simp only [List.length_drop, List.length_take]; rfl)) ?_; (with_reducible refine (font_Size.calls k (t110.extract 0 (t111 : Int).toNat) (wrap64 (1 + t112)) t116 t117 t118 _ A10.out).mono ?_); rintro e w' ⟨rfl, ⟨nd, rfl⟩⟩; refine ⟨_, rfl, ?_⟩) | ((with_reducible refine gate_callee (f := 14) rfl ?_); refine goesL_ (some 52) rfl rfl Try.func14 (by kernel_rfl) rfl #[.string (t110.extract (t111 : Int).toNat t110.size), .int .i64 (wrap64 (1 + t112))] rfl (by (try simp only [List.map_toArray, List.map_cons, List.map_nil]); first | done | rfl | (simp only [List.length_drop, List.length_take]; rfl)) ?_; (with_reducible refine (font_Size.calls k (t110.extract (t111 : Int).toNat t110.size) (wrap64 (1 + t112)) t119 t120 t121 _ A13.out).mono ?_); rintro e w' ⟨rfl, ⟨nd, rfl⟩⟩; refine ⟨_, rfl, ?_⟩) | ((with_reducible refine gate_callee (f := 14) rfl ?_); refine goesL_ (some 60) rfl rfl Try.func14 (by kernel_rfl) rfl #[.string t110, .int .i64 (wrap64 ((wrap64 (1 + t112)) + 1))] rfl (by (try simp only [List.map_toArray, List.map_cons, List.map_nil]); first | done | rfl | (simp only [List.length_drop, List.length_take]; rfl)) ?_; (with_reducible refine (font_Size.calls k t110 (wrap64 ((wrap64 (1 + t112)) + 1)) t122 t123 t124 _ A14.out).mono ?_); rintro e w' ⟨rfl, ⟨nd, rfl⟩⟩; refine ⟨_, rfl, ?_⟩))
                    go_ret
                    exact ⟨by first | rfl | (simp [errW_none, errW_some] <;> rfl) | (simp [*, errW_none, errW_some] <;> rfl), by repeat (first | (with_reducible first | exact HB.out | apply below_alloc | apply pw_below_drewN | apply below_drew1) | exact HB.out)⟩
                  · rw [if_neg c21] at H
                    have c21b0 : (t123 == (wrap64 (t114 + 6))) = false := beq_eq_false_iff_ne.mpr c21
                    have c21b1 : (t123 != (wrap64 (t114 + 6))) = true := bne_iff_ne.mpr c21
                    exact absurd (H.trans (congrArg some hr)) (by decide)
                · rw [if_neg c20] at H
                  have c20b0 : ((wrap64 (t122 * (wrap64 (1 + t112)))) == (wrap64 (t113 * (wrap64 ((wrap64 (1 + t112)) + 1))))) = false := beq_eq_false_iff_ne.mpr c20
                  have c20b1 : ((wrap64 (t122 * (wrap64 (1 + t112)))) != (wrap64 (t113 * (wrap64 ((wrap64 (1 + t112)) + 1))))) = true := bne_iff_ne.mpr c20
                  exact absurd (H.trans (congrArg some hr)) (by decide)
              · rw [if_neg c19] at H
                have c19b0 : (t113 == (wrap64 (t116 + t119))) = false := beq_eq_false_iff_ne.mpr c19
                have c19b1 : (t113 != (wrap64 (t116 + t119))) = true := bne_iff_ne.mpr c19
                exact absurd (H.trans (congrArg some hr)) (by decide)
            · rw [if_neg c18] at H
              have c18b0 : (t124 == 0) = false := beq_eq_false_iff_ne.mpr c18
              have c18b1 : (t124 != 0) = true := bne_iff_ne.mpr c18
              exact absurd (H.trans (congrArg some hr)) (by decide)
          · rw [if_neg c17] at H
            have c17b0 : (t121 == 0) = false := beq_eq_false_iff_ne.mpr c17
            have c17b1 : (t121 != 0) = true := bne_iff_ne.mpr c17
            exact absurd (H.trans (congrArg some hr)) (by decide)
        · rw [if_neg c16] at H
          have c16b0 : (t118 == 0) = false := beq_eq_false_iff_ne.mpr c16
          have c16b1 : (t118 != 0) = true := bne_iff_ne.mpr c16
          exact absurd (H.trans (congrArg some hr)) (by decide)
      · rw [if_neg c15] at H
        have c15b0 : (t115 == 0) = false := beq_eq_false_iff_ne.mpr c15
        have c15b1 : (t115 != 0) = true := bne_iff_ne.mpr c15
        exact absurd (H.trans (congrArg some hr)) (by decide)
    · rw [if_neg c9] at H
      exact absurd H (by simp)
  · rw [if_neg c8] at H
    exact absurd H (by simp)

/-- THE ONE PURE STATEMENT of terrkeep5_FontSums: yours. -/
def terrkeep5_FontSums.Pure : Prop := ∀ (l0 : List Int) (a1 : Int) (a2 : Int), l0.length ≤ maxLen → l0.length * 8 ≤ 140737488351232 → (∀ x ∈ l0, (Lit.int .i64 x).wf = true) → (Lit.int .i64 a1).wf = true → (Lit.int .i64 a2).wf = true → ∃ k, terrkeep5_FontSums.f k l0 a1 a2 = some true
theorem terrkeep5_FontSums.walk (P : terrkeep5_FontSums.Pure) (a0 : Option Addr) (len0 cap0 : Nat) (z0 : List Int) (a1 : Int) (a2 : Int) (w : World) (w0 : (a0 = none ∧ len0 = 0 ∧ cap0 = 0 ∧ z0 = []) ∨ ∃ x, a0 = some x ∧ len0 ≤ cap0 ∧ cap0 ≤ maxLen ∧ z0.length = cap0 ∧ (∀ i, i < z0.length → w.cell? (x.add i) = some (.int .i64 (z0.getD i 0))) ∧ ∀ n ∈ z0, (Lit.int .i64 n).wf = true) (y0 : len0 * 8 ≤ 140737488351232) (w1 : (Lit.int .i64 a1).wf = true) (w2 : (Lit.int .i64 a2).wf = true) :
    Calls Try.prog 3 #[.slice a0 len0 cap0, .int .i64 a1, .int .i64 a2] w fun e w' => e = .returned (.bool true) ∧ Below w.heap.size w w' := by
  obtain ⟨l0, rfl, hr0, hm0, hw0, hc0⟩ := ReadsInt.ofRowC w0
  obtain ⟨k, h⟩ := P l0 a1 a2 hm0 y0 hw0 w1 w2
  refine (terrkeep5_FontSums.calls k _ _ l0 a1 a2 true w (Kd.C_of_reads (d := (0 : Int)) (h1 := fun _ => rfl) hr0) hc0 h rfl).mono ?_
  rintro e w' ⟨rfl, hd⟩
  exact ⟨rfl, hd⟩
end Go.Proofs.Ytojehbkadlmbjaa.Q
