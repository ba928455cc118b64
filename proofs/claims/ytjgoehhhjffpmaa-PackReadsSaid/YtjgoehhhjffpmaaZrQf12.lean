/- What the Go function terrref5_ListsOf comes to, and its contract. Condition: its printed twin gives an answer. -/
import Derived.Test.YtjgoehhhjffpmaaZrQf19
namespace Go.Proofs.Ytjgoehhhjffpmaa.Q
open Go.RowKit Go.Proofs.YtjgoehhhjffpmaaW.PrintWords Go.Proofs.YtjgoehhhjffpmaaW.PrintLast Go.Proofs.YtjgoehhhjffpmaaW.PrintMore
attribute [local go_sem] max2_int min2_int max_two min_two max_three min_three max_four min_four
set_option linter.unusedVariables false
set_option linter.unusedSimpArgs false
attribute [local go_sem high] eqA44
/-- A cut of a row, told in every world. -/
def Cut (A0 : Option Addr) (l0 : List Int) (v : Value) (xs : List Int) : Prop := ∃ A c, v = .slice A xs.length c ∧ xs.length ≤ c ∧ ∀ W, Kd.C (Kd.int .u8) W A0 l0.length l0 → Kd.C (Kd.int .u8) W A xs.length xs
theorem Cut_nil (A0 : Option Addr) (l0 : List Int) : Cut A0 l0 (.slice none 0 0) [] := ⟨none, 0, rfl, Nat.le_refl _, fun _ _ => Kd.C_nil _ _⟩
theorem Cut_reads {A0 : Option Addr} {l0 : List Int} {A : Option Addr} {n c : Nat} {xs : List Int} (h : Cut A0 l0 (.slice A n c) xs) : n = xs.length ∧ n ≤ c ∧ ∀ W, Kd.C (Kd.int .u8) W A0 l0.length l0 → Kd.C (Kd.int .u8) W A n xs := by
  obtain ⟨A', c', e, h1, h2⟩ := h
  injection e with e1 e2 e3
  subst e1 e2 e3
  exact ⟨rfl, h1, h2⟩
/-! ### terrref5_ListsOf: function 12 -/
mutual
def terrref5_ListsOf.j0 : Nat → List Int → Int → Bool → Option ((List (List (S44))) × List Int × Int)
  | 0, _, _, _ => none
  | k + 1, x0, x5, x29 => if x29 = true then (some (([] : List (List (S44))), ([] : List Int), 2)) else (terrref5_ListsOf.l0 k x0 x5 ([] : List (List (S44))) 0 0 0)
def terrref5_ListsOf.l0 : Nat → List Int → Int → List (List (S44)) → Int → Int → Int → Option ((List (List (S44))) × List Int × Int)
  | 0, _, _, _, _, _, _ => none
  | k + 1, x0, x5, x7, x8, x9, x10 => if x5 > 0 then ((terrref5_Number.f k x0).bind fun bt142 => (if bt142.2.2 = 0 then (if bt142.1 < 0 then (terrref5_ListsOf.j2 k bt142.2.1 x5 x7 x8 x9 (wrap64 (x10 + (mx bt142.1 0))) bt142.1 true) else (if (wrap64 (x10 + (mx bt142.1 0))) > 20000 then (terrref5_ListsOf.j2 k bt142.2.1 x5 x7 x8 x9 (wrap64 (x10 + (mx bt142.1 0))) bt142.1 true) else (terrref5_ListsOf.j2 k bt142.2.1 x5 x7 x8 x9 (wrap64 (x10 + (mx bt142.1 0))) bt142.1 (decide (bt142.1 > 20000))))) else (some (([] : List (List (S44))), ([] : List Int), bt142.2.2)))) else (some (x7, x0, 0))
def terrref5_ListsOf.j2 : Nat → List Int → Int → List (List (S44)) → Int → Int → Int → Int → Bool → Option ((List (List (S44))) × List Int × Int)
  | 0, _, _, _, _, _, _, _, _ => none
  | k + 1, x0, x5, x7, x8, x9, x10, x11, x56 => if x56 = true then (some (([] : List (List (S44))), ([] : List Int), 2)) else (terrref5_ListsOf.l1 k x0 x5 x7 x8 x9 x10 x11 ([] : List (S44)))
def terrref5_ListsOf.l1 : Nat → List Int → Int → List (List (S44)) → Int → Int → Int → Int → List (S44) → Option ((List (List (S44))) × List Int × Int)
  | 0, _, _, _, _, _, _, _, _ => none
  | k + 1, x0, x5, x7, x8, x9, x10, x11, x12 => if x11 > 0 then ((terrref5_Number.f k x0).bind fun bt150 => (if bt150.2.2 = 0 then ((terrref5_Number.f k bt150.2.1).bind fun bt155 => (if bt155.2.2 = 0 then (if x12.length < 8796093022208 then (terrref5_ListsOf.l1 k bt155.2.1 x5 x7 (wrap64 (x8 + bt150.1)) (wrap64 (x9 + bt155.1)) x10 (wrap64 (x11 - 1)) (x12 ++ [(⟨wrap64 (x8 + bt150.1), wrap64 (x9 + bt155.1)⟩ : S44)])) else (none)) else (some (([] : List (List (S44))), ([] : List Int), bt155.2.2)))) else (some (([] : List (List (S44))), ([] : List Int), bt150.2.2)))) else (if x7.length < 5864062014805 then (terrref5_ListsOf.l0 k x0 (wrap64 (x5 - 1)) (x7 ++ [x12]) x8 x9 x10) else (none))
end
def terrref5_ListsOf.f (k : Nat) (l0 : List Int) : Option ((List (List (S44))) × List Int × Int) := (terrref5_Number.f k l0).bind fun bt137 => (if bt137.2.2 = 0 then (if bt137.1 < 0 then (terrref5_ListsOf.j0 k bt137.2.1 bt137.1 true) else (terrref5_ListsOf.j0 k bt137.2.1 bt137.1 (decide (bt137.1 > 1000)))) else (some (([] : List (List (S44))), ([] : List Int), bt137.2.2)))
set_option maxHeartbeats 8000000 in
set_option maxRecDepth 100000 in
theorem terrref5_ListsOf.calls (k : Nat) (A0 : Option Addr) (c0 : Nat) (l0 : List Int) (r1 : List (List (S44))) (r2 : List Int) (r3 : Int) (w : World) (hr0 : Kd.C (Kd.int .u8) w A0 l0.length l0) (hc0 : l0.length ≤ c0) (h : terrref5_ListsOf.f k l0 = some (r1, r2, r3)) :
    Calls Try.prog 12 #[.slice A0 l0.length c0] w fun e w' => ∃ v0_ v1_ : Value, e = .returned (.tuple #[v0_, v1_, .int .i64 r3]) ∧ Kd.S (Kd.slice 44 k44) 35 w' w.heap.size (fun _ => True) v0_ r1 ∧ Cut A0 l0 v1_ r2 ∧ Below w.heap.size w w' := by
  have hu44 := Try.underlying44
  have HR0 := Aside0.mk hr0
  have HC0 := Aside0.mk hc0
  clear hr0 hc0
  have HB := Aside0.mk (Below.refl w.heap.size w)
  have H : ((terrref5_Number.f k l0).bind fun bt137 => (if bt137.2.2 = 0 then (if bt137.1 < 0 then (terrref5_ListsOf.j0 k bt137.2.1 bt137.1 true) else (terrref5_ListsOf.j0 k bt137.2.1 bt137.1 (decide (bt137.1 > 1000)))) else (some (([] : List (List (S44))), ([] : List Int), bt137.2.2)))) = some (r1, r2, r3) := h
  clear h
  replace H := Option.bind_eq_some_iff.mp H
  obtain ⟨⟨t137, t138, t139⟩, A20, H⟩ := H
  replace H : (if t139 = 0 then (if t137 < 0 then (terrref5_ListsOf.j0 k t138 t137 true) else (terrref5_ListsOf.j0 k t138 t137 (decide (t137 > 1000)))) else (some (([] : List (List (S44))), ([] : List Int), t139))) = some (r1, r2, r3) := H
  have A2 := Aside0.mk A20
  clear A20
  by_cases c3 : t139 = 0
  rotate_left
  · rw [if_neg c3] at H
    have c3b0 : (t139 == 0) = false := beq_eq_false_iff_ne.mpr c3
    have c3b1 : (t139 != 0) = true := bne_iff_ne.mpr c3
    simp only [Option.some.injEq, Prod.mk.injEq] at H
    obtain ⟨rfl, rfl, rfl⟩ := H
    go_enter Try.func12, Try.ntmps12
    go_wp2_with (first | ((with_reducible refine gate_callee (f := 19) rfl ?_); refine goesL_ (some 17) rfl rfl Try.func19 (by kernel_rfl) rfl #[.slice A0 l0.length c0] rfl (by (try simp only [List.map_toArray, List.map_cons, List.map_nil]); first | done | rfl | (simp only [List.length_drop, List.length_take]; rfl)) ?_; (with_reducible refine (terrref5_Number.calls k _ _ l0 t137 t138 t139 _ ?side1 ?side2 A2.out).mono ?_); (case side1 => repeat (first | exact (Kd.C_below HR0.out HB.out) | (with_reducible refine Kd.C_alloc ?_ _) | (with_reducible refine Kd.C_drewN ?_ _) | (with_reducible refine Kd.C_drew ?_))); (case side2 => exact HC0.out); rintro e w40 ⟨A140, c140, rfl, hc0_, ho0, hb⟩; refine ⟨_, rfl, ?_⟩; have HO141 := Aside0.mk (show Cut A0 l0 (.slice A140 t138.length c140) t138 from ⟨_, _, rfl, hc0_, ho0⟩); replace HB := Aside0.mk (below_step (by repeat (first | (with_reducible first | exact HB.out | apply below_alloc | apply pw_below_drewN | apply below_drew1) | exact HB.out)) hb); (try clear hb); (try clear hb2); (try clear hk); (try clear hi); (try clear ho0)))
    go_ret3
    exact ⟨_, _, by first | rfl | (simp [errW_none, errW_some] <;> rfl) | (simp [*, errW_none, errW_some] <;> rfl), by first | exact Kd.S_nil _ _ _ _ _ | exact Kd.N_nil _ _ _ _ _ | exact Kd.V_nil _ _ _ _ _ | exact Kd.Q_nil _ _ _ _ _ | exact Kd.R_nil _ _ _ _ _, Cut_nil A0 l0, by repeat (first | (with_reducible first | exact HB.out | apply below_alloc | apply pw_below_drewN | apply below_drew1) | exact HB.out)⟩
  rw [if_pos c3] at H
  have c3b0 : (t139 == 0) = true := beq_iff_eq.mpr c3
  have c3b1 : (t139 != 0) = false := bne_eq_false_iff_eq.mpr c3
  clear c3
  have HC4 := Aside0.mk H
  clear H
  go_enter Try.func12, Try.ntmps12
  go_upto_region 4 with (first | ((with_reducible refine gate_callee (f := 19) rfl ?_); refine goesL_ (some 17) rfl rfl Try.func19 (by kernel_rfl) rfl #[.slice A0 l0.length c0] rfl (by (try simp only [List.map_toArray, List.map_cons, List.map_nil]); first | done | rfl | (simp only [List.length_drop, List.length_take]; rfl)) ?_; (with_reducible refine (terrref5_Number.calls k _ _ l0 t137 t138 t139 _ ?side1 ?side2 A2.out).mono ?_); (case side1 => repeat (first | exact (Kd.C_below HR0.out HB.out) | (with_reducible refine Kd.C_alloc ?_ _) | (with_reducible refine Kd.C_drewN ?_ _) | (with_reducible refine Kd.C_drew ?_))); (case side2 => exact HC0.out); rintro e w5 ⟨A140, c140, rfl, hc0_, ho0, hb⟩; refine ⟨_, rfl, ?_⟩; have HO141 := Aside0.mk (show Cut A0 l0 (.slice A140 t138.length c140) t138 from ⟨_, _, rfl, hc0_, ho0⟩); replace HB := Aside0.mk (below_step (by repeat (first | (with_reducible first | exact HB.out | apply below_alloc | apply pw_below_drewN | apply below_drew1) | exact HB.out)) hb); (try clear hb); (try clear hb2); (try clear hk); (try clear hi); (try clear ho0)))
  (try simp only [Act.put, List.setIfInBounds_toArray, List.set_cons_zero, List.set_cons_succ])
  go_cut [29] (fun v29 wc => ∃ (kq : Nat) (x29_3 : Bool), v29 = .bool x29_3 ∧ Aside0 (terrref5_ListsOf.j0 kq t138 t137 x29_3 = some (r1, r2, r3)) ∧ Aside0 (kq ≤ k) ∧ Aside0 (Cut A0 l0 (.slice A140 t138.length c140) t138) ∧ Aside0 (Below w.heap.size w wc))
  case first =>
    have H := HC4.out
    clear HC4
    by_cases c6 : t137 < 0
    · rw [if_pos c6] at H
      have c6b0 : decide (t137 < 0) = true := decide_eq_true c6
      clear c6
      (first | rw [c6b0] | (simp only [i64_w, i32_w]; rw [c6b0]) | skip)
      have H' := Aside0.mk H
      clear H
      go_wp2
      go_meet
      case rel => exact ⟨_, (true), (by first | rfl | (simp; done) | (simp [*]; done)), H', ⟨by first | omega | exact Nat.le_refl _⟩, ⟨by (with_reducible repeat (first | apply Kd.R_alloc | apply Kd.R_drewN | apply Kd.R_drew)); exact HO141.out⟩, ⟨by repeat (first | (with_reducible first | exact HB.out | apply below_alloc | apply pw_below_drewN | apply below_drew1) | exact HB.out)⟩⟩
    rw [if_neg c6] at H
    have c6b0 : decide (t137 < 0) = false := decide_eq_false c6
    clear c6
    (first | rw [c6b0] | (simp only [i64_w, i32_w]; rw [c6b0]) | skip)
    have H' := Aside0.mk H
    clear H
    go_wp2
    go_meet
    case rel => exact ⟨_, (decide (t137 > 1000)), (by first | rfl | (simp; done) | (simp [*]; done)), H', ⟨by first | omega | exact Nat.le_refl _⟩, ⟨by (with_reducible repeat (first | apply Kd.R_alloc | apply Kd.R_drewN | apply Kd.R_drew)); exact HO141.out⟩, ⟨by repeat (first | (with_reducible first | exact HB.out | apply below_alloc | apply pw_below_drewN | apply below_drew1) | exact HB.out)⟩⟩
  case rest =>
    clear HC4
    try clear c3
    try clear c3b0
    try clear c3b1
    obtain ⟨kq, x29_3, rfl, HA, HJ3, HO_0, HB⟩ := hcut
    cases kq with
    | zero => exact absurd HA.out (by simp [terrref5_ListsOf.j0])
    | succ kj3 =>
      have H := HA.out
      clear HA
      simp only [terrref5_ListsOf.j0] at H
      by_cases c7 : x29_3 = true
      · subst c7
        have H1 : (some (([] : List (List (S44))), ([] : List Int), 2)) = some (r1, r2, r3) := by rw [if_pos rfl] at H; exact H
        clear H
        have H := H1
        clear H1
        simp only [Option.some.injEq, Prod.mk.injEq] at H
        obtain ⟨rfl, rfl, rfl⟩ := H
        go_wp2
        go_ret3
        exact ⟨_, _, by first | rfl | (simp [errW_none, errW_some] <;> rfl) | (simp [*, errW_none, errW_some] <;> rfl), by first | exact Kd.S_nil _ _ _ _ _ | exact Kd.N_nil _ _ _ _ _ | exact Kd.V_nil _ _ _ _ _ | exact Kd.Q_nil _ _ _ _ _ | exact Kd.R_nil _ _ _ _ _, Cut_nil A0 l0, by repeat (first | (with_reducible first | exact HB.out | apply below_alloc | apply pw_below_drewN | apply below_drew1) | exact HB.out)⟩
      replace c7 := Bool.eq_false_iff.mpr c7
      subst c7
      have H1 : (terrref5_ListsOf.l0 kj3 t138 t137 ([] : List (List (S44))) 0 0 0) = some (r1, r2, r3) := by rw [if_neg (show ¬ (false = true) by decide)] at H; exact H
      clear H
      have H := H1
      clear H1
      have H' := Aside0.mk H
      clear H
      go_wp2
      go_loopg [0, 5, 7, 8, 9, 10] kj3 (fun kq v0 v5 v7 v8 v9 v10 w' => ∃ (x0_2 : List Int) (x5_2 : Int) (x7_2 : List (List (S44))) (x8_2 : Int) (x9_2 : Int) (x10_2 : Int), v5 = .int .i64 x5_2 ∧ v8 = .int .i64 x8_2 ∧ v9 = .int .i64 x9_2 ∧ v10 = .int .i64 x10_2 ∧ Aside0 (terrref5_ListsOf.l0 kq x0_2 x5_2 x7_2 x8_2 x9_2 x10_2 = some (r1, r2, r3)) ∧ Aside0 (kq ≤ kj3) ∧ Aside0 (Cut A0 l0 v0 x0_2) ∧ Aside0 (Kd.S (Kd.slice 44 k44) 35 w' w.heap.size (fun _ => True) v7 x7_2) ∧ Aside0 (Below w.heap.size w w'))
      case atStart => exact ⟨(t138), (t137), (([] : List (List (S44)))), (0), (0), (0), (by first | rfl | (simp; done) | (simp [*]; done)), (by first | rfl | (simp; done) | (simp [*]; done)), (by first | rfl | (simp; done) | (simp [*]; done)), (by first | rfl | (simp; done) | (simp [*]; done)), H', ⟨Nat.le_refl _⟩, ⟨by (with_reducible repeat (first | apply Kd.R_alloc | apply Kd.R_drewN | apply Kd.R_drew)); exact HO_0.out⟩, ⟨by first | exact Kd.S_nil _ _ _ _ _ | exact Kd.N_nil _ _ _ _ _ | exact Kd.V_nil _ _ _ _ _ | exact Kd.Q_nil _ _ _ _ _ | exact Kd.R_nil _ _ _ _ _⟩, ⟨by repeat (first | (with_reducible first | exact HB.out | apply below_alloc | apply pw_below_drewN | apply below_drew1) | exact HB.out)⟩⟩
      case round =>
        clear H'
        try clear c7
        obtain ⟨x0_2, x5_2, x7_2, x8_2, x9_2, x10_2, rfl, rfl, rfl, rfl, HA, HK2, HO_0, HO_7, HB⟩ := hrel
        cases gk with
        | zero => exact absurd HA.out (by simp [terrref5_ListsOf.l0])
        | succ k2 =>
          have H := HA.out
          clear HA
          simp only [terrref5_ListsOf.l0] at H
          by_cases c8 : x5_2 > 0
          rotate_left
          · rw [if_neg c8] at H
            have c8b0 : decide (0 < x5_2) = false := decide_eq_false c8
            clear c8
            simp only [Option.some.injEq, Prod.mk.injEq] at H
            obtain ⟨rfl, rfl, rfl⟩ := H
            go_wp2
            go_ret3
            exact ⟨_, _, by first | rfl | (simp [errW_none, errW_some] <;> rfl) | (simp [*, errW_none, errW_some] <;> rfl), by (with_reducible repeat (first | apply Kd.S_alloc | apply Kd.S_drewN | apply Kd.S_drew)); exact HO_7.out, by (with_reducible repeat (first | apply Kd.R_alloc | apply Kd.R_drewN | apply Kd.R_drew)); exact HO_0.out, by repeat (first | (with_reducible first | exact HB.out | apply below_alloc | apply pw_below_drewN | apply below_drew1) | exact HB.out)⟩
          rw [if_pos c8] at H
          have c8b0 : decide (0 < x5_2) = true := decide_eq_true c8
          clear c8
          replace H := Option.bind_eq_some_iff.mp H
          obtain ⟨⟨t142, t143, t144⟩, A90, H⟩ := H
          replace H : (if t144 = 0 then (if t142 < 0 then (terrref5_ListsOf.j2 k2 t143 x5_2 x7_2 x8_2 x9_2 (wrap64 (x10_2 + (mx t142 0))) t142 true) else (if (wrap64 (x10_2 + (mx t142 0))) > 20000 then (terrref5_ListsOf.j2 k2 t143 x5_2 x7_2 x8_2 x9_2 (wrap64 (x10_2 + (mx t142 0))) t142 true) else (terrref5_ListsOf.j2 k2 t143 x5_2 x7_2 x8_2 x9_2 (wrap64 (x10_2 + (mx t142 0))) t142 (decide (t142 > 20000))))) else (some (([] : List (List (S44))), ([] : List Int), t144))) = some (r1, r2, r3) := H
          have A9 := Aside0.mk A90
          clear A90
          by_cases c10 : t144 = 0
          rotate_left
          · rw [if_neg c10] at H
            have c10b0 : (t144 == 0) = false := beq_eq_false_iff_ne.mpr c10
            have c10b1 : (t144 != 0) = true := bne_iff_ne.mpr c10
            simp only [Option.some.injEq, Prod.mk.injEq] at H
            obtain ⟨rfl, rfl, rfl⟩ := H
            obtain ⟨Ao38, co38, eo38, _, _⟩ := HO_0.out
            subst eo38
            go_wp2_with (first | ((with_reducible refine gate_callee (f := 19) rfl ?_); refine goesL_ (some 36) rfl rfl Try.func19 (by kernel_rfl) rfl #[.slice Ao38 x0_2.length co38] rfl (by (try simp only [List.map_toArray, List.map_cons, List.map_nil]); first | done | rfl | (simp only [List.length_drop, List.length_take]; rfl)) ?_; (with_reducible refine (terrref5_Number.calls k2 _ _ x0_2 t142 t143 t144 _ ?side1 ?side2 A9.out).mono ?_); (case side1 => repeat (first | exact ((Cut_reads HO_0.out).2.2 _ (Kd.C_below HR0.out HB.out)) | (with_reducible refine Kd.C_alloc ?_ _) | (with_reducible refine Kd.C_drewN ?_ _) | (with_reducible refine Kd.C_drew ?_))); (case side2 => exact (Cut_reads HO_0.out).2.1); rintro e w39 ⟨A145, c145, rfl, hc0_, ho0, hb⟩; refine ⟨_, rfl, ?_⟩; have HO146 := Aside0.mk (show Cut A0 l0 (.slice A145 t143.length c145) t143 from ⟨_, _, rfl, hc0_, fun W_ h_ => ho0 W_ ((Cut_reads HO_0.out).2.2 W_ h_)⟩); replace HO_0 := HO_0; replace HO_7 := Aside0.mk (Kd.S_below (by (with_reducible repeat (first | apply Kd.S_alloc | apply Kd.S_drewN | apply Kd.S_drew)); exact HO_7.out) hb); replace HB := Aside0.mk (below_step (by repeat (first | (with_reducible first | exact HB.out | apply below_alloc | apply pw_below_drewN | apply below_drew1) | exact HB.out)) hb); (try clear hb); (try clear hb2); (try clear hk); (try clear hi); (try clear ho0)))
            go_ret3
            exact ⟨_, _, by first | rfl | (simp [errW_none, errW_some] <;> rfl) | (simp [*, errW_none, errW_some] <;> rfl), by first | exact Kd.S_nil _ _ _ _ _ | exact Kd.N_nil _ _ _ _ _ | exact Kd.V_nil _ _ _ _ _ | exact Kd.Q_nil _ _ _ _ _ | exact Kd.R_nil _ _ _ _ _, Cut_nil A0 l0, by repeat (first | (with_reducible first | exact HB.out | apply below_alloc | apply pw_below_drewN | apply below_drew1) | exact HB.out)⟩
          rw [if_pos c10] at H
          have c10b0 : (t144 == 0) = true := beq_iff_eq.mpr c10
          have c10b1 : (t144 != 0) = false := bne_eq_false_iff_eq.mpr c10
          clear c10
          obtain ⟨ji11, hji11⟩ : ∃ j_ : Int, (mx t142 0) = j_ := ⟨_, rfl⟩
          replace H : (if t142 < 0 then (terrref5_ListsOf.j2 k2 t143 x5_2 x7_2 x8_2 x9_2 (wrap64 (x10_2 + (ji11))) t142 true) else (if (wrap64 (x10_2 + (ji11))) > 20000 then (terrref5_ListsOf.j2 k2 t143 x5_2 x7_2 x8_2 x9_2 (wrap64 (x10_2 + (ji11))) t142 true) else (terrref5_ListsOf.j2 k2 t143 x5_2 x7_2 x8_2 x9_2 (wrap64 (x10_2 + (ji11))) t142 (decide (t142 > 20000))))) = some (r1, r2, r3) := by first | (rw [hji11] at H; exact H) | (simp only [hji11] at H ⊢; exact H)
          (try rw [hji11] at A9)
          (try (have hji11l : 0 ≤ ji11 := by (rw [← hji11]; unfold mx; (repeat' split) <;> omega)))
          (try (have hji11m : 0 ≤ ji11 := by omega))
          have hji11_ : (if t142 < 0 then 0 else t142) = ji11 := hji11
          have HC12 := Aside0.mk H
          clear H
          obtain ⟨Ao13, co13, eo13, _, _⟩ := HO_0.out
          subst eo13
          go_upto_region 15 with (first | ((with_reducible refine gate_callee (f := 19) rfl ?_); refine goesL_ (some 36) rfl rfl Try.func19 (by kernel_rfl) rfl #[.slice Ao13 x0_2.length co13] rfl (by (try simp only [List.map_toArray, List.map_cons, List.map_nil]); first | done | rfl | (simp only [List.length_drop, List.length_take]; rfl)) ?_; (with_reducible refine (terrref5_Number.calls k2 _ _ x0_2 t142 t143 t144 _ ?side1 ?side2 A9.out).mono ?_); (case side1 => repeat (first | exact ((Cut_reads HO_0.out).2.2 _ (Kd.C_below HR0.out HB.out)) | (with_reducible refine Kd.C_alloc ?_ _) | (with_reducible refine Kd.C_drewN ?_ _) | (with_reducible refine Kd.C_drew ?_))); (case side2 => exact (Cut_reads HO_0.out).2.1); rintro e w14 ⟨A145, c145, rfl, hc0_, ho0, hb⟩; refine ⟨_, rfl, ?_⟩; have HO146 := Aside0.mk (show Cut A0 l0 (.slice A145 t143.length c145) t143 from ⟨_, _, rfl, hc0_, fun W_ h_ => ho0 W_ ((Cut_reads HO_0.out).2.2 W_ h_)⟩); replace HO_0 := HO_0; replace HO_7 := Aside0.mk (Kd.S_below (by (with_reducible repeat (first | apply Kd.S_alloc | apply Kd.S_drewN | apply Kd.S_drew)); exact HO_7.out) hb); replace HB := Aside0.mk (below_step (by repeat (first | (with_reducible first | exact HB.out | apply below_alloc | apply pw_below_drewN | apply below_drew1) | exact HB.out)) hb); (try clear hb); (try clear hb2); (try clear hk); (try clear hi); (try clear ho0)))
          (try simp only [Act.put, List.setIfInBounds_toArray, List.set_cons_zero, List.set_cons_succ])
          go_cut [56] (fun v56 wc => ∃ (kq : Nat) (x56_11 : Bool), v56 = .bool x56_11 ∧ Aside0 (terrref5_ListsOf.j2 kq t143 x5_2 x7_2 x8_2 x9_2 (wrap64 (x10_2 + (ji11))) t142 x56_11 = some (r1, r2, r3)) ∧ Aside0 (kq ≤ k2) ∧ Aside0 (Cut A0 l0 (.slice A145 t143.length c145) t143) ∧ Aside0 (Kd.S (Kd.slice 44 k44) 35 wc w.heap.size (fun _ => True) u7 x7_2) ∧ Aside0 (Below w.heap.size w wc))
          case first =>
            have H := HC12.out
            clear HC12
            by_cases c15 : t142 < 0
            · rw [if_pos c15] at H
              have c15b0 : decide (t142 < 0) = true := decide_eq_true c15
              clear c15
              (first | rw [c15b0] | (simp only [i64_w, i32_w]; rw [c15b0]) | skip)
              have H' := Aside0.mk H
              clear H
              go_wp2
              go_meet
              case rel => exact ⟨_, (true), (by first | rfl | (simp; done) | (simp [*]; done)), H', ⟨by have := HJ3.out; have := HK2.out; first | omega | exact Nat.le_refl _⟩, ⟨by (with_reducible repeat (first | apply Kd.R_alloc | apply Kd.R_drewN | apply Kd.R_drew)); exact HO146.out⟩, ⟨by (with_reducible repeat (first | apply Kd.S_alloc | apply Kd.S_drewN | apply Kd.S_drew)); exact HO_7.out⟩, ⟨by repeat (first | (with_reducible first | exact HB.out | apply below_alloc | apply pw_below_drewN | apply below_drew1) | exact HB.out)⟩⟩
            rw [if_neg c15] at H
            have c15b0 : decide (t142 < 0) = false := decide_eq_false c15
            clear c15
            (first | rw [c15b0] | (simp only [i64_w, i32_w]; rw [c15b0]) | skip)
            by_cases c16 : (wrap64 (x10_2 + (ji11))) > 20000
            · rw [if_pos c16] at H
              have c16b0 : decide (20000 < (wrap64 (x10_2 + (ji11)))) = true := decide_eq_true c16
              clear c16
              have H' := Aside0.mk H
              clear H
              go_wp2
              go_meet
              case rel => exact ⟨_, (true), (by first | rfl | (simp; done) | (simp [*]; done)), H', ⟨by have := HJ3.out; have := HK2.out; first | omega | exact Nat.le_refl _⟩, ⟨by (with_reducible repeat (first | apply Kd.R_alloc | apply Kd.R_drewN | apply Kd.R_drew)); exact HO146.out⟩, ⟨by (with_reducible repeat (first | apply Kd.S_alloc | apply Kd.S_drewN | apply Kd.S_drew)); exact HO_7.out⟩, ⟨by repeat (first | (with_reducible first | exact HB.out | apply below_alloc | apply pw_below_drewN | apply below_drew1) | exact HB.out)⟩⟩
            rw [if_neg c16] at H
            have c16b0 : decide (20000 < (wrap64 (x10_2 + (ji11)))) = false := decide_eq_false c16
            clear c16
            have H' := Aside0.mk H
            clear H
            go_wp2
            go_meet
            case rel => exact ⟨_, (decide (t142 > 20000)), (by first | rfl | (simp; done) | (simp [*]; done)), H', ⟨by have := HJ3.out; have := HK2.out; first | omega | exact Nat.le_refl _⟩, ⟨by (with_reducible repeat (first | apply Kd.R_alloc | apply Kd.R_drewN | apply Kd.R_drew)); exact HO146.out⟩, ⟨by (with_reducible repeat (first | apply Kd.S_alloc | apply Kd.S_drewN | apply Kd.S_drew)); exact HO_7.out⟩, ⟨by repeat (first | (with_reducible first | exact HB.out | apply below_alloc | apply pw_below_drewN | apply below_drew1) | exact HB.out)⟩⟩
          case rest =>
            clear HC12
            try clear c8
            try clear c8b0
            try clear c10
            try clear c10b0
            try clear c10b1
            obtain ⟨kq, x56_11, rfl, HA, HJ11, HO_0, HO_7, HB⟩ := hcut
            cases kq with
            | zero => exact absurd HA.out (by simp [terrref5_ListsOf.j2])
            | succ kj11 =>
              have H := HA.out
              clear HA
              simp only [terrref5_ListsOf.j2] at H
              by_cases c17 : x56_11 = true
              · subst c17
                have H1 : (some (([] : List (List (S44))), ([] : List Int), 2)) = some (r1, r2, r3) := by rw [if_pos rfl] at H; exact H
                clear H
                have H := H1
                clear H1
                simp only [Option.some.injEq, Prod.mk.injEq] at H
                obtain ⟨rfl, rfl, rfl⟩ := H
                go_wp2
                go_ret3
                exact ⟨_, _, by first | rfl | (simp [errW_none, errW_some] <;> rfl) | (simp only [← hji11]; first | rfl | (simp [errW_none, errW_some] <;> rfl)) | (simp [*, errW_none, errW_some] <;> rfl), by first | exact Kd.S_nil _ _ _ _ _ | exact Kd.N_nil _ _ _ _ _ | exact Kd.V_nil _ _ _ _ _ | exact Kd.Q_nil _ _ _ _ _ | exact Kd.R_nil _ _ _ _ _, Cut_nil A0 l0, by repeat (first | (with_reducible first | exact HB.out | apply below_alloc | apply pw_below_drewN | apply below_drew1) | exact HB.out)⟩
              replace c17 := Bool.eq_false_iff.mpr c17
              subst c17
              have H1 : (terrref5_ListsOf.l1 kj11 t143 x5_2 x7_2 x8_2 x9_2 (wrap64 (x10_2 + (ji11))) t142 ([] : List (S44))) = some (r1, r2, r3) := by rw [if_neg (show ¬ (false = true) by decide)] at H; exact H
              clear H
              have H := H1
              clear H1
              have H' := Aside0.mk H
              clear H
              go_wp2
              go_loopg [0, 8, 9, 11, 12] kj11 (fun kq v0 v8 v9 v11 v12 w' => ∃ (x0_4 : List Int) (x8_4 : Int) (x9_4 : Int) (x11_4 : Int) (x12_4 : List (S44)), v8 = .int .i64 x8_4 ∧ v9 = .int .i64 x9_4 ∧ v11 = .int .i64 x11_4 ∧ Aside0 (terrref5_ListsOf.l1 kq x0_4 x5_2 x7_2 x8_4 x9_4 (wrap64 (x10_2 + (ji11))) x11_4 x12_4 = some (r1, r2, r3)) ∧ Aside0 (kq ≤ kj11) ∧ Aside0 (Cut A0 l0 v0 x0_4) ∧ Aside0 (Kd.S (Kd.slice 44 k44) 35 w' w.heap.size (fun k_ => some k_ ≠ (v12 : Value).ownBlock) u7 x7_2) ∧ Aside0 (Kd.R k44 44 w' w.heap.size (fun _ => True) v12 x12_4) ∧ Aside0 (Below w.heap.size w w'))
              case atStart => exact ⟨(t143), (x8_2), (x9_2), (t142), (([] : List (S44))), (by first | rfl | (simp; done) | (simp [*]; done)), (by first | rfl | (simp; done) | (simp [*]; done)), (by first | rfl | (simp; done) | (simp [*]; done)), H', ⟨Nat.le_refl _⟩, ⟨by (with_reducible repeat (first | apply Kd.R_alloc | apply Kd.R_drewN | apply Kd.R_drew)); exact HO_0.out⟩, ⟨by (with_reducible repeat (first | apply Kd.S_alloc | apply Kd.S_drewN | apply Kd.S_drew)); exact Kd.S_mono HO_7.out (fun _ hk => (by simp [Value.ownBlock]))⟩, ⟨by first | exact Kd.R_nil _ _ _ _ _ | exact Kd.N_nil _ _ _ _ _ | exact Kd.V_nil _ _ _ _ _ | exact Kd.Q_nil _ _ _ _ _ | exact Kd.S_nil _ _ _ _ _⟩, ⟨by repeat (first | (with_reducible first | exact HB.out | apply below_alloc | apply pw_below_drewN | apply below_drew1) | exact HB.out)⟩⟩
              case round =>
                clear H'
                try clear c17
                obtain ⟨x0_4, x8_4, x9_4, x11_4, x12_4, rfl, rfl, rfl, HA, HK4, HO_0, HO_7, HO_12, HB⟩ := hrel
                cases gk with
                | zero => exact absurd HA.out (by simp [terrref5_ListsOf.l1])
                | succ k4 =>
                  have H := HA.out
                  clear HA
                  simp only [terrref5_ListsOf.l1] at H
                  by_cases c18 : x11_4 > 0
                  rotate_left
                  · rw [if_neg c18] at H
                    have c18b0 : decide (0 < x11_4) = false := decide_eq_false c18
                    clear c18
                    by_cases c35 : x7_2.length < 5864062014805
                    rotate_left
                    · rw [if_neg c35] at H
                      exact absurd H (by simp)
                    rw [if_pos c35] at H
                    have LMc35 := Aside0.mk c35
                    clear c35
                    obtain ⟨y147, hy147⟩ : ∃ y_ : List (List (S44)), y_ = (x7_2 ++ [x12_4]) := ⟨_, rfl⟩
                    replace H : (terrref5_ListsOf.l0 k4 x0_4 (wrap64 (x5_2 - 1)) y147 x8_4 x9_4 (wrap64 (x10_2 + (ji11)))) = some (r1, r2, r3) := by first | (rw [hy147]; with_reducible exact H) | (have H2_ := (Option.bind_some _ _).symm.trans H; rw [hy147]; with_reducible exact H2_) | (have H2_ := (Option.bind_some _ _).symm.trans H; with_reducible exact H2_) | with_reducible exact H | (rw [hy147]; exact H) | exact H
                    have Ny147 := Aside0.mk hy147
                    clear hy147
                    have H' := Aside0.mk H
                    clear H
                    obtain ⟨Ao37, co37, eo37⟩ := Kd.R_slice HO_12.out
                    subst eo37
                    go_wp2_with (first | ((with_reducible refine gate_builtin (b := .append) (xs := #[.tmp 91, .tmp 93]) rfl ?_); at_builtin; refine Kd.S_append (Kd.slice 44 k44) (w0 := w) w.heap.size rfl (.tmp 91) (.tmp 93) 23 35 (.slice none 0 0) 24 rfl Try.underlying23 info35 rfl (by decide) (by omega) u7 x7_2 x12_4 [.slice Ao37 x12_4.length co37] (fun _ => True) (fun k_ => some k_ = (.slice Ao37 x12_4.length co37 : Value).ownBlock) rfl rfl ?aP (fun k_ hk_ => ((Kd.R_mono (ok' := fun k_ => ((fun _ => True)) k_ ∧ some k_ ≠ (u7 : Value).ownBlock) (Kd.R_apart' (HO_12.out) (Kd.S_typed HO_7.out) (by decide)) (fun k_ hk => ⟨trivial, hk.2⟩))).1 k_ hk_.symm) ?aF ?aO ?aB ?aS ?aL ?_; (case aP => exact Kd.M_row (Kd.R_mono (Kd.R_tight rfl (Kd.R_mono (ok' := fun k_ => ((fun _ => True)) k_ ∧ some k_ ≠ (u7 : Value).ownBlock) (Kd.R_apart' (HO_12.out) (Kd.S_typed HO_7.out) (by decide)) (fun k_ hk => ⟨trivial, hk.2⟩))) (fun _ h_ => h_))); (case aB => exact (by repeat (first | (with_reducible first | exact HB.out | apply below_alloc | apply pw_below_drewN | apply below_drew1) | exact HB.out))); (case aF => exact (fun _ _ => trivial)); (case aO => exact (by (with_reducible repeat (first | apply Kd.S_alloc | apply Kd.S_drewN | apply Kd.S_drew)); exact Kd.S_mono HO_7.out (fun k_ hk => ⟨trivial, fun e_ => hk e_⟩))); (case aS => exact (below_size (by repeat (first | (with_reducible first | exact HB.out | apply below_alloc | apply pw_below_drewN | apply below_drew1) | exact HB.out)))); (case aL => have := LMc35.out; omega); intro v148 w36 ho hb hg hat; rw [← Ny147.out] at ho; have HO149 := Aside0.mk (ho); replace HO_0 := HO_0; replace HB := Aside0.mk (hb); clear HO_7 HO_12 ho hb hg hat))
                    go_roundg k4
                    case measure => have := HJ3.out; have := HK2.out; have := HJ11.out; have := HK4.out; omega
                    case rel => exact ⟨(x0_4), (wrap64 (x5_2 - 1)), (y147), (x8_4), (x9_4), ((wrap64 (x10_2 + (ji11)))), (by first | rfl | (simp; done) | (simp [*]; done)), (by first | rfl | (simp; done) | (simp [*]; done)), (by first | rfl | (simp; done) | (simp [*]; done)), (by first | rfl | (simp; done) | (simp only [← hji11] <;> (first | rfl | simp)) | (simp [*]; done)), H', ⟨by have := HJ3.out; have := HK2.out; have := HJ11.out; have := HK4.out; omega⟩, ⟨by (with_reducible repeat (first | apply Kd.R_alloc | apply Kd.R_drewN | apply Kd.R_drew)); exact HO_0.out⟩, ⟨by (with_reducible repeat (first | apply Kd.S_alloc | apply Kd.S_drewN | apply Kd.S_drew)); exact HO149.out⟩, ⟨by repeat (first | (with_reducible first | exact HB.out | apply below_alloc | apply pw_below_drewN | apply below_drew1) | exact HB.out)⟩⟩
                  rw [if_pos c18] at H
                  have c18b0 : decide (0 < x11_4) = true := decide_eq_true c18
                  clear c18
                  replace H := Option.bind_eq_some_iff.mp H
                  obtain ⟨⟨t150, t151, t152⟩, A190, H⟩ := H
                  replace H : (if t152 = 0 then ((terrref5_Number.f k4 t151).bind fun bt155 => (if bt155.2.2 = 0 then (if x12_4.length < 8796093022208 then (terrref5_ListsOf.l1 k4 bt155.2.1 x5_2 x7_2 (wrap64 (x8_4 + t150)) (wrap64 (x9_4 + bt155.1)) (wrap64 (x10_2 + (ji11))) (wrap64 (x11_4 - 1)) (x12_4 ++ [(⟨wrap64 (x8_4 + t150), wrap64 (x9_4 + bt155.1)⟩ : S44)])) else (none)) else (some (([] : List (List (S44))), ([] : List Int), bt155.2.2)))) else (some (([] : List (List (S44))), ([] : List Int), t152))) = some (r1, r2, r3) := H
                  have A19 := Aside0.mk A190
                  clear A190
                  by_cases c20 : t152 = 0
                  rotate_left
                  · rw [if_neg c20] at H
                    have c20b0 : (t152 == 0) = false := beq_eq_false_iff_ne.mpr c20
                    have c20b1 : (t152 != 0) = true := bne_iff_ne.mpr c20
                    simp only [Option.some.injEq, Prod.mk.injEq] at H
                    obtain ⟨rfl, rfl, rfl⟩ := H
                    obtain ⟨Ao33, co33, eo33, _, _⟩ := HO_0.out
                    subst eo33
                    go_wp2_with (first | ((with_reducible refine gate_callee (f := 19) rfl ?_); refine goesL_ (some 63) rfl rfl Try.func19 (by kernel_rfl) rfl #[.slice Ao33 x0_4.length co33] rfl (by (try simp only [List.map_toArray, List.map_cons, List.map_nil]); first | done | rfl | (simp only [List.length_drop, List.length_take]; rfl)) ?_; (with_reducible refine (terrref5_Number.calls k4 _ _ x0_4 t150 t151 t152 _ ?side1 ?side2 A19.out).mono ?_); (case side1 => repeat (first | exact ((Cut_reads HO_0.out).2.2 _ (Kd.C_below HR0.out HB.out)) | (with_reducible refine Kd.C_alloc ?_ _) | (with_reducible refine Kd.C_drewN ?_ _) | (with_reducible refine Kd.C_drew ?_))); (case side2 => exact (Cut_reads HO_0.out).2.1); rintro e w34 ⟨A153, c153, rfl, hc0_, ho0, hb⟩; refine ⟨_, rfl, ?_⟩; have HO154 := Aside0.mk (show Cut A0 l0 (.slice A153 t151.length c153) t151 from ⟨_, _, rfl, hc0_, fun W_ h_ => ho0 W_ ((Cut_reads HO_0.out).2.2 W_ h_)⟩); replace HO_0 := HO_0; replace HO_7 := Aside0.mk (Kd.S_below (by (with_reducible repeat (first | apply Kd.S_alloc | apply Kd.S_drewN | apply Kd.S_drew)); exact HO_7.out) hb); replace HO_12 := Aside0.mk (Kd.R_below (by (with_reducible repeat (first | apply Kd.R_alloc | apply Kd.R_drewN | apply Kd.R_drew)); exact HO_12.out) hb); replace HB := Aside0.mk (below_step (by repeat (first | (with_reducible first | exact HB.out | apply below_alloc | apply pw_below_drewN | apply below_drew1) | exact HB.out)) hb); (try clear hb); (try clear hb2); (try clear hk); (try clear hi); (try clear ho0)))
                    go_ret3
                    exact ⟨_, _, by first | rfl | (simp [errW_none, errW_some] <;> rfl) | (simp only [← hji11]; first | rfl | (simp [errW_none, errW_some] <;> rfl)) | (simp [*, errW_none, errW_some] <;> rfl), by first | exact Kd.S_nil _ _ _ _ _ | exact Kd.N_nil _ _ _ _ _ | exact Kd.V_nil _ _ _ _ _ | exact Kd.Q_nil _ _ _ _ _ | exact Kd.R_nil _ _ _ _ _, Cut_nil A0 l0, by repeat (first | (with_reducible first | exact HB.out | apply below_alloc | apply pw_below_drewN | apply below_drew1) | exact HB.out)⟩
                  rw [if_pos c20] at H
                  have c20b0 : (t152 == 0) = true := beq_iff_eq.mpr c20
                  have c20b1 : (t152 != 0) = false := bne_eq_false_iff_eq.mpr c20
                  clear c20
                  replace H := Option.bind_eq_some_iff.mp H
                  obtain ⟨⟨t155, t156, t157⟩, A210, H⟩ := H
                  replace H : (if t157 = 0 then (if x12_4.length < 8796093022208 then (terrref5_ListsOf.l1 k4 t156 x5_2 x7_2 (wrap64 (x8_4 + t150)) (wrap64 (x9_4 + t155)) (wrap64 (x10_2 + (ji11))) (wrap64 (x11_4 - 1)) (x12_4 ++ [(⟨wrap64 (x8_4 + t150), wrap64 (x9_4 + t155)⟩ : S44)])) else (none)) else (some (([] : List (List (S44))), ([] : List Int), t157))) = some (r1, r2, r3) := H
                  have A21 := Aside0.mk A210
                  clear A210
                  by_cases c22 : t157 = 0
                  rotate_left
                  · rw [if_neg c22] at H
                    have c22b0 : (t157 == 0) = false := beq_eq_false_iff_ne.mpr c22
                    have c22b1 : (t157 != 0) = true := bne_iff_ne.mpr c22
                    simp only [Option.some.injEq, Prod.mk.injEq] at H
                    obtain ⟨rfl, rfl, rfl⟩ := H
                    obtain ⟨Ao29, co29, eo29, _, _⟩ := HO_0.out
                    subst eo29
                    go_wp2_with (first | ((with_reducible refine gate_callee (f := 19) rfl ?_); refine goesL_ (some 63) rfl rfl Try.func19 (by kernel_rfl) rfl #[.slice Ao29 x0_4.length co29] rfl (by (try simp only [List.map_toArray, List.map_cons, List.map_nil]); first | done | rfl | (simp only [List.length_drop, List.length_take]; rfl)) ?_; (with_reducible refine (terrref5_Number.calls k4 _ _ x0_4 t150 t151 t152 _ ?side1 ?side2 A19.out).mono ?_); (case side1 => repeat (first | exact ((Cut_reads HO_0.out).2.2 _ (Kd.C_below HR0.out HB.out)) | (with_reducible refine Kd.C_alloc ?_ _) | (with_reducible refine Kd.C_drewN ?_ _) | (with_reducible refine Kd.C_drew ?_))); (case side2 => exact (Cut_reads HO_0.out).2.1); rintro e w30 ⟨A153, c153, rfl, hc0_, ho0, hb⟩; refine ⟨_, rfl, ?_⟩; have HO154 := Aside0.mk (show Cut A0 l0 (.slice A153 t151.length c153) t151 from ⟨_, _, rfl, hc0_, fun W_ h_ => ho0 W_ ((Cut_reads HO_0.out).2.2 W_ h_)⟩); replace HO_0 := HO_0; replace HO_7 := Aside0.mk (Kd.S_below (by (with_reducible repeat (first | apply Kd.S_alloc | apply Kd.S_drewN | apply Kd.S_drew)); exact HO_7.out) hb); replace HO_12 := Aside0.mk (Kd.R_below (by (with_reducible repeat (first | apply Kd.R_alloc | apply Kd.R_drewN | apply Kd.R_drew)); exact HO_12.out) hb); replace HB := Aside0.mk (below_step (by repeat (first | (with_reducible first | exact HB.out | apply below_alloc | apply pw_below_drewN | apply below_drew1) | exact HB.out)) hb); (try clear hb); (try clear hb2); (try clear hk); (try clear hi); (try clear ho0)) | ((with_reducible refine gate_callee (f := 19) rfl ?_); refine goesL_ (some 72) rfl rfl Try.func19 (by kernel_rfl) rfl #[.slice A153 t151.length c153] rfl (by (try simp only [List.map_toArray, List.map_cons, List.map_nil]); first | done | rfl | (simp only [List.length_drop, List.length_take]; rfl)) ?_; (with_reducible refine (terrref5_Number.calls k4 _ _ t151 t155 t156 t157 _ ?side1 ?side2 A21.out).mono ?_); (case side1 => repeat (first | exact ((Cut_reads HO154.out).2.2 _ (Kd.C_below HR0.out HB.out)) | (with_reducible refine Kd.C_alloc ?_ _) | (with_reducible refine Kd.C_drewN ?_ _) | (with_reducible refine Kd.C_drew ?_))); (case side2 => exact (Cut_reads HO154.out).2.1); rintro e w32 ⟨A158, c158, rfl, hc0_, ho0, hb⟩; refine ⟨_, rfl, ?_⟩; have HO159 := Aside0.mk (show Cut A0 l0 (.slice A158 t156.length c158) t156 from ⟨_, _, rfl, hc0_, fun W_ h_ => ho0 W_ ((Cut_reads HO154.out).2.2 W_ h_)⟩); replace HO_0 := HO_0; replace HO_7 := Aside0.mk (Kd.S_below (by (with_reducible repeat (first | apply Kd.S_alloc | apply Kd.S_drewN | apply Kd.S_drew)); exact HO_7.out) hb); replace HO_12 := Aside0.mk (Kd.R_below (by (with_reducible repeat (first | apply Kd.R_alloc | apply Kd.R_drewN | apply Kd.R_drew)); exact HO_12.out) hb); replace HO154 := HO154; replace HB := Aside0.mk (below_step (by repeat (first | (with_reducible first | exact HB.out | apply below_alloc | apply pw_below_drewN | apply below_drew1) | exact HB.out)) hb); (try clear hb); (try clear hb2); (try clear hk); (try clear hi); (try clear ho0)))
                    go_ret3
                    exact ⟨_, _, by first | rfl | (simp [errW_none, errW_some] <;> rfl) | (simp only [← hji11]; first | rfl | (simp [errW_none, errW_some] <;> rfl)) | (simp [*, errW_none, errW_some] <;> rfl), by first | exact Kd.S_nil _ _ _ _ _ | exact Kd.N_nil _ _ _ _ _ | exact Kd.V_nil _ _ _ _ _ | exact Kd.Q_nil _ _ _ _ _ | exact Kd.R_nil _ _ _ _ _, Cut_nil A0 l0, by repeat (first | (with_reducible first | exact HB.out | apply below_alloc | apply pw_below_drewN | apply below_drew1) | exact HB.out)⟩
                  rw [if_pos c22] at H
                  have c22b0 : (t157 == 0) = true := beq_iff_eq.mpr c22
                  have c22b1 : (t157 != 0) = false := bne_eq_false_iff_eq.mpr c22
                  clear c22
                  by_cases c23 : x12_4.length < 8796093022208
                  rotate_left
                  · rw [if_neg c23] at H
                    exact absurd H (by simp)
                  rw [if_pos c23] at H
                  have LMc23 := Aside0.mk c23
                  clear c23
                  obtain ⟨y160, hy160⟩ : ∃ y_ : List (S44), y_ = (x12_4 ++ [(⟨wrap64 (x8_4 + t150), wrap64 (x9_4 + t155)⟩ : S44)]) := ⟨_, rfl⟩
                  replace H : (terrref5_ListsOf.l1 k4 t156 x5_2 x7_2 (wrap64 (x8_4 + t150)) (wrap64 (x9_4 + t155)) (wrap64 (x10_2 + (ji11))) (wrap64 (x11_4 - 1)) y160) = some (r1, r2, r3) := by first | (rw [hy160]; with_reducible exact H) | (have H2_ := (Option.bind_some _ _).symm.trans H; rw [hy160]; with_reducible exact H2_) | (have H2_ := (Option.bind_some _ _).symm.trans H; with_reducible exact H2_) | with_reducible exact H | (rw [hy160]; exact H) | exact H
                  have Ny160 := Aside0.mk hy160
                  clear hy160
                  have H' := Aside0.mk H
                  clear H
                  obtain ⟨Ao24, co24, eo24, _, _⟩ := HO_0.out
                  subst eo24
                  go_wp2_with (first | ((with_reducible refine gate_callee (f := 19) rfl ?_); refine goesL_ (some 63) rfl rfl Try.func19 (by kernel_rfl) rfl #[.slice Ao24 x0_4.length co24] rfl (by (try simp only [List.map_toArray, List.map_cons, List.map_nil]); first | done | rfl | (simp only [List.length_drop, List.length_take]; rfl)) ?_; (with_reducible refine (terrref5_Number.calls k4 _ _ x0_4 t150 t151 t152 _ ?side1 ?side2 A19.out).mono ?_); (case side1 => repeat (first | exact ((Cut_reads HO_0.out).2.2 _ (Kd.C_below HR0.out HB.out)) | (with_reducible refine Kd.C_alloc ?_ _) | (with_reducible refine Kd.C_drewN ?_ _) | (with_reducible refine Kd.C_drew ?_))); (case side2 => exact (Cut_reads HO_0.out).2.1); rintro e w25 ⟨A153, c153, rfl, hc0_, ho0, hb⟩; refine ⟨_, rfl, ?_⟩; have HO154 := Aside0.mk (show Cut A0 l0 (.slice A153 t151.length c153) t151 from ⟨_, _, rfl, hc0_, fun W_ h_ => ho0 W_ ((Cut_reads HO_0.out).2.2 W_ h_)⟩); replace HO_0 := HO_0; replace HO_7 := Aside0.mk (Kd.S_below (by (with_reducible repeat (first | apply Kd.S_alloc | apply Kd.S_drewN | apply Kd.S_drew)); exact HO_7.out) hb); replace HO_12 := Aside0.mk (Kd.R_below (by (with_reducible repeat (first | apply Kd.R_alloc | apply Kd.R_drewN | apply Kd.R_drew)); exact HO_12.out) hb); replace HB := Aside0.mk (below_step (by repeat (first | (with_reducible first | exact HB.out | apply below_alloc | apply pw_below_drewN | apply below_drew1) | exact HB.out)) hb); (try clear hb); (try clear hb2); (try clear hk); (try clear hi); (try clear ho0)) | ((with_reducible refine gate_callee (f := 19) rfl ?_); refine goesL_ (some 72) rfl rfl Try.func19 (by kernel_rfl) rfl #[.slice A153 t151.length c153] rfl (by (try simp only [List.map_toArray, List.map_cons, List.map_nil]); first | done | rfl | (simp only [List.length_drop, List.length_take]; rfl)) ?_; (with_reducible refine (terrref5_Number.calls k4 _ _ t151 t155 t156 t157 _ ?side1 ?side2 A21.out).mono ?_); (case side1 => repeat (first | exact ((Cut_reads HO154.out).2.2 _ (Kd.C_below HR0.out HB.out)) | (with_reducible refine Kd.C_alloc ?_ _) | (with_reducible refine Kd.C_drewN ?_ _) | (with_reducible refine Kd.C_drew ?_))); (case side2 => exact (Cut_reads HO154.out).2.1); rintro e w27 ⟨A158, c158, rfl, hc0_, ho0, hb⟩; refine ⟨_, rfl, ?_⟩; have HO159 := Aside0.mk (show Cut A0 l0 (.slice A158 t156.length c158) t156 from ⟨_, _, rfl, hc0_, fun W_ h_ => ho0 W_ ((Cut_reads HO154.out).2.2 W_ h_)⟩); replace HO_0 := HO_0; replace HO_7 := Aside0.mk (Kd.S_below (by (with_reducible repeat (first | apply Kd.S_alloc | apply Kd.S_drewN | apply Kd.S_drew)); exact HO_7.out) hb); replace HO_12 := Aside0.mk (Kd.R_below (by (with_reducible repeat (first | apply Kd.R_alloc | apply Kd.R_drewN | apply Kd.R_drew)); exact HO_12.out) hb); replace HO154 := HO154; replace HB := Aside0.mk (below_step (by repeat (first | (with_reducible first | exact HB.out | apply below_alloc | apply pw_below_drewN | apply below_drew1) | exact HB.out)) hb); (try clear hb); (try clear hb2); (try clear hk); (try clear hi); (try clear ho0)) | ((with_reducible refine gate_builtin (b := .append) (xs := #[.tmp 85, .tmp 89]) rfl ?_); at_builtin; refine Kd.R_append k44 (w0 := w) w.heap.size rfl (.tmp 85) (.tmp 89) 35 44 (.agg #[(.int .i64 0), (.int .i64 0)]) 16 rfl Try.underlying35 info44 rfl (by decide) (by omega) u12 x12_4 (⟨wrap64 (x8_4 + t150), wrap64 (x9_4 + t155)⟩ : S44) [.int .i64 (wrap64 (x8_4 + t150)), .int .i64 (wrap64 (x9_4 + t155))] (fun _ => True) (fun _ => False) rfl rfl ?aP (fun _ hk => hk.elim) ?aF ?aO ?aB ?aS ?aL ?_; (case aP => exact k44_mkM _ _ _ (⟨wrap64 (x8_4 + t150), wrap64 (x9_4 + t155)⟩ : S44)); (case aB => exact (by repeat (first | (with_reducible first | exact HB.out | apply below_alloc | apply pw_below_drewN | apply below_drew1) | exact HB.out))); (case aF => exact (fun _ _ => trivial)); (case aO => exact (by (with_reducible repeat (first | apply Kd.R_alloc | apply Kd.R_drewN | apply Kd.R_drew)); exact HO_12.out)); (case aS => exact (below_size (by repeat (first | (with_reducible first | exact HB.out | apply below_alloc | apply pw_below_drewN | apply below_drew1) | exact HB.out)))); (case aL => have := LMc23.out; omega); intro v161 w28 ho hb hg hat; rw [← Ny160.out] at ho; have HO162 := Aside0.mk (ho); replace HO_0 := HO_0; replace HO_7 := Aside0.mk (Kd.S_after (ok := (fun _ => True)) (by (with_reducible repeat (first | apply Kd.S_alloc | apply Kd.S_drewN | apply Kd.S_drew)); exact Kd.S_mono HO_7.out (fun _ hk => ⟨trivial, hk⟩)) hg hat); replace HO154 := HO154; replace HO159 := HO159; replace HB := Aside0.mk (hb); clear HO_12 ho hb hg hat))
                  go_roundg k4
                  case measure => have := HJ3.out; have := HK2.out; have := HJ11.out; have := HK4.out; omega
                  case rel => exact ⟨(t156), (wrap64 (x8_4 + t150)), (wrap64 (x9_4 + t155)), (wrap64 (x11_4 - 1)), (y160), (by first | rfl | (simp; done) | (simp [*]; done)), (by first | rfl | (simp; done) | (simp [*]; done)), (by first | rfl | (simp; done) | (simp [*]; done)), H', ⟨by have := HJ3.out; have := HK2.out; have := HJ11.out; have := HK4.out; omega⟩, ⟨by (with_reducible repeat (first | apply Kd.R_alloc | apply Kd.R_drewN | apply Kd.R_drew)); exact HO159.out⟩, ⟨by (with_reducible repeat (first | apply Kd.S_alloc | apply Kd.S_drewN | apply Kd.S_drew)); exact Kd.S_mono HO_7.out (fun _ hk => hk.2)⟩, ⟨by (with_reducible repeat (first | apply Kd.R_alloc | apply Kd.R_drewN | apply Kd.R_drew)); exact HO162.out⟩, ⟨by repeat (first | (with_reducible first | exact HB.out | apply below_alloc | apply pw_below_drewN | apply below_drew1) | exact HB.out)⟩⟩
end Go.Proofs.Ytjgoehhhjffpmaa.Q

