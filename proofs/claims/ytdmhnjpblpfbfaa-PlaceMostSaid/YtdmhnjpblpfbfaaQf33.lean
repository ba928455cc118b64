/- What the Go function terrlaw5_possible comes to, and its contract. Condition: its printed twin gives an answer. -/
import Derived.Test.YtdmhnjpblpfbfaaQf64
import Derived.Test.YtdmhnjpblpfbfaaQf65
namespace Go.Proofs.Ytdmhnjpblpfbfaa.Q
open Go.RowKit Go.Proofs.YtdmhnjpblpfbfaaW.PrintWords Go.Proofs.YtdmhnjpblpfbfaaW.PrintLast Go.Proofs.YtdmhnjpblpfbfaaW.PrintMore
attribute [local go_sem] max2_int min2_int max_two min_two max_three min_three max_four min_four
set_option linter.unusedVariables false
set_option linter.unusedSimpArgs false
/-- A cell of the old world, kept over stores into a new block. -/
theorem far1_ {w W : World} {a : Addr} {v v' u : Value} {g i : Nat} (hw : w.cell? a = some v) (hg : w.heap.size ≤ g) (h : W.cell? a = some v') : (W.setCell ⟨g, i, none⟩ u).cell? a = some v' :=
  (cell_far (p := ⟨g, i, none⟩) (Nat.ne_of_lt (Nat.lt_of_lt_of_le (World.block_lt_of_cell? _ _ hw) hg)) _).trans h
/-! ### terrlaw5_possible: function 33 -/
mutual
def terrlaw5_possible.l0 : Nat → List (S36) → List Int → List Int → Int → Int → Option (Bool)
  | 0, _, _, _, _, _ => none
  | k + 1, x0, x1, x11, x12, x13 => if x13 < x12 then (if 0 ≤ x13 then (if x13 < (x11.length : Int) then (if x13 ≤ (x1.length : Int) then (terrlaw5_possible.l1 k x0 x1 x13 (rd x11 x13) x11 x12 x13 (x1.take (x13 : Int).toNat) ((x1.take (x13 : Int).toNat).length : Int) 0) else (none)) else (none)) else (none)) else (some true)
def terrlaw5_possible.l1 : Nat → List (S36) → List Int → Int → Int → List Int → Int → Int → List Int → Int → Int → Option (Bool)
  | 0, _, _, _, _, _, _, _, _, _, _ => none
  | k + 1, x0, x1, x5, x6, x11, x12, x13, x20, x21, x22 => if x22 < x21 then (if 0 ≤ x22 then (if x22 < (x20.length : Int) then (if x6 < 0 then (terrlaw5_possible.j2 k x0 x1 x5 x6 x22 (rd x20 x22) x11 x12 x13 x20 x21 x22 true) else (terrlaw5_possible.j2 k x0 x1 x5 x6 x22 (rd x20 x22) x11 x12 x13 x20 x21 x22 (decide ((rd x20 x22) < 0)))) else (none)) else (none)) else (terrlaw5_possible.l0 k x0 x1 x11 x12 (wrap64 (x13 + 1)))
def terrlaw5_possible.j2 : Nat → List (S36) → List Int → Int → Int → Int → Int → List Int → Int → Int → List Int → Int → Int → Bool → Option (Bool)
  | 0, _, _, _, _, _, _, _, _, _, _, _, _, _ => none
  | k + 1, x0, x1, x5, x6, x7, x8, x11, x12, x13, x20, x21, x22, x32 => if x32 = true then (terrlaw5_possible.l1 k x0 x1 x5 x6 x11 x12 x13 x20 x21 (wrap64 (x22 + 1))) else (if 0 ≤ x5 then (if x5 < (x0.length : Int) then (if 0 ≤ x6 then (if x6 < (((rd_T36 x0 x5).f1).length : Int) then (if 0 ≤ x7 then (if x7 < (x0.length : Int) then (if 0 ≤ x8 then (if x8 < (((rd_T36 x0 x7).f1).length : Int) then ((terrlaw5_ordered.f ((rd_T42 ((rd_T36 x0 x5).f1) x6).f0.f0) ((rd_T42 ((rd_T36 x0 x5).f1) x6).f0.f1) ((rd_T42 ((rd_T36 x0 x5).f1) x6).f1.f0) ((rd_T42 ((rd_T36 x0 x5).f1) x6).f1.f1)).bind fun t180 => (if t180 = true then ((terrlaw5_ordered.f ((rd_T42 ((rd_T36 x0 x7).f1) x8).f0.f0) ((rd_T42 ((rd_T36 x0 x7).f1) x8).f0.f1) ((rd_T42 ((rd_T36 x0 x7).f1) x8).f1.f0) ((rd_T42 ((rd_T36 x0 x7).f1) x8).f1.f1)).bind fun t181 => (if t181 = true then ((terrref5_Near.f ((rd_T42 ((rd_T36 x0 x5).f1) x6).f0.f0) ((rd_T42 ((rd_T36 x0 x5).f1) x6).f0.f1) ((rd_T42 ((rd_T36 x0 x5).f1) x6).f1.f0) ((rd_T42 ((rd_T36 x0 x5).f1) x6).f1.f1) ((rd_T42 ((rd_T36 x0 x7).f1) x8).f0.f0) ((rd_T42 ((rd_T36 x0 x7).f1) x8).f0.f1) ((rd_T42 ((rd_T36 x0 x7).f1) x8).f1.f0) ((rd_T42 ((rd_T36 x0 x7).f1) x8).f1.f1)).bind fun t182 => (if t182 = true then (some false) else (terrlaw5_possible.l1 k x0 x1 x5 x6 x11 x12 x13 x20 x21 (wrap64 (x22 + 1))))) else (terrlaw5_possible.l1 k x0 x1 x5 x6 x11 x12 x13 x20 x21 (wrap64 (x22 + 1))))) else (terrlaw5_possible.l1 k x0 x1 x5 x6 x11 x12 x13 x20 x21 (wrap64 (x22 + 1))))) else (none)) else (none)) else (none)) else (none)) else (none)) else (none)) else (none)) else (none))
end
def terrlaw5_possible.f (k : Nat) (l0 : List (S36)) (l1 : List Int) : Option (Bool) := terrlaw5_possible.l0 k l0 l1 l1 (l1.length : Int) 0
theorem terrlaw5_possible.mono_l : ∀ k, (∀ y0 y1 y2 y3 y4, LeO (terrlaw5_possible.l0 k y0 y1 y2 y3 y4) (terrlaw5_possible.l0 (k + 1) y0 y1 y2 y3 y4)) ∧ (∀ y0 y1 y2 y3 y4 y5 y6 y7 y8 y9, LeO (terrlaw5_possible.l1 k y0 y1 y2 y3 y4 y5 y6 y7 y8 y9) (terrlaw5_possible.l1 (k + 1) y0 y1 y2 y3 y4 y5 y6 y7 y8 y9)) ∧ (∀ y0 y1 y2 y3 y4 y5 y6 y7 y8 y9 y10 y11 y12, LeO (terrlaw5_possible.j2 k y0 y1 y2 y3 y4 y5 y6 y7 y8 y9 y10 y11 y12) (terrlaw5_possible.j2 (k + 1) y0 y1 y2 y3 y4 y5 y6 y7 y8 y9 y10 y11 y12))
  | 0 => ⟨fun _ _ _ _ _ r h => by simp [terrlaw5_possible.l0] at h, fun _ _ _ _ _ _ _ _ _ _ r h => by simp [terrlaw5_possible.l1] at h, fun _ _ _ _ _ _ _ _ _ _ _ _ _ r h => by simp [terrlaw5_possible.j2] at h⟩
  | k + 1 => by
    obtain ⟨ih0, ih1, ih2⟩ := terrlaw5_possible.mono_l k
    refine ⟨?_, ?_, ?_⟩
    · intro y0 y1 y2 y3 y4
      unfold terrlaw5_possible.l0
      repeat' first
      | (with_reducible exact ih0 _ _ _ _ _)
      | (with_reducible exact ih1 _ _ _ _ _ _ _ _ _ _)
      | (with_reducible exact ih2 _ _ _ _ _ _ _ _ _ _ _ _ _)
      | (with_reducible exact LeO.refl _)
      | (with_reducible exact LeO.none _)
      | (with_reducible refine LeO.ite ?_ ?_)
      | (with_reducible refine LeO.bind ?_ (fun _ => ?_))
      | exact ih0 _ _ _ _ _
      | exact ih1 _ _ _ _ _ _ _ _ _ _
      | exact ih2 _ _ _ _ _ _ _ _ _ _ _ _ _
      | refine LeO.ite ?_ ?_
      | refine LeO.bind ?_ (fun _ => ?_)
    · intro y0 y1 y2 y3 y4 y5 y6 y7 y8 y9
      unfold terrlaw5_possible.l1
      repeat' first
      | (with_reducible exact ih0 _ _ _ _ _)
      | (with_reducible exact ih1 _ _ _ _ _ _ _ _ _ _)
      | (with_reducible exact ih2 _ _ _ _ _ _ _ _ _ _ _ _ _)
      | (with_reducible exact LeO.refl _)
      | (with_reducible exact LeO.none _)
      | (with_reducible refine LeO.ite ?_ ?_)
      | (with_reducible refine LeO.bind ?_ (fun _ => ?_))
      | exact ih0 _ _ _ _ _
      | exact ih1 _ _ _ _ _ _ _ _ _ _
      | exact ih2 _ _ _ _ _ _ _ _ _ _ _ _ _
      | refine LeO.ite ?_ ?_
      | refine LeO.bind ?_ (fun _ => ?_)
    · intro y0 y1 y2 y3 y4 y5 y6 y7 y8 y9 y10 y11 y12
      unfold terrlaw5_possible.j2
      repeat' first
      | (with_reducible exact ih0 _ _ _ _ _)
      | (with_reducible exact ih1 _ _ _ _ _ _ _ _ _ _)
      | (with_reducible exact ih2 _ _ _ _ _ _ _ _ _ _ _ _ _)
      | (with_reducible exact LeO.refl _)
      | (with_reducible exact LeO.none _)
      | (with_reducible refine LeO.ite ?_ ?_)
      | (with_reducible refine LeO.bind ?_ (fun _ => ?_))
      | exact ih0 _ _ _ _ _
      | exact ih1 _ _ _ _ _ _ _ _ _ _
      | exact ih2 _ _ _ _ _ _ _ _ _ _ _ _ _
      | refine LeO.ite ?_ ?_
      | refine LeO.bind ?_ (fun _ => ?_)
theorem terrlaw5_possible.mono : ∀ a0 a1 k, LeO (terrlaw5_possible.f k a0 a1) (terrlaw5_possible.f (k + 1) a0 a1) := by
  intro a0 a1 k
  obtain ⟨ih0, ih1, ih2⟩ := terrlaw5_possible.mono_l k
  unfold terrlaw5_possible.f
  repeat' first
      | (with_reducible exact ih0 _ _ _ _ _)
      | (with_reducible exact ih1 _ _ _ _ _ _ _ _ _ _)
      | (with_reducible exact ih2 _ _ _ _ _ _ _ _ _ _ _ _ _)
      | (with_reducible exact LeO.refl _)
      | (with_reducible exact LeO.none _)
      | (with_reducible refine LeO.ite ?_ ?_)
      | (with_reducible refine LeO.bind ?_ (fun _ => ?_))
      | exact ih0 _ _ _ _ _
      | exact ih1 _ _ _ _ _ _ _ _ _ _
      | exact ih2 _ _ _ _ _ _ _ _ _ _ _ _ _
      | refine LeO.ite ?_ ?_
      | refine LeO.bind ?_ (fun _ => ?_)
def terrlaw5_possible.T8 : Bool × List (List Nat × List Nat) := (true, [([], []), ([], []), ([0, 1], [0, 1]), ([2], [2]), ([3], [3]), ([], []), ([4, 5], [4, 5]), ([6], [6]), ([], []), ([], []), ([8, 9], [8, 9]), ([10], [10]), ([11], [11]), ([], []), ([12, 13], [12, 13]), ([14], [14]), ([], []), ([], []), ([16, 7, 0, 1, 2, 3, 4, 5, 6, 7, 16, 17], [7, 16]), ([17, 15, 18, 0, 1, 2, 3, 4, 5, 6, 7, 8, 9, 10, 11, 12, 13, 14, 15, 16, 17, 18], [15, 17])])
def terrlaw5_possible.B8 : List Nat := [0, 0, 3, 7, 15, 0, 63, 127, 0, 0, 768, 1792, 3840, 0, 16128, 32512, 0, 0, 196863, 524287]
theorem terrlaw5_possible.tab8 : rtab .any (opsOf Try.f33 8) = terrlaw5_possible.T8 := by kernel_rfl
theorem terrlaw5_possible.bits8 : waitsOk terrlaw5_possible.T8.2 terrlaw5_possible.B8 = true := by kernel_rfl
set_option maxHeartbeats 8000000 in
set_option maxRecDepth 100000 in
theorem terrlaw5_possible.calls (k : Nat) (A0 : Option Addr) (c0 : Nat) (l0 : List (S36)) (A1 : Option Addr) (c1 : Nat) (l1 : List Int) (r : Bool) (w : World) (hr0 : Kd.C k36 w A0 l0.length l0) (hc0 : l0.length ≤ c0) (hr1 : Kd.C (Kd.int .i64) w A1 l1.length l1) (hc1 : l1.length ≤ c1) (h : terrlaw5_possible.f k l0 l1 = some r) :
    Calls Try.prog 33 #[.slice A0 l0.length c0, .slice A1 l1.length c1] w fun e w' => e = .returned (.bool r) ∧ Below w.heap.size w w' := by
  have hu42 := Try.underlying42
  have HR0 := Aside0.mk hr0
  have HC0 := Aside0.mk hc0
  clear hr0 hc0
  have HR1 := Aside0.mk hr1
  have HC1 := Aside0.mk hc1
  clear hr1 hc1
  have HB := Aside0.mk (Below.refl w.heap.size w)
  have H : (terrlaw5_possible.l0 k l0 l1 l1 (l1.length : Int) 0) = some r := h
  clear h
  have H' := Aside0.mk H
  clear H
  go_enter Try.func33, Try.ntmps33
  go_wp2
  go_loopg [13] k (fun kq v13 w' => ∃ (x13_1 : Int), v13 = .int .i64 x13_1 ∧ Aside0 (terrlaw5_possible.l0 kq l0 l1 l1 (l1.length : Int) x13_1 = some r) ∧ Aside0 (kq ≤ k) ∧ Aside0 (Below w.heap.size w w'))
  case atStart => exact ⟨(0), (by first | rfl | (simp; done) | (simp [*]; done)), H', ⟨Nat.le_refl _⟩, ⟨by repeat (first | (with_reducible first | exact HB.out | apply below_alloc | apply pw_below_drewN | apply below_drew1) | exact HB.out)⟩⟩
  case round =>
    clear H'
    try clear c1
    try clear p2
    obtain ⟨x13_1, rfl, HA, HK1, HB⟩ := hrel
    cases gk with
    | zero => exact absurd HA.out (by simp [terrlaw5_possible.l0])
    | succ k1 =>
      have H := HA.out
      clear HA
      simp only [terrlaw5_possible.l0] at H
      by_cases c3 : x13_1 < (l1.length : Int)
      rotate_left
      · rw [if_neg c3] at H
        have c3b0 : decide (x13_1 < (l1.length : Int)) = false := decide_eq_false c3
        clear c3
        obtain rfl := Option.some.inj H
        go_wp2
        go_ret
        exact ⟨by first | rfl | (simp [errW_none, errW_some] <;> rfl) | (simp [*, errW_none, errW_some] <;> rfl), by repeat (first | (with_reducible first | exact HB.out | apply below_alloc | apply pw_below_drewN | apply below_drew1) | exact HB.out)⟩
      rw [if_pos c3] at H
      have c3b0 : decide (x13_1 < (l1.length : Int)) = true := decide_eq_true c3
      clear c3
      by_cases c4 : 0 ≤ x13_1
      rotate_left
      · rw [if_neg c4] at H
        exact absurd H (by simp)
      rw [if_pos c4] at H
      have c4b0 : decide (0 ≤ x13_1) = true := decide_eq_true c4
      clear c4
      by_cases c5 : x13_1 < (l1.length : Int)
      rotate_left
      · rw [if_neg c5] at H
        exact absurd H (by simp)
      rw [if_pos c5] at H
      have c5b0 : decide (x13_1 < (l1.length : Int)) = true := decide_eq_true c5
      clear c5
      have c6b0 := eq_true (of_decide_eq_true (by first | (with_reducible assumption) | assumption) : 0 ≤ x13_1)
      by_cases c7 : x13_1 ≤ (l1.length : Int)
      rotate_left
      · rw [if_neg c7] at H
        exact absurd H (by simp)
      rw [if_pos c7] at H
      have c7b0 := eq_true c7
      have c7b1 : decide (x13_1 ≤ (l1.length : Int)) = true := decide_eq_true c7
      clear c7
      obtain ⟨T8, hT_⟩ : ∃ T_, T_ = l1.take (x13_1 : Int).toNat := ⟨_, rfl⟩
      rw [← hT_] at H
      have NT8 := Aside0.mk hT_
      clear hT_
      have H' := Aside0.mk H
      clear H
      have p171 : 0 ≤ (x13_1 : Int) := of_decide_eq_true (by first | (with_reducible assumption) | assumption)
      have q171 : x13_1 < (l1.length : Int) := of_decide_eq_true (by first | (with_reducible assumption) | assumption)
      obtain ⟨ad171, e171, hx171_0⟩ := Kd.at_int HR1.out x13_1 p171 q171
      cases e171
      replace hx171_0 := (HB.out.cell (World.block_lt_of_cell? w _ hx171_0)).trans hx171_0
      replace p171 := eq_true p171
      replace q171 := eq_true q171
      obtain ⟨i08, hi08, _, hsz8, _⟩ := info_parts info3
      obtain ⟨hcut8, hA8, hC8⟩ := print_take_of (P := Try.prog) (Value.int .i64) 0 22 3 .i64 Try.underlying22 hi08 hsz8 (some ad171) c1 l1 x13_1 (of_decide_eq_true (by first | (with_reducible assumption) | assumption)) (of_decide_eq_true (by first | (with_reducible assumption) | assumption)) HC1.out
      rw [← NT8.out] at hcut8 hA8 hC8
      have HR172 := Aside0.mk (Kd.C_of_reads (h1 := fun _ => rfl) (hA8 _ (Kd.reads_of_C HR1.out)))
      have HC172 := Aside0.mk hC8
      clear hA8 hC8 hi08 hsz8
      go_wp2
      go_loopg [22] k1 (fun kq v22 w' => ∃ (x22_2 : Int), v22 = .int .i64 x22_2 ∧ Aside0 (terrlaw5_possible.l1 kq l0 l1 x13_1 (rd l1 x13_1) l1 (l1.length : Int) x13_1 T8 (T8.length : Int) x22_2 = some r) ∧ Aside0 (kq ≤ k1) ∧ Aside0 (Below w.heap.size w w'))
      case atStart => exact ⟨(0), (by first | rfl | (simp; done) | (simp [*]; done)), H', ⟨Nat.le_refl _⟩, ⟨by repeat (first | (with_reducible first | exact HB.out | apply below_alloc | apply pw_below_drewN | apply below_drew1) | exact HB.out)⟩⟩
      case round =>
        clear H'
        try clear c1
        try clear p1
        try clear q1
        try clear hx1
        try clear p2
        try clear c3
        try clear c3b0
        try clear c4
        try clear c4b0
        try clear c5
        try clear c5b0
        try clear c6
        try clear c6b0
        try clear c7
        try clear c7b0
        try clear c7b1
        try clear hx171_0
        try clear p171
        try clear p2
        try clear q171
        obtain ⟨x22_2, rfl, HA, HK2, HB⟩ := hrel
        cases gk with
        | zero => exact absurd HA.out (by simp [terrlaw5_possible.l1])
        | succ k2 =>
          have H := HA.out
          clear HA
          simp only [terrlaw5_possible.l1] at H
          by_cases c9 : x22_2 < (T8.length : Int)
          rotate_left
          · rw [if_neg c9] at H
            have c9b0 : decide (x22_2 < (T8.length : Int)) = false := decide_eq_false c9
            clear c9
            have H' := Aside0.mk H
            clear H
            go_wp2
            go_roundg k2
            case measure => have := HK1.out; have := HK2.out; omega
            case rel => exact ⟨(wrap64 (x13_1 + 1)), (by first | rfl | (simp; done) | (simp [*]; done)), H', ⟨by have := HK1.out; have := HK2.out; omega⟩, ⟨by repeat (first | (with_reducible first | exact HB.out | apply below_alloc | apply pw_below_drewN | apply below_drew1) | exact HB.out)⟩⟩
          rw [if_pos c9] at H
          have c9b0 : decide (x22_2 < (T8.length : Int)) = true := decide_eq_true c9
          clear c9
          by_cases c10 : 0 ≤ x22_2
          rotate_left
          · rw [if_neg c10] at H
            exact absurd H (by simp)
          rw [if_pos c10] at H
          have c10b0 : decide (0 ≤ x22_2) = true := decide_eq_true c10
          clear c10
          by_cases c11 : x22_2 < (T8.length : Int)
          rotate_left
          · rw [if_neg c11] at H
            exact absurd H (by simp)
          rw [if_pos c11] at H
          have c11b0 : decide (x22_2 < (T8.length : Int)) = true := decide_eq_true c11
          clear c11
          have HC12 := Aside0.mk H
          clear H
          have p173 : 0 ≤ (x22_2 : Int) := of_decide_eq_true (by first | (with_reducible assumption) | assumption)
          have q173 : x22_2 < (T8.length : Int) := of_decide_eq_true (by first | (with_reducible assumption) | assumption)
          obtain ⟨ad173, e173, hx173_0⟩ := Kd.at_int HR172.out x22_2 p173 q173
          obtain rfl : ad171 = ad173 := (by injection e173)
          replace hx173_0 := (HB.out.cell (World.block_lt_of_cell? w _ hx173_0)).trans hx173_0
          replace p173 := eq_true p173
          replace q173 := eq_true q173
          go_upto_region 7 with (fail)
          go_cut [32] (fun v32 wc => ∃ (kq : Nat) (x32_11 : Bool), v32 = .bool x32_11 ∧ Aside0 (terrlaw5_possible.j2 kq l0 l1 x13_1 (rd l1 x13_1) x22_2 (rd T8 x22_2) l1 (l1.length : Int) x13_1 T8 (T8.length : Int) x22_2 x32_11 = some r) ∧ Aside0 (kq ≤ k2) ∧ Aside0 (Below w.heap.size w wc))
          case first =>
            have H := HC12.out
            clear HC12
            by_cases c13 : (rd l1 x13_1) < 0
            · rw [if_pos c13] at H
              have c13b0 : decide ((rd l1 x13_1) < 0) = true := decide_eq_true c13
              clear c13
              (first | rw [c13b0] | (simp only [i64_w, i32_w]; rw [c13b0]) | skip)
              have H' := Aside0.mk H
              clear H
              go_wp2
              go_meet
              case rel => exact ⟨_, (true), (by first | rfl | (simp; done) | (simp [*]; done)), H', ⟨by have := HK1.out; have := HK2.out; first | omega | exact Nat.le_refl _⟩, ⟨by repeat (first | (with_reducible first | exact HB.out | apply below_alloc | apply pw_below_drewN | apply below_drew1) | exact HB.out)⟩⟩
            rw [if_neg c13] at H
            have c13b0 : decide ((rd l1 x13_1) < 0) = false := decide_eq_false c13
            clear c13
            (first | rw [c13b0] | (simp only [i64_w, i32_w]; rw [c13b0]) | skip)
            have H' := Aside0.mk H
            clear H
            go_wp2
            go_meet
            case rel => exact ⟨_, (decide ((rd T8 x22_2) < 0)), (by first | rfl | (simp; done) | (simp [*]; done)), H', ⟨by have := HK1.out; have := HK2.out; first | omega | exact Nat.le_refl _⟩, ⟨by repeat (first | (with_reducible first | exact HB.out | apply below_alloc | apply pw_below_drewN | apply below_drew1) | exact HB.out)⟩⟩
          case rest =>
            clear HC12
            try clear c1
            try clear p1
            try clear q1
            try clear hx1
            try clear p2
            try clear c3
            try clear c3b0
            try clear c4
            try clear c4b0
            try clear c5
            try clear c5b0
            try clear c6
            try clear c6b0
            try clear c7
            try clear c7b0
            try clear c7b1
            try clear c9
            try clear c9b0
            try clear c10
            try clear c10b0
            try clear c11
            try clear c11b0
            try clear c13
            try clear c13b0
            try clear hx171_0
            try clear hx173_0
            try clear p1
            try clear p171
            try clear p173
            try clear p2
            try clear q1
            try clear q171
            try clear q173
            obtain ⟨kq, x32_11, rfl, HA, HJ11, HB⟩ := hcut
            cases kq with
            | zero => exact absurd HA.out (by simp [terrlaw5_possible.j2])
            | succ kj11 =>
              have H := HA.out
              clear HA
              simp only [terrlaw5_possible.j2] at H
              by_cases c14 : x32_11 = true
              · subst c14
                have H1 : (terrlaw5_possible.l1 kj11 l0 l1 x13_1 (rd l1 x13_1) l1 (l1.length : Int) x13_1 T8 (T8.length : Int) (wrap64 (x22_2 + 1))) = some r := by rw [if_pos rfl] at H; exact H
                clear H
                have H := H1
                clear H1
                have H' := Aside0.mk H
                clear H
                go_wp2
                go_roundg kj11
                case measure => have := HK1.out; have := HK2.out; have := HJ11.out; omega
                case rel => exact ⟨(wrap64 (x22_2 + 1)), (by first | rfl | (simp; done) | (simp [*]; done)), H', ⟨by have := HK1.out; have := HK2.out; have := HJ11.out; omega⟩, ⟨by repeat (first | (with_reducible first | exact HB.out | apply below_alloc | apply pw_below_drewN | apply below_drew1) | exact HB.out)⟩⟩
              replace c14 := Bool.eq_false_iff.mpr c14
              subst c14
              have H1 : (if 0 ≤ x13_1 then (if x13_1 < (l0.length : Int) then (if 0 ≤ (rd l1 x13_1) then (if (rd l1 x13_1) < (((rd_T36 l0 x13_1).f1).length : Int) then (if 0 ≤ x22_2 then (if x22_2 < (l0.length : Int) then (if 0 ≤ (rd T8 x22_2) then (if (rd T8 x22_2) < (((rd_T36 l0 x22_2).f1).length : Int) then ((terrlaw5_ordered.f ((rd_T42 ((rd_T36 l0 x13_1).f1) (rd l1 x13_1)).f0.f0) ((rd_T42 ((rd_T36 l0 x13_1).f1) (rd l1 x13_1)).f0.f1) ((rd_T42 ((rd_T36 l0 x13_1).f1) (rd l1 x13_1)).f1.f0) ((rd_T42 ((rd_T36 l0 x13_1).f1) (rd l1 x13_1)).f1.f1)).bind fun t180 => (if t180 = true then ((terrlaw5_ordered.f ((rd_T42 ((rd_T36 l0 x22_2).f1) (rd T8 x22_2)).f0.f0) ((rd_T42 ((rd_T36 l0 x22_2).f1) (rd T8 x22_2)).f0.f1) ((rd_T42 ((rd_T36 l0 x22_2).f1) (rd T8 x22_2)).f1.f0) ((rd_T42 ((rd_T36 l0 x22_2).f1) (rd T8 x22_2)).f1.f1)).bind fun t181 => (if t181 = true then ((terrref5_Near.f ((rd_T42 ((rd_T36 l0 x13_1).f1) (rd l1 x13_1)).f0.f0) ((rd_T42 ((rd_T36 l0 x13_1).f1) (rd l1 x13_1)).f0.f1) ((rd_T42 ((rd_T36 l0 x13_1).f1) (rd l1 x13_1)).f1.f0) ((rd_T42 ((rd_T36 l0 x13_1).f1) (rd l1 x13_1)).f1.f1) ((rd_T42 ((rd_T36 l0 x22_2).f1) (rd T8 x22_2)).f0.f0) ((rd_T42 ((rd_T36 l0 x22_2).f1) (rd T8 x22_2)).f0.f1) ((rd_T42 ((rd_T36 l0 x22_2).f1) (rd T8 x22_2)).f1.f0) ((rd_T42 ((rd_T36 l0 x22_2).f1) (rd T8 x22_2)).f1.f1)).bind fun t182 => (if t182 = true then (some false) else (terrlaw5_possible.l1 kj11 l0 l1 x13_1 (rd l1 x13_1) l1 (l1.length : Int) x13_1 T8 (T8.length : Int) (wrap64 (x22_2 + 1))))) else (terrlaw5_possible.l1 kj11 l0 l1 x13_1 (rd l1 x13_1) l1 (l1.length : Int) x13_1 T8 (T8.length : Int) (wrap64 (x22_2 + 1))))) else (terrlaw5_possible.l1 kj11 l0 l1 x13_1 (rd l1 x13_1) l1 (l1.length : Int) x13_1 T8 (T8.length : Int) (wrap64 (x22_2 + 1))))) else (none)) else (none)) else (none)) else (none)) else (none)) else (none)) else (none)) else (none)) = some r := by rw [if_neg (show ¬ (false = true) by decide)] at H; exact H
              clear H
              have H := H1
              clear H1
              by_cases c15 : 0 ≤ x13_1
              rotate_left
              · rw [if_neg c15] at H
                exact absurd H (by simp)
              rw [if_pos c15] at H
              have c15b0 : decide (0 ≤ x13_1) = true := decide_eq_true c15
              clear c15
              by_cases c16 : x13_1 < (l0.length : Int)
              rotate_left
              · rw [if_neg c16] at H
                exact absurd H (by simp)
              rw [if_pos c16] at H
              have c16b0 : decide (x13_1 < (l0.length : Int)) = true := decide_eq_true c16
              clear c16
              by_cases c17 : 0 ≤ (rd l1 x13_1)
              rotate_left
              · rw [if_neg c17] at H
                exact absurd H (by simp)
              rw [if_pos c17] at H
              have c17b0 : decide (0 ≤ (rd l1 x13_1)) = true := decide_eq_true c17
              clear c17
              by_cases c18 : (rd l1 x13_1) < (((rd_T36 l0 x13_1).f1).length : Int)
              rotate_left
              · rw [if_neg c18] at H
                exact absurd H (by simp)
              rw [if_pos c18] at H
              have c18b0 : decide ((rd l1 x13_1) < (((rd_T36 l0 x13_1).f1).length : Int)) = true := decide_eq_true c18
              clear c18
              by_cases c19 : 0 ≤ x22_2
              rotate_left
              · rw [if_neg c19] at H
                exact absurd H (by simp)
              rw [if_pos c19] at H
              have c19b0 : decide (0 ≤ x22_2) = true := decide_eq_true c19
              clear c19
              by_cases c20 : x22_2 < (l0.length : Int)
              rotate_left
              · rw [if_neg c20] at H
                exact absurd H (by simp)
              rw [if_pos c20] at H
              have c20b0 : decide (x22_2 < (l0.length : Int)) = true := decide_eq_true c20
              clear c20
              by_cases c21 : 0 ≤ (rd T8 x22_2)
              rotate_left
              · rw [if_neg c21] at H
                exact absurd H (by simp)
              rw [if_pos c21] at H
              have c21b0 : decide (0 ≤ (rd T8 x22_2)) = true := decide_eq_true c21
              clear c21
              by_cases c22 : (rd T8 x22_2) < (((rd_T36 l0 x22_2).f1).length : Int)
              rotate_left
              · rw [if_neg c22] at H
                exact absurd H (by simp)
              rw [if_pos c22] at H
              have c22b0 : decide ((rd T8 x22_2) < (((rd_T36 l0 x22_2).f1).length : Int)) = true := decide_eq_true c22
              clear c22
              have HHo := Aside0.mk H
              clear H
              try go_wp2
              replace HB := Aside0.mk (below_drew1 HB.out)
              have p174 : 0 ≤ (x13_1 : Int) := of_decide_eq_true (by first | (with_reducible assumption) | assumption)
              have q174 : x13_1 < (l0.length : Int) := of_decide_eq_true (by first | (with_reducible assumption) | assumption)
              obtain ⟨ad174, A174_4, c174_4, A174_6, c174_6, e174, hx174_0, hx174_1, hx174_2, hx174_3, hx174_4, hx174_5, hx174_6, hx174_7, hl174_4, hi174_4, hl174_6, hi174_6⟩ := at_T36 HR0.out x13_1 p174 q174
              have hw174_7 := hx174_7
              have hw174_6 := hx174_6
              have hw174_5 := hx174_5
              have hw174_4 := hx174_4
              have hw174_3 := hx174_3
              have hw174_2 := hx174_2
              have hw174_1 := hx174_1
              have hw174_0 := hx174_0
              cases e174
              replace hx174_0 := (HB.out.cell (World.block_lt_of_cell? w _ hx174_0)).trans hx174_0
              replace hx174_1 := (HB.out.cell (World.block_lt_of_cell? w _ hx174_1)).trans hx174_1
              replace hx174_2 := (HB.out.cell (World.block_lt_of_cell? w _ hx174_2)).trans hx174_2
              replace hx174_3 := (HB.out.cell (World.block_lt_of_cell? w _ hx174_3)).trans hx174_3
              replace hx174_4 := (HB.out.cell (World.block_lt_of_cell? w _ hx174_4)).trans hx174_4
              replace hx174_5 := (HB.out.cell (World.block_lt_of_cell? w _ hx174_5)).trans hx174_5
              replace hx174_6 := (HB.out.cell (World.block_lt_of_cell? w _ hx174_6)).trans hx174_6
              replace hx174_7 := (HB.out.cell (World.block_lt_of_cell? w _ hx174_7)).trans hx174_7
              have HR174_4 := Aside0.mk hi174_4
              have HC174_4 := Aside0.mk hl174_4
              clear hi174_4 hl174_4
              have HR174_6 := Aside0.mk hi174_6
              have HC174_6 := Aside0.mk hl174_6
              clear hi174_6 hl174_6
              replace p174 := eq_true p174
              replace q174 := eq_true q174
              have p175 : 0 ≤ ((rd l1 x13_1) : Int) := of_decide_eq_true (by first | (with_reducible assumption) | assumption)
              have q175 : (rd l1 x13_1) < (((rd_T36 l0 x13_1).f1).length : Int) := of_decide_eq_true (by first | (with_reducible assumption) | assumption)
              obtain ⟨ad175, e175, hx175_0, hx175_1, hx175_2, hx175_3⟩ := at_T42 HR174_6.out (rd l1 x13_1) p175 q175
              have hw175_3 := hx175_3
              have hw175_2 := hx175_2
              have hw175_1 := hx175_1
              have hw175_0 := hx175_0
              cases e175
              replace hx175_0 := (HB.out.cell (World.block_lt_of_cell? w _ hx175_0)).trans hx175_0
              replace hx175_1 := (HB.out.cell (World.block_lt_of_cell? w _ hx175_1)).trans hx175_1
              replace hx175_2 := (HB.out.cell (World.block_lt_of_cell? w _ hx175_2)).trans hx175_2
              replace hx175_3 := (HB.out.cell (World.block_lt_of_cell? w _ hx175_3)).trans hx175_3
              replace p175 := eq_true p175
              replace q175 := eq_true q175
              have p176 : 0 ≤ (x22_2 : Int) := of_decide_eq_true (by first | (with_reducible assumption) | assumption)
              have q176 : x22_2 < (l0.length : Int) := of_decide_eq_true (by first | (with_reducible assumption) | assumption)
              obtain ⟨ad176, A176_4, c176_4, A176_6, c176_6, e176, hx176_0, hx176_1, hx176_2, hx176_3, hx176_4, hx176_5, hx176_6, hx176_7, hl176_4, hi176_4, hl176_6, hi176_6⟩ := at_T36 HR0.out x22_2 p176 q176
              have hw176_7 := hx176_7
              have hw176_6 := hx176_6
              have hw176_5 := hx176_5
              have hw176_4 := hx176_4
              have hw176_3 := hx176_3
              have hw176_2 := hx176_2
              have hw176_1 := hx176_1
              have hw176_0 := hx176_0
              obtain rfl : ad174 = ad176 := (by injection e176)
              replace hx176_0 := (HB.out.cell (World.block_lt_of_cell? w _ hx176_0)).trans hx176_0
              replace hx176_1 := (HB.out.cell (World.block_lt_of_cell? w _ hx176_1)).trans hx176_1
              replace hx176_2 := (HB.out.cell (World.block_lt_of_cell? w _ hx176_2)).trans hx176_2
              replace hx176_3 := (HB.out.cell (World.block_lt_of_cell? w _ hx176_3)).trans hx176_3
              replace hx176_4 := (HB.out.cell (World.block_lt_of_cell? w _ hx176_4)).trans hx176_4
              replace hx176_5 := (HB.out.cell (World.block_lt_of_cell? w _ hx176_5)).trans hx176_5
              replace hx176_6 := (HB.out.cell (World.block_lt_of_cell? w _ hx176_6)).trans hx176_6
              replace hx176_7 := (HB.out.cell (World.block_lt_of_cell? w _ hx176_7)).trans hx176_7
              have HR176_4 := Aside0.mk hi176_4
              have HC176_4 := Aside0.mk hl176_4
              clear hi176_4 hl176_4
              have HR176_6 := Aside0.mk hi176_6
              have HC176_6 := Aside0.mk hl176_6
              clear hi176_6 hl176_6
              replace p176 := eq_true p176
              replace q176 := eq_true q176
              have p177 : 0 ≤ ((rd T8 x22_2) : Int) := of_decide_eq_true (by first | (with_reducible assumption) | assumption)
              have q177 : (rd T8 x22_2) < (((rd_T36 l0 x22_2).f1).length : Int) := of_decide_eq_true (by first | (with_reducible assumption) | assumption)
              obtain ⟨ad177, e177, hx177_0, hx177_1, hx177_2, hx177_3⟩ := at_T42 HR176_6.out (rd T8 x22_2) p177 q177
              have hw177_3 := hx177_3
              have hw177_2 := hx177_2
              have hw177_1 := hx177_1
              have hw177_0 := hx177_0
              cases e177
              replace hx177_0 := (HB.out.cell (World.block_lt_of_cell? w _ hx177_0)).trans hx177_0
              replace hx177_1 := (HB.out.cell (World.block_lt_of_cell? w _ hx177_1)).trans hx177_1
              replace hx177_2 := (HB.out.cell (World.block_lt_of_cell? w _ hx177_2)).trans hx177_2
              replace hx177_3 := (HB.out.cell (World.block_lt_of_cell? w _ hx177_3)).trans hx177_3
              replace p177 := eq_true p177
              replace q177 := eq_true q177
              refine start_ (n := 20) (S := fun w' => w'.cell? (ad174.add ((x13_1).toNat * 8)) = some (.int .i64 ((rd_T36 l0 x13_1).f0.f0)) ∧ w'.cell? ⟨(ad174.add ((x13_1).toNat * 8)).block, (ad174.add ((x13_1).toNat * 8)).off + 1, none⟩ = some (.int .i64 ((rd_T36 l0 x13_1).f0.f1)) ∧ w'.cell? ⟨(ad174.add ((x13_1).toNat * 8)).block, (ad174.add ((x13_1).toNat * 8)).off + 2, none⟩ = some (.int .i64 ((rd_T36 l0 x13_1).f0.f2)) ∧ w'.cell? ⟨(ad174.add ((x13_1).toNat * 8)).block, (ad174.add ((x13_1).toNat * 8)).off + 3, none⟩ = some (.int .i64 ((rd_T36 l0 x13_1).f0.f3)) ∧ w'.cell? ⟨(ad174.add ((x13_1).toNat * 8)).block, (ad174.add ((x13_1).toNat * 8)).off + 4, none⟩ = some (.slice A174_4 ((rd_T36 l0 x13_1).f0.f4).length c174_4) ∧ w'.cell? ⟨(ad174.add ((x13_1).toNat * 8)).block, (ad174.add ((x13_1).toNat * 8)).off + 5, none⟩ = some (.string ((rd_T36 l0 x13_1).f0.f5)) ∧ w'.cell? ⟨(ad174.add ((x13_1).toNat * 8)).block, (ad174.add ((x13_1).toNat * 8)).off + 6, none⟩ = some (.slice (some ad175) ((rd_T36 l0 x13_1).f1).length c174_6) ∧ w'.cell? ⟨(ad174.add ((x13_1).toNat * 8)).block, (ad174.add ((x13_1).toNat * 8)).off + 7, none⟩ = some (.int .i64 ((rd_T36 l0 x13_1).f2)) ∧ w'.cell? (ad175.add (((rd l1 x13_1)).toNat * 4)) = some (.int .i64 ((rd_T42 ((rd_T36 l0 x13_1).f1) (rd l1 x13_1)).f0.f0)) ∧ w'.cell? ⟨(ad175.add (((rd l1 x13_1)).toNat * 4)).block, (ad175.add (((rd l1 x13_1)).toNat * 4)).off + 1, none⟩ = some (.int .i64 ((rd_T42 ((rd_T36 l0 x13_1).f1) (rd l1 x13_1)).f0.f1)) ∧ w'.cell? ⟨(ad175.add (((rd l1 x13_1)).toNat * 4)).block, (ad175.add (((rd l1 x13_1)).toNat * 4)).off + 2, none⟩ = some (.int .i64 ((rd_T42 ((rd_T36 l0 x13_1).f1) (rd l1 x13_1)).f1.f0)) ∧ w'.cell? ⟨(ad175.add (((rd l1 x13_1)).toNat * 4)).block, (ad175.add (((rd l1 x13_1)).toNat * 4)).off + 3, none⟩ = some (.int .i64 ((rd_T42 ((rd_T36 l0 x13_1).f1) (rd l1 x13_1)).f1.f1)) ∧ w'.cell? (ad174.add ((x22_2).toNat * 8)) = some (.int .i64 ((rd_T36 l0 x22_2).f0.f0)) ∧ w'.cell? ⟨(ad174.add ((x22_2).toNat * 8)).block, (ad174.add ((x22_2).toNat * 8)).off + 1, none⟩ = some (.int .i64 ((rd_T36 l0 x22_2).f0.f1)) ∧ w'.cell? ⟨(ad174.add ((x22_2).toNat * 8)).block, (ad174.add ((x22_2).toNat * 8)).off + 2, none⟩ = some (.int .i64 ((rd_T36 l0 x22_2).f0.f2)) ∧ w'.cell? ⟨(ad174.add ((x22_2).toNat * 8)).block, (ad174.add ((x22_2).toNat * 8)).off + 3, none⟩ = some (.int .i64 ((rd_T36 l0 x22_2).f0.f3)) ∧ w'.cell? ⟨(ad174.add ((x22_2).toNat * 8)).block, (ad174.add ((x22_2).toNat * 8)).off + 4, none⟩ = some (.slice A176_4 ((rd_T36 l0 x22_2).f0.f4).length c176_4) ∧ w'.cell? ⟨(ad174.add ((x22_2).toNat * 8)).block, (ad174.add ((x22_2).toNat * 8)).off + 5, none⟩ = some (.string ((rd_T36 l0 x22_2).f0.f5)) ∧ w'.cell? ⟨(ad174.add ((x22_2).toNat * 8)).block, (ad174.add ((x22_2).toNat * 8)).off + 6, none⟩ = some (.slice (some ad177) ((rd_T36 l0 x22_2).f1).length c176_6) ∧ w'.cell? ⟨(ad174.add ((x22_2).toNat * 8)).block, (ad174.add ((x22_2).toNat * 8)).off + 7, none⟩ = some (.int .i64 ((rd_T36 l0 x22_2).f2)) ∧ w'.cell? (ad177.add (((rd T8 x22_2)).toNat * 4)) = some (.int .i64 ((rd_T42 ((rd_T36 l0 x22_2).f1) (rd T8 x22_2)).f0.f0)) ∧ w'.cell? ⟨(ad177.add (((rd T8 x22_2)).toNat * 4)).block, (ad177.add (((rd T8 x22_2)).toNat * 4)).off + 1, none⟩ = some (.int .i64 ((rd_T42 ((rd_T36 l0 x22_2).f1) (rd T8 x22_2)).f0.f1)) ∧ w'.cell? ⟨(ad177.add (((rd T8 x22_2)).toNat * 4)).block, (ad177.add (((rd T8 x22_2)).toNat * 4)).off + 2, none⟩ = some (.int .i64 ((rd_T42 ((rd_T36 l0 x22_2).f1) (rd T8 x22_2)).f1.f0)) ∧ w'.cell? ⟨(ad177.add (((rd T8 x22_2)).toNat * 4)).block, (ad177.add (((rd T8 x22_2)).toNat * 4)).off + 3, none⟩ = some (.int .i64 ((rd_T42 ((rd_T36 l0 x22_2).f1) (rd T8 x22_2)).f1.f1))) (ds := []) (bA 20 0) (by kernel_rfl) rfl rfl ⟨((HB.out.cell (World.block_lt_of_cell? w _ hw174_0)).trans hw174_0), ((HB.out.cell (World.block_lt_of_cell? w _ hw174_1)).trans hw174_1), ((HB.out.cell (World.block_lt_of_cell? w _ hw174_2)).trans hw174_2), ((HB.out.cell (World.block_lt_of_cell? w _ hw174_3)).trans hw174_3), ((HB.out.cell (World.block_lt_of_cell? w _ hw174_4)).trans hw174_4), ((HB.out.cell (World.block_lt_of_cell? w _ hw174_5)).trans hw174_5), ((HB.out.cell (World.block_lt_of_cell? w _ hw174_6)).trans hw174_6), ((HB.out.cell (World.block_lt_of_cell? w _ hw174_7)).trans hw174_7), ((HB.out.cell (World.block_lt_of_cell? w _ hw175_0)).trans hw175_0), ((HB.out.cell (World.block_lt_of_cell? w _ hw175_1)).trans hw175_1), ((HB.out.cell (World.block_lt_of_cell? w _ hw175_2)).trans hw175_2), ((HB.out.cell (World.block_lt_of_cell? w _ hw175_3)).trans hw175_3), ((HB.out.cell (World.block_lt_of_cell? w _ hw176_0)).trans hw176_0), ((HB.out.cell (World.block_lt_of_cell? w _ hw176_1)).trans hw176_1), ((HB.out.cell (World.block_lt_of_cell? w _ hw176_2)).trans hw176_2), ((HB.out.cell (World.block_lt_of_cell? w _ hw176_3)).trans hw176_3), ((HB.out.cell (World.block_lt_of_cell? w _ hw176_4)).trans hw176_4), ((HB.out.cell (World.block_lt_of_cell? w _ hw176_5)).trans hw176_5), ((HB.out.cell (World.block_lt_of_cell? w _ hw176_6)).trans hw176_6), ((HB.out.cell (World.block_lt_of_cell? w _ hw176_7)).trans hw176_7), ((HB.out.cell (World.block_lt_of_cell? w _ hw177_0)).trans hw177_0), ((HB.out.cell (World.block_lt_of_cell? w _ hw177_1)).trans hw177_1), ((HB.out.cell (World.block_lt_of_cell? w _ hw177_2)).trans hw177_2), ((HB.out.cell (World.block_lt_of_cell? w _ hw177_3)).trans hw177_3)⟩ (fun hHeld => ?_); refine with_tabW terrlaw5_possible.tab8 terrlaw5_possible.bits8 (fun HT_ HW_ => ?_)
              generalize wc.drew = w29 at HB HR174_4 HR174_6 HR176_4 HR176_6 hx174_0 hx174_1 hx174_2 hx174_3 hx174_4 hx174_5 hx174_6 hx174_7 hx175_0 hx175_1 hx175_2 hx175_3 hx176_0 hx176_1 hx176_2 hx176_3 hx176_4 hx176_5 hx176_6 hx176_7 hx177_0 hx177_1 hx177_2 hx177_3 hHeld ⊢
              refine pure_ (i := 0) (N := some 33) (v := ?_) (a' := ?_) (bA 20 1) rfl rfl (any_of HT_.out (by kernel_rfl)) (fun _ _ _ h => h) (Or.inl ⟨by rfl, ?_⟩) ?_ ?_
              rotate_left
              · intro w'
                go_simp
                with_reducible rfl
              rotate_left
              · simp only [Act.put, List.setIfInBounds_toArray, List.set_cons_zero, List.set_cons_succ, i64_w, i32_w]
                rfl
              refine pure_ (i := 1) (N := some 34) (v := ?_) (a' := ?_) (bA 20 3) rfl rfl (any_of HT_.out (by kernel_rfl)) (fun _ _ _ h => h) (Or.inl ⟨by rfl, ?_⟩) ?_ ?_
              rotate_left
              · intro w'
                go_simp
                with_reducible rfl
              rotate_left
              · simp only [Act.put, List.setIfInBounds_toArray, List.set_cons_zero, List.set_cons_succ, i64_w, i32_w]
                rfl
              refine pure_ (i := 2) (N := some 35) (v := ?_) (a' := ?_) (bA 20 7) rfl rfl (any_of HT_.out (by kernel_rfl)) (fun _ _ _ h => h) (Or.inl ⟨by rfl, ?_⟩) ?_ ?_
              rotate_left
              · intro w'
                go_simp
                with_reducible rfl
              rotate_left
              · simp only [Act.put, List.setIfInBounds_toArray, List.set_cons_zero, List.set_cons_succ, i64_w, i32_w]
                rfl
              refine pure_ (i := 3) (N := some 36) (v := ?_) (a' := ?_) (bA 20 15) rfl rfl (any_of HT_.out (by kernel_rfl)) (fun _ _ _ h => h) (Or.inl ⟨by rfl, ?_⟩) ?_ ?_
              rotate_left
              · intro w'
                go_simp
                with_reducible rfl
              rotate_left
              · simp only [Act.put, List.setIfInBounds_toArray, List.set_cons_zero, List.set_cons_succ, i64_w, i32_w]
                rfl
              refine pure_ (i := 5) (N := some 38) (v := ?_) (a' := ?_) (bA 20 47) rfl rfl (any_of HT_.out (by kernel_rfl)) (fun _ _ _ h => h) (Or.inl ⟨by rfl, ?_⟩) ?_ ?_
              rotate_left
              · intro w'
                go_simp
                with_reducible rfl
              rotate_left
              · simp only [Act.put, List.setIfInBounds_toArray, List.set_cons_zero, List.set_cons_succ, i64_w, i32_w]
                rfl
              refine pure_ (i := 8) (N := some 41) (v := ?_) (a' := ?_) (bA 20 303) rfl rfl (any_of HT_.out (by kernel_rfl)) (fun _ _ _ h => h) (Or.inl ⟨by rfl, ?_⟩) ?_ ?_
              rotate_left
              · intro w'
                go_simp
                with_reducible rfl
              rotate_left
              · simp only [Act.put, List.setIfInBounds_toArray, List.set_cons_zero, List.set_cons_succ, i64_w, i32_w]
                rfl
              refine pure_ (i := 9) (N := some 42) (v := ?_) (a' := ?_) (bA 20 815) rfl rfl (any_of HT_.out (by kernel_rfl)) (fun _ _ _ h => h) (Or.inl ⟨by rfl, ?_⟩) ?_ ?_
              rotate_left
              · intro w'
                go_simp
                with_reducible rfl
              rotate_left
              · simp only [Act.put, List.setIfInBounds_toArray, List.set_cons_zero, List.set_cons_succ, i64_w, i32_w]
                rfl
              refine pure_ (i := 10) (N := some 43) (v := ?_) (a' := ?_) (bA 20 1839) rfl rfl (any_of HT_.out (by kernel_rfl)) (fun _ _ _ h => h) (Or.inl ⟨by rfl, ?_⟩) ?_ ?_
              rotate_left
              · intro w'
                go_simp
                with_reducible rfl
              rotate_left
              · simp only [Act.put, List.setIfInBounds_toArray, List.set_cons_zero, List.set_cons_succ, i64_w, i32_w]
                rfl
              refine pure_ (i := 11) (N := some 44) (v := ?_) (a' := ?_) (bA 20 3887) rfl rfl (any_of HT_.out (by kernel_rfl)) (fun _ _ _ h => h) (Or.inl ⟨by rfl, ?_⟩) ?_ ?_
              rotate_left
              · intro w'
                go_simp
                with_reducible rfl
              rotate_left
              · simp only [Act.put, List.setIfInBounds_toArray, List.set_cons_zero, List.set_cons_succ, i64_w, i32_w]
                rfl
              refine pure_ (i := 13) (N := some 46) (v := ?_) (a' := ?_) (bA 20 12079) rfl rfl (any_of HT_.out (by kernel_rfl)) (fun _ _ _ h => h) (Or.inl ⟨by rfl, ?_⟩) ?_ ?_
              rotate_left
              · intro w'
                go_simp
                with_reducible rfl
              rotate_left
              · simp only [Act.put, List.setIfInBounds_toArray, List.set_cons_zero, List.set_cons_succ, i64_w, i32_w]
                rfl
              refine take_ (i := 4) (N := some 37) (v := ?_) (a' := ?_) (bA 20 12095) rfl rfl (take_ofW HT_.out HW_.out (by kernel_rfl)) (fun _ _ _ h => h) (Or.inl ⟨by rfl, ?_⟩) hHeld ?_ ?_
              rotate_left
              · rintro w' ⟨s0, s1, s2, s3, s4, s5, s6, s7, s8, s9, s10, s11, s12, s13, s14, s15, s16, s17, s18, s19, s20, s21, s22, s23⟩
                go_simp
                with_reducible rfl
              rotate_left
              · simp only [Act.put, List.setIfInBounds_toArray, List.set_cons_zero, List.set_cons_succ, i64_w, i32_w]
                rfl
              refine pure_ (i := 6) (N := some 39) (v := ?_) (a' := ?_) (bA 20 12159) rfl rfl (any_of HT_.out (by kernel_rfl)) (fun _ _ _ h => h) (Or.inl ⟨by rfl, ?_⟩) ?_ ?_
              rotate_left
              · intro w'
                go_simp
                with_reducible rfl
              rotate_left
              · simp only [Act.put, List.setIfInBounds_toArray, List.set_cons_zero, List.set_cons_succ, i64_w, i32_w]
                rfl
              refine take_ (i := 7) (N := some 40) (v := ?_) (a' := ?_) (bA 20 12287) rfl rfl (take_ofW HT_.out HW_.out (by kernel_rfl)) (fun _ _ _ h => h) (Or.inl ⟨by rfl, ?_⟩) hHeld ?_ ?_
              rotate_left
              · rintro w' ⟨s0, s1, s2, s3, s4, s5, s6, s7, s8, s9, s10, s11, s12, s13, s14, s15, s16, s17, s18, s19, s20, s21, s22, s23⟩
                go_simp
                with_reducible rfl
              rotate_left
              · simp only [Act.put, List.setIfInBounds_toArray, List.set_cons_zero, List.set_cons_succ, i64_w, i32_w]
                rfl
              refine take_ (i := 12) (N := some 45) (v := ?_) (a' := ?_) (bA 20 16383) rfl rfl (take_ofW HT_.out HW_.out (by kernel_rfl)) (fun _ _ _ h => h) (Or.inl ⟨by rfl, ?_⟩) hHeld ?_ ?_
              rotate_left
              · rintro w' ⟨s0, s1, s2, s3, s4, s5, s6, s7, s8, s9, s10, s11, s12, s13, s14, s15, s16, s17, s18, s19, s20, s21, s22, s23⟩
                go_simp
                with_reducible rfl
              rotate_left
              · simp only [Act.put, List.setIfInBounds_toArray, List.set_cons_zero, List.set_cons_succ, i64_w, i32_w]
                rfl
              refine pure_ (i := 14) (N := some 47) (v := ?_) (a' := ?_) (bA 20 32767) rfl rfl (any_of HT_.out (by kernel_rfl)) (fun _ _ _ h => h) (Or.inl ⟨by rfl, ?_⟩) ?_ ?_
              rotate_left
              · intro w'
                go_simp
                with_reducible rfl
              rotate_left
              · simp only [Act.put, List.setIfInBounds_toArray, List.set_cons_zero, List.set_cons_succ, i64_w, i32_w]
                rfl
              refine take_ (i := 15) (N := some 48) (v := ?_) (a' := ?_) (bA 20 65535) rfl rfl (take_ofW HT_.out HW_.out (by kernel_rfl)) (fun _ _ _ h => h) (Or.inl ⟨by rfl, ?_⟩) hHeld ?_ ?_
              rotate_left
              · rintro w' ⟨s0, s1, s2, s3, s4, s5, s6, s7, s8, s9, s10, s11, s12, s13, s14, s15, s16, s17, s18, s19, s20, s21, s22, s23⟩
                go_simp
                with_reducible rfl
              rotate_left
              · simp only [Act.put, List.setIfInBounds_toArray, List.set_cons_zero, List.set_cons_succ, i64_w, i32_w]
                rfl
              refine join_ (σ := Nat × Nat) 2 (bA 20 262143) (fun s_ => [(9, .pointer (some ⟨s_.1, 0, none⟩)), (10, .pointer (some ⟨s_.2, 0, none⟩))]) (fun s_ w' => (w'.cell? (ad174.add ((x13_1).toNat * 8)) = some (.int .i64 ((rd_T36 l0 x13_1).f0.f0)) ∧ w'.cell? ⟨(ad174.add ((x13_1).toNat * 8)).block, (ad174.add ((x13_1).toNat * 8)).off + 1, none⟩ = some (.int .i64 ((rd_T36 l0 x13_1).f0.f1)) ∧ w'.cell? ⟨(ad174.add ((x13_1).toNat * 8)).block, (ad174.add ((x13_1).toNat * 8)).off + 2, none⟩ = some (.int .i64 ((rd_T36 l0 x13_1).f0.f2)) ∧ w'.cell? ⟨(ad174.add ((x13_1).toNat * 8)).block, (ad174.add ((x13_1).toNat * 8)).off + 3, none⟩ = some (.int .i64 ((rd_T36 l0 x13_1).f0.f3)) ∧ w'.cell? ⟨(ad174.add ((x13_1).toNat * 8)).block, (ad174.add ((x13_1).toNat * 8)).off + 4, none⟩ = some (.slice A174_4 ((rd_T36 l0 x13_1).f0.f4).length c174_4) ∧ w'.cell? ⟨(ad174.add ((x13_1).toNat * 8)).block, (ad174.add ((x13_1).toNat * 8)).off + 5, none⟩ = some (.string ((rd_T36 l0 x13_1).f0.f5)) ∧ w'.cell? ⟨(ad174.add ((x13_1).toNat * 8)).block, (ad174.add ((x13_1).toNat * 8)).off + 6, none⟩ = some (.slice (some ad175) ((rd_T36 l0 x13_1).f1).length c174_6) ∧ w'.cell? ⟨(ad174.add ((x13_1).toNat * 8)).block, (ad174.add ((x13_1).toNat * 8)).off + 7, none⟩ = some (.int .i64 ((rd_T36 l0 x13_1).f2)) ∧ w'.cell? (ad175.add (((rd l1 x13_1)).toNat * 4)) = some (.int .i64 ((rd_T42 ((rd_T36 l0 x13_1).f1) (rd l1 x13_1)).f0.f0)) ∧ w'.cell? ⟨(ad175.add (((rd l1 x13_1)).toNat * 4)).block, (ad175.add (((rd l1 x13_1)).toNat * 4)).off + 1, none⟩ = some (.int .i64 ((rd_T42 ((rd_T36 l0 x13_1).f1) (rd l1 x13_1)).f0.f1)) ∧ w'.cell? ⟨(ad175.add (((rd l1 x13_1)).toNat * 4)).block, (ad175.add (((rd l1 x13_1)).toNat * 4)).off + 2, none⟩ = some (.int .i64 ((rd_T42 ((rd_T36 l0 x13_1).f1) (rd l1 x13_1)).f1.f0)) ∧ w'.cell? ⟨(ad175.add (((rd l1 x13_1)).toNat * 4)).block, (ad175.add (((rd l1 x13_1)).toNat * 4)).off + 3, none⟩ = some (.int .i64 ((rd_T42 ((rd_T36 l0 x13_1).f1) (rd l1 x13_1)).f1.f1)) ∧ w'.cell? (ad174.add ((x22_2).toNat * 8)) = some (.int .i64 ((rd_T36 l0 x22_2).f0.f0)) ∧ w'.cell? ⟨(ad174.add ((x22_2).toNat * 8)).block, (ad174.add ((x22_2).toNat * 8)).off + 1, none⟩ = some (.int .i64 ((rd_T36 l0 x22_2).f0.f1)) ∧ w'.cell? ⟨(ad174.add ((x22_2).toNat * 8)).block, (ad174.add ((x22_2).toNat * 8)).off + 2, none⟩ = some (.int .i64 ((rd_T36 l0 x22_2).f0.f2)) ∧ w'.cell? ⟨(ad174.add ((x22_2).toNat * 8)).block, (ad174.add ((x22_2).toNat * 8)).off + 3, none⟩ = some (.int .i64 ((rd_T36 l0 x22_2).f0.f3)) ∧ w'.cell? ⟨(ad174.add ((x22_2).toNat * 8)).block, (ad174.add ((x22_2).toNat * 8)).off + 4, none⟩ = some (.slice A176_4 ((rd_T36 l0 x22_2).f0.f4).length c176_4) ∧ w'.cell? ⟨(ad174.add ((x22_2).toNat * 8)).block, (ad174.add ((x22_2).toNat * 8)).off + 5, none⟩ = some (.string ((rd_T36 l0 x22_2).f0.f5)) ∧ w'.cell? ⟨(ad174.add ((x22_2).toNat * 8)).block, (ad174.add ((x22_2).toNat * 8)).off + 6, none⟩ = some (.slice (some ad177) ((rd_T36 l0 x22_2).f1).length c176_6) ∧ w'.cell? ⟨(ad174.add ((x22_2).toNat * 8)).block, (ad174.add ((x22_2).toNat * 8)).off + 7, none⟩ = some (.int .i64 ((rd_T36 l0 x22_2).f2)) ∧ w'.cell? (ad177.add (((rd T8 x22_2)).toNat * 4)) = some (.int .i64 ((rd_T42 ((rd_T36 l0 x22_2).f1) (rd T8 x22_2)).f0.f0)) ∧ w'.cell? ⟨(ad177.add (((rd T8 x22_2)).toNat * 4)).block, (ad177.add (((rd T8 x22_2)).toNat * 4)).off + 1, none⟩ = some (.int .i64 ((rd_T42 ((rd_T36 l0 x22_2).f1) (rd T8 x22_2)).f0.f1)) ∧ w'.cell? ⟨(ad177.add (((rd T8 x22_2)).toNat * 4)).block, (ad177.add (((rd T8 x22_2)).toNat * 4)).off + 2, none⟩ = some (.int .i64 ((rd_T42 ((rd_T36 l0 x22_2).f1) (rd T8 x22_2)).f1.f0)) ∧ w'.cell? ⟨(ad177.add (((rd T8 x22_2)).toNat * 4)).block, (ad177.add (((rd T8 x22_2)).toNat * 4)).off + 3, none⟩ = some (.int .i64 ((rd_T42 ((rd_T36 l0 x22_2).f1) (rd T8 x22_2)).f1.f1))) ∧ (w'.heap[s_.1]? = some (.cells #[.int .i64 0, .int .i64 0, .int .i64 0, .int .i64 0] 42 (0, 0))) ∧ (w'.heap[s_.2]? = some (.cells #[.int .i64 0, .int .i64 0, .int .i64 0, .int .i64 0] 42 (0, 0))) ∧ (w.heap.size ≤ s_.1) ∧ (w.heap.size ≤ s_.1) ∧ (s_.2 ≠ s_.1) ∧ (s_.1 ≠ s_.2) ∧ (w.heap.size ≤ s_.2) ∧ (w.heap.size ≤ s_.2) ∧ (Below w.heap.size w w')) ?_ ?_
              rotate_left
              · intro hCont
                refine two_ (i := 16) (j := 17) (Ni := some 9) (Nj := some 10) (bA 20 131071) (bA 20 196607) rfl rfl rfl rfl (two_of HT_.out (by kernel_rfl)) (by decide) (by decide) (fun K hK => ?_) (fun K hK => ?_)
                · skip
                  refine box_step ?hg (N := 9) ?hd (cs := #[.int .i64 0, .int .i64 0, .int .i64 0, .int .i64 0]) (t := 42) ?hr ?_; (case hd => rfl); (case hg => rfl); (case hr => first | (go_simp; done) | (go_simp; rfl))
                  intro gb178 hg w30 hbox hb
                  have BK178 := Aside0.mk (hbox)
                  have GW178 := Aside0.mk ((by rw [hg]; exact (below_size (by repeat (first | (with_reducible first | exact HB.out | apply below_alloc | apply pw_below_drewN | apply below_drew1) | exact HB.out))) : w.heap.size ≤ gb178))
                  have GE178 := Aside0.mk ((by rw [hg]; exact (below_size (by repeat (first | (with_reducible first | exact HB.out | apply below_alloc | apply pw_below_drewN | apply below_drew1) | exact HB.out))) : w.heap.size ≤ gb178))
                  replace HB := Aside0.mk (below_step (by repeat (first | (with_reducible first | exact HB.out | apply below_alloc | apply pw_below_drewN | apply below_drew1) | exact HB.out)) hb)
                  clear hb hbox hg
                  refine hK.out _ _ ⟨((HB.out.cell (World.block_lt_of_cell? w _ hw174_0)).trans hw174_0), ((HB.out.cell (World.block_lt_of_cell? w _ hw174_1)).trans hw174_1), ((HB.out.cell (World.block_lt_of_cell? w _ hw174_2)).trans hw174_2), ((HB.out.cell (World.block_lt_of_cell? w _ hw174_3)).trans hw174_3), ((HB.out.cell (World.block_lt_of_cell? w _ hw174_4)).trans hw174_4), ((HB.out.cell (World.block_lt_of_cell? w _ hw174_5)).trans hw174_5), ((HB.out.cell (World.block_lt_of_cell? w _ hw174_6)).trans hw174_6), ((HB.out.cell (World.block_lt_of_cell? w _ hw174_7)).trans hw174_7), ((HB.out.cell (World.block_lt_of_cell? w _ hw175_0)).trans hw175_0), ((HB.out.cell (World.block_lt_of_cell? w _ hw175_1)).trans hw175_1), ((HB.out.cell (World.block_lt_of_cell? w _ hw175_2)).trans hw175_2), ((HB.out.cell (World.block_lt_of_cell? w _ hw175_3)).trans hw175_3), ((HB.out.cell (World.block_lt_of_cell? w _ hw176_0)).trans hw176_0), ((HB.out.cell (World.block_lt_of_cell? w _ hw176_1)).trans hw176_1), ((HB.out.cell (World.block_lt_of_cell? w _ hw176_2)).trans hw176_2), ((HB.out.cell (World.block_lt_of_cell? w _ hw176_3)).trans hw176_3), ((HB.out.cell (World.block_lt_of_cell? w _ hw176_4)).trans hw176_4), ((HB.out.cell (World.block_lt_of_cell? w _ hw176_5)).trans hw176_5), ((HB.out.cell (World.block_lt_of_cell? w _ hw176_6)).trans hw176_6), ((HB.out.cell (World.block_lt_of_cell? w _ hw176_7)).trans hw176_7), ((HB.out.cell (World.block_lt_of_cell? w _ hw177_0)).trans hw177_0), ((HB.out.cell (World.block_lt_of_cell? w _ hw177_1)).trans hw177_1), ((HB.out.cell (World.block_lt_of_cell? w _ hw177_2)).trans hw177_2), ((HB.out.cell (World.block_lt_of_cell? w _ hw177_3)).trans hw177_3)⟩ (fun hHeld => ?_)
                  clear hK K
                  refine norm_ (a' := ?_) ?_ ?_
                  rotate_left
                  · show Act.put _ (some 9) _ = _
                    simp only [Act.put, List.setIfInBounds_toArray, List.set_cons_zero, List.set_cons_succ, i64_w, i32_w]
                    rfl
                  refine one_ (i := 17) (N := some 10) (bA 20 262143) rfl rfl (one_of HT_.out (by kernel_rfl)) (by decide) (fun K hK => ?_)
                  refine box_step ?hg (N := 10) ?hd (cs := #[.int .i64 0, .int .i64 0, .int .i64 0, .int .i64 0]) (t := 42) ?hr ?_; (case hd => rfl); (case hg => rfl); (case hr => first | (go_simp; done) | (go_simp; rfl))
                  intro gb179 hg w31 hbox hb
                  have BK179 := Aside0.mk (hbox)
                  have GW179 := Aside0.mk ((by rw [hg]; exact (below_size (by repeat (first | (with_reducible first | exact HB.out | apply below_alloc | apply pw_below_drewN | apply below_drew1 | refine below_set ?_ GE178.out) | exact HB.out))) : w.heap.size ≤ gb179))
                  have GE179 := Aside0.mk ((by rw [hg]; exact (below_size (by repeat (first | (with_reducible first | exact HB.out | apply below_alloc | apply pw_below_drewN | apply below_drew1 | refine below_set ?_ GE178.out) | exact HB.out))) : w.heap.size ≤ gb179))
                  have NB178_179 := Aside0.mk ((by rw [hg]; exact Nat.ne_of_lt (blk_lt (g := gb178) (o := .cells #[.int .i64 0, .int .i64 0, .int .i64 0, .int .i64 0] 42 (0, 0)) (by (with_reducible repeat (first | refine blk_drewN ?_ _ | refine blk_drew ?_ | refine blk_alloc ?_ _)); exact BK178.out)) : gb178 ≠ gb179))
                  have NB179_178 := Aside0.mk ((by rw [hg]; exact Nat.ne_of_gt (blk_lt (g := gb178) (o := .cells #[.int .i64 0, .int .i64 0, .int .i64 0, .int .i64 0] 42 (0, 0)) (by (with_reducible repeat (first | refine blk_drewN ?_ _ | refine blk_drew ?_ | refine blk_alloc ?_ _)); exact BK178.out)) : gb179 ≠ gb178))
                  replace BK178 := Aside0.mk (blk_below (g := gb178) (o := .cells #[.int .i64 0, .int .i64 0, .int .i64 0, .int .i64 0] 42 (0, 0)) (by (with_reducible repeat (first | refine blk_drewN ?_ _ | refine blk_drew ?_ | refine blk_alloc ?_ _)); exact BK178.out) hb)
                  replace HB := Aside0.mk (below_step (by repeat (first | (with_reducible first | exact HB.out | apply below_alloc | apply pw_below_drewN | apply below_drew1 | refine below_set ?_ GE178.out) | exact HB.out)) hb)
                  clear hb hbox hg
                  refine hK.out _ _ ⟨((HB.out.cell (World.block_lt_of_cell? w _ hw174_0)).trans hw174_0), ((HB.out.cell (World.block_lt_of_cell? w _ hw174_1)).trans hw174_1), ((HB.out.cell (World.block_lt_of_cell? w _ hw174_2)).trans hw174_2), ((HB.out.cell (World.block_lt_of_cell? w _ hw174_3)).trans hw174_3), ((HB.out.cell (World.block_lt_of_cell? w _ hw174_4)).trans hw174_4), ((HB.out.cell (World.block_lt_of_cell? w _ hw174_5)).trans hw174_5), ((HB.out.cell (World.block_lt_of_cell? w _ hw174_6)).trans hw174_6), ((HB.out.cell (World.block_lt_of_cell? w _ hw174_7)).trans hw174_7), ((HB.out.cell (World.block_lt_of_cell? w _ hw175_0)).trans hw175_0), ((HB.out.cell (World.block_lt_of_cell? w _ hw175_1)).trans hw175_1), ((HB.out.cell (World.block_lt_of_cell? w _ hw175_2)).trans hw175_2), ((HB.out.cell (World.block_lt_of_cell? w _ hw175_3)).trans hw175_3), ((HB.out.cell (World.block_lt_of_cell? w _ hw176_0)).trans hw176_0), ((HB.out.cell (World.block_lt_of_cell? w _ hw176_1)).trans hw176_1), ((HB.out.cell (World.block_lt_of_cell? w _ hw176_2)).trans hw176_2), ((HB.out.cell (World.block_lt_of_cell? w _ hw176_3)).trans hw176_3), ((HB.out.cell (World.block_lt_of_cell? w _ hw176_4)).trans hw176_4), ((HB.out.cell (World.block_lt_of_cell? w _ hw176_5)).trans hw176_5), ((HB.out.cell (World.block_lt_of_cell? w _ hw176_6)).trans hw176_6), ((HB.out.cell (World.block_lt_of_cell? w _ hw176_7)).trans hw176_7), ((HB.out.cell (World.block_lt_of_cell? w _ hw177_0)).trans hw177_0), ((HB.out.cell (World.block_lt_of_cell? w _ hw177_1)).trans hw177_1), ((HB.out.cell (World.block_lt_of_cell? w _ hw177_2)).trans hw177_2), ((HB.out.cell (World.block_lt_of_cell? w _ hw177_3)).trans hw177_3)⟩ (fun hHeld => ?_)
                  clear hK K
                  refine norm_ (a' := ?_) ?_ ?_
                  rotate_left
                  · show Act.put _ (some 10) _ = _
                    simp only [Act.put, List.setIfInBounds_toArray, List.set_cons_zero, List.set_cons_succ, i64_w, i32_w]
                    rfl
                  exact norm_ (by simp only [putAll, Act.put, List.setIfInBounds_toArray, List.set_cons_zero, List.set_cons_succ]) (hCont (gb178, gb179) _ ⟨hHeld, (by (with_reducible repeat (first | refine blk_drewN ?_ _ | refine blk_drew ?_ | refine blk_alloc ?_ _)); exact BK178.out), (by (with_reducible repeat (first | refine blk_drewN ?_ _ | refine blk_drew ?_ | refine blk_alloc ?_ _)); exact BK179.out), GW178.out, GE178.out, NB179_178.out, NB178_179.out, GW179.out, GE179.out, (by repeat (first | (with_reducible first | exact HB.out | apply below_alloc | apply pw_below_drewN | apply below_drew1 | refine below_set ?_ GE178.out | refine below_set ?_ GE179.out) | exact HB.out))⟩)
                · skip
                  refine box_step ?hg (N := 10) ?hd (cs := #[.int .i64 0, .int .i64 0, .int .i64 0, .int .i64 0]) (t := 42) ?hr ?_; (case hd => rfl); (case hg => rfl); (case hr => first | (go_simp; done) | (go_simp; rfl))
                  intro gb179 hg w30 hbox hb
                  have BK179 := Aside0.mk (hbox)
                  have GW179 := Aside0.mk ((by rw [hg]; exact (below_size (by repeat (first | (with_reducible first | exact HB.out | apply below_alloc | apply pw_below_drewN | apply below_drew1) | exact HB.out))) : w.heap.size ≤ gb179))
                  have GE179 := Aside0.mk ((by rw [hg]; exact (below_size (by repeat (first | (with_reducible first | exact HB.out | apply below_alloc | apply pw_below_drewN | apply below_drew1) | exact HB.out))) : w.heap.size ≤ gb179))
                  replace HB := Aside0.mk (below_step (by repeat (first | (with_reducible first | exact HB.out | apply below_alloc | apply pw_below_drewN | apply below_drew1) | exact HB.out)) hb)
                  clear hb hbox hg
                  refine hK.out _ _ ⟨((HB.out.cell (World.block_lt_of_cell? w _ hw174_0)).trans hw174_0), ((HB.out.cell (World.block_lt_of_cell? w _ hw174_1)).trans hw174_1), ((HB.out.cell (World.block_lt_of_cell? w _ hw174_2)).trans hw174_2), ((HB.out.cell (World.block_lt_of_cell? w _ hw174_3)).trans hw174_3), ((HB.out.cell (World.block_lt_of_cell? w _ hw174_4)).trans hw174_4), ((HB.out.cell (World.block_lt_of_cell? w _ hw174_5)).trans hw174_5), ((HB.out.cell (World.block_lt_of_cell? w _ hw174_6)).trans hw174_6), ((HB.out.cell (World.block_lt_of_cell? w _ hw174_7)).trans hw174_7), ((HB.out.cell (World.block_lt_of_cell? w _ hw175_0)).trans hw175_0), ((HB.out.cell (World.block_lt_of_cell? w _ hw175_1)).trans hw175_1), ((HB.out.cell (World.block_lt_of_cell? w _ hw175_2)).trans hw175_2), ((HB.out.cell (World.block_lt_of_cell? w _ hw175_3)).trans hw175_3), ((HB.out.cell (World.block_lt_of_cell? w _ hw176_0)).trans hw176_0), ((HB.out.cell (World.block_lt_of_cell? w _ hw176_1)).trans hw176_1), ((HB.out.cell (World.block_lt_of_cell? w _ hw176_2)).trans hw176_2), ((HB.out.cell (World.block_lt_of_cell? w _ hw176_3)).trans hw176_3), ((HB.out.cell (World.block_lt_of_cell? w _ hw176_4)).trans hw176_4), ((HB.out.cell (World.block_lt_of_cell? w _ hw176_5)).trans hw176_5), ((HB.out.cell (World.block_lt_of_cell? w _ hw176_6)).trans hw176_6), ((HB.out.cell (World.block_lt_of_cell? w _ hw176_7)).trans hw176_7), ((HB.out.cell (World.block_lt_of_cell? w _ hw177_0)).trans hw177_0), ((HB.out.cell (World.block_lt_of_cell? w _ hw177_1)).trans hw177_1), ((HB.out.cell (World.block_lt_of_cell? w _ hw177_2)).trans hw177_2), ((HB.out.cell (World.block_lt_of_cell? w _ hw177_3)).trans hw177_3)⟩ (fun hHeld => ?_)
                  clear hK K
                  refine norm_ (a' := ?_) ?_ ?_
                  rotate_left
                  · show Act.put _ (some 10) _ = _
                    simp only [Act.put, List.setIfInBounds_toArray, List.set_cons_zero, List.set_cons_succ, i64_w, i32_w]
                    rfl
                  refine one_ (i := 16) (N := some 9) (bA 20 262143) rfl rfl (one_of HT_.out (by kernel_rfl)) (by decide) (fun K hK => ?_)
                  refine box_step ?hg (N := 9) ?hd (cs := #[.int .i64 0, .int .i64 0, .int .i64 0, .int .i64 0]) (t := 42) ?hr ?_; (case hd => rfl); (case hg => rfl); (case hr => first | (go_simp; done) | (go_simp; rfl))
                  intro gb178 hg w31 hbox hb
                  have BK178 := Aside0.mk (hbox)
                  have GW178 := Aside0.mk ((by rw [hg]; exact (below_size (by repeat (first | (with_reducible first | exact HB.out | apply below_alloc | apply pw_below_drewN | apply below_drew1 | refine below_set ?_ GE179.out) | exact HB.out))) : w.heap.size ≤ gb178))
                  have GE178 := Aside0.mk ((by rw [hg]; exact (below_size (by repeat (first | (with_reducible first | exact HB.out | apply below_alloc | apply pw_below_drewN | apply below_drew1 | refine below_set ?_ GE179.out) | exact HB.out))) : w.heap.size ≤ gb178))
                  have NB179_178 := Aside0.mk ((by rw [hg]; exact Nat.ne_of_lt (blk_lt (g := gb179) (o := .cells #[.int .i64 0, .int .i64 0, .int .i64 0, .int .i64 0] 42 (0, 0)) (by (with_reducible repeat (first | refine blk_drewN ?_ _ | refine blk_drew ?_ | refine blk_alloc ?_ _)); exact BK179.out)) : gb179 ≠ gb178))
                  have NB178_179 := Aside0.mk ((by rw [hg]; exact Nat.ne_of_gt (blk_lt (g := gb179) (o := .cells #[.int .i64 0, .int .i64 0, .int .i64 0, .int .i64 0] 42 (0, 0)) (by (with_reducible repeat (first | refine blk_drewN ?_ _ | refine blk_drew ?_ | refine blk_alloc ?_ _)); exact BK179.out)) : gb178 ≠ gb179))
                  replace BK179 := Aside0.mk (blk_below (g := gb179) (o := .cells #[.int .i64 0, .int .i64 0, .int .i64 0, .int .i64 0] 42 (0, 0)) (by (with_reducible repeat (first | refine blk_drewN ?_ _ | refine blk_drew ?_ | refine blk_alloc ?_ _)); exact BK179.out) hb)
                  replace HB := Aside0.mk (below_step (by repeat (first | (with_reducible first | exact HB.out | apply below_alloc | apply pw_below_drewN | apply below_drew1 | refine below_set ?_ GE179.out) | exact HB.out)) hb)
                  clear hb hbox hg
                  refine hK.out _ _ ⟨((HB.out.cell (World.block_lt_of_cell? w _ hw174_0)).trans hw174_0), ((HB.out.cell (World.block_lt_of_cell? w _ hw174_1)).trans hw174_1), ((HB.out.cell (World.block_lt_of_cell? w _ hw174_2)).trans hw174_2), ((HB.out.cell (World.block_lt_of_cell? w _ hw174_3)).trans hw174_3), ((HB.out.cell (World.block_lt_of_cell? w _ hw174_4)).trans hw174_4), ((HB.out.cell (World.block_lt_of_cell? w _ hw174_5)).trans hw174_5), ((HB.out.cell (World.block_lt_of_cell? w _ hw174_6)).trans hw174_6), ((HB.out.cell (World.block_lt_of_cell? w _ hw174_7)).trans hw174_7), ((HB.out.cell (World.block_lt_of_cell? w _ hw175_0)).trans hw175_0), ((HB.out.cell (World.block_lt_of_cell? w _ hw175_1)).trans hw175_1), ((HB.out.cell (World.block_lt_of_cell? w _ hw175_2)).trans hw175_2), ((HB.out.cell (World.block_lt_of_cell? w _ hw175_3)).trans hw175_3), ((HB.out.cell (World.block_lt_of_cell? w _ hw176_0)).trans hw176_0), ((HB.out.cell (World.block_lt_of_cell? w _ hw176_1)).trans hw176_1), ((HB.out.cell (World.block_lt_of_cell? w _ hw176_2)).trans hw176_2), ((HB.out.cell (World.block_lt_of_cell? w _ hw176_3)).trans hw176_3), ((HB.out.cell (World.block_lt_of_cell? w _ hw176_4)).trans hw176_4), ((HB.out.cell (World.block_lt_of_cell? w _ hw176_5)).trans hw176_5), ((HB.out.cell (World.block_lt_of_cell? w _ hw176_6)).trans hw176_6), ((HB.out.cell (World.block_lt_of_cell? w _ hw176_7)).trans hw176_7), ((HB.out.cell (World.block_lt_of_cell? w _ hw177_0)).trans hw177_0), ((HB.out.cell (World.block_lt_of_cell? w _ hw177_1)).trans hw177_1), ((HB.out.cell (World.block_lt_of_cell? w _ hw177_2)).trans hw177_2), ((HB.out.cell (World.block_lt_of_cell? w _ hw177_3)).trans hw177_3)⟩ (fun hHeld => ?_)
                  clear hK K
                  refine norm_ (a' := ?_) ?_ ?_
                  rotate_left
                  · show Act.put _ (some 9) _ = _
                    simp only [Act.put, List.setIfInBounds_toArray, List.set_cons_zero, List.set_cons_succ, i64_w, i32_w]
                    rfl
                  exact norm_ (by simp only [putAll, Act.put, List.setIfInBounds_toArray, List.set_cons_zero, List.set_cons_succ]) (hCont (gb178, gb179) _ ⟨hHeld, (by (with_reducible repeat (first | refine blk_drewN ?_ _ | refine blk_drew ?_ | refine blk_alloc ?_ _)); exact BK178.out), (by (with_reducible repeat (first | refine blk_drewN ?_ _ | refine blk_drew ?_ | refine blk_alloc ?_ _)); exact BK179.out), GW178.out, GE178.out, NB179_178.out, NB178_179.out, GW179.out, GE179.out, (by repeat (first | (with_reducible first | exact HB.out | apply below_alloc | apply pw_below_drewN | apply below_drew1 | refine below_set ?_ GE179.out | refine below_set ?_ GE178.out) | exact HB.out))⟩)
              rintro ⟨gb178, gb179⟩ w32 ⟨hS_, h0_, h1_, h2_, h3_, h4_, h5_, h6_, h7_, h8_⟩
              have BK178 : Aside0 (w32.heap[gb178]? = some (.cells #[.int .i64 0, .int .i64 0, .int .i64 0, .int .i64 0] 42 (0, 0))) := ⟨h0_⟩
              have BK179 : Aside0 (w32.heap[gb179]? = some (.cells #[.int .i64 0, .int .i64 0, .int .i64 0, .int .i64 0] 42 (0, 0))) := ⟨h1_⟩
              have GW178 : Aside0 (w.heap.size ≤ gb178) := ⟨h2_⟩
              have GE178 : Aside0 (w.heap.size ≤ gb178) := ⟨h3_⟩
              have NB179_178 : Aside0 (gb179 ≠ gb178) := ⟨h4_⟩
              have NB178_179 : Aside0 (gb178 ≠ gb179) := ⟨h5_⟩
              have GW179 : Aside0 (w.heap.size ≤ gb179) := ⟨h6_⟩
              have GE179 : Aside0 (w.heap.size ≤ gb179) := ⟨h7_⟩
              replace HB : Aside0 (Below w.heap.size w w32) := ⟨h8_⟩
              clear h0_ h1_ h2_ h3_ h4_ h5_ h6_ h7_ h8_
              have hHeld : w32.cell? (ad174.add ((x13_1).toNat * 8)) = some (.int .i64 ((rd_T36 l0 x13_1).f0.f0)) ∧ w32.cell? ⟨(ad174.add ((x13_1).toNat * 8)).block, (ad174.add ((x13_1).toNat * 8)).off + 1, none⟩ = some (.int .i64 ((rd_T36 l0 x13_1).f0.f1)) ∧ w32.cell? ⟨(ad174.add ((x13_1).toNat * 8)).block, (ad174.add ((x13_1).toNat * 8)).off + 2, none⟩ = some (.int .i64 ((rd_T36 l0 x13_1).f0.f2)) ∧ w32.cell? ⟨(ad174.add ((x13_1).toNat * 8)).block, (ad174.add ((x13_1).toNat * 8)).off + 3, none⟩ = some (.int .i64 ((rd_T36 l0 x13_1).f0.f3)) ∧ w32.cell? ⟨(ad174.add ((x13_1).toNat * 8)).block, (ad174.add ((x13_1).toNat * 8)).off + 4, none⟩ = some (.slice A174_4 ((rd_T36 l0 x13_1).f0.f4).length c174_4) ∧ w32.cell? ⟨(ad174.add ((x13_1).toNat * 8)).block, (ad174.add ((x13_1).toNat * 8)).off + 5, none⟩ = some (.string ((rd_T36 l0 x13_1).f0.f5)) ∧ w32.cell? ⟨(ad174.add ((x13_1).toNat * 8)).block, (ad174.add ((x13_1).toNat * 8)).off + 6, none⟩ = some (.slice (some ad175) ((rd_T36 l0 x13_1).f1).length c174_6) ∧ w32.cell? ⟨(ad174.add ((x13_1).toNat * 8)).block, (ad174.add ((x13_1).toNat * 8)).off + 7, none⟩ = some (.int .i64 ((rd_T36 l0 x13_1).f2)) ∧ w32.cell? (ad175.add (((rd l1 x13_1)).toNat * 4)) = some (.int .i64 ((rd_T42 ((rd_T36 l0 x13_1).f1) (rd l1 x13_1)).f0.f0)) ∧ w32.cell? ⟨(ad175.add (((rd l1 x13_1)).toNat * 4)).block, (ad175.add (((rd l1 x13_1)).toNat * 4)).off + 1, none⟩ = some (.int .i64 ((rd_T42 ((rd_T36 l0 x13_1).f1) (rd l1 x13_1)).f0.f1)) ∧ w32.cell? ⟨(ad175.add (((rd l1 x13_1)).toNat * 4)).block, (ad175.add (((rd l1 x13_1)).toNat * 4)).off + 2, none⟩ = some (.int .i64 ((rd_T42 ((rd_T36 l0 x13_1).f1) (rd l1 x13_1)).f1.f0)) ∧ w32.cell? ⟨(ad175.add (((rd l1 x13_1)).toNat * 4)).block, (ad175.add (((rd l1 x13_1)).toNat * 4)).off + 3, none⟩ = some (.int .i64 ((rd_T42 ((rd_T36 l0 x13_1).f1) (rd l1 x13_1)).f1.f1)) ∧ w32.cell? (ad174.add ((x22_2).toNat * 8)) = some (.int .i64 ((rd_T36 l0 x22_2).f0.f0)) ∧ w32.cell? ⟨(ad174.add ((x22_2).toNat * 8)).block, (ad174.add ((x22_2).toNat * 8)).off + 1, none⟩ = some (.int .i64 ((rd_T36 l0 x22_2).f0.f1)) ∧ w32.cell? ⟨(ad174.add ((x22_2).toNat * 8)).block, (ad174.add ((x22_2).toNat * 8)).off + 2, none⟩ = some (.int .i64 ((rd_T36 l0 x22_2).f0.f2)) ∧ w32.cell? ⟨(ad174.add ((x22_2).toNat * 8)).block, (ad174.add ((x22_2).toNat * 8)).off + 3, none⟩ = some (.int .i64 ((rd_T36 l0 x22_2).f0.f3)) ∧ w32.cell? ⟨(ad174.add ((x22_2).toNat * 8)).block, (ad174.add ((x22_2).toNat * 8)).off + 4, none⟩ = some (.slice A176_4 ((rd_T36 l0 x22_2).f0.f4).length c176_4) ∧ w32.cell? ⟨(ad174.add ((x22_2).toNat * 8)).block, (ad174.add ((x22_2).toNat * 8)).off + 5, none⟩ = some (.string ((rd_T36 l0 x22_2).f0.f5)) ∧ w32.cell? ⟨(ad174.add ((x22_2).toNat * 8)).block, (ad174.add ((x22_2).toNat * 8)).off + 6, none⟩ = some (.slice (some ad177) ((rd_T36 l0 x22_2).f1).length c176_6) ∧ w32.cell? ⟨(ad174.add ((x22_2).toNat * 8)).block, (ad174.add ((x22_2).toNat * 8)).off + 7, none⟩ = some (.int .i64 ((rd_T36 l0 x22_2).f2)) ∧ w32.cell? (ad177.add (((rd T8 x22_2)).toNat * 4)) = some (.int .i64 ((rd_T42 ((rd_T36 l0 x22_2).f1) (rd T8 x22_2)).f0.f0)) ∧ w32.cell? ⟨(ad177.add (((rd T8 x22_2)).toNat * 4)).block, (ad177.add (((rd T8 x22_2)).toNat * 4)).off + 1, none⟩ = some (.int .i64 ((rd_T42 ((rd_T36 l0 x22_2).f1) (rd T8 x22_2)).f0.f1)) ∧ w32.cell? ⟨(ad177.add (((rd T8 x22_2)).toNat * 4)).block, (ad177.add (((rd T8 x22_2)).toNat * 4)).off + 2, none⟩ = some (.int .i64 ((rd_T42 ((rd_T36 l0 x22_2).f1) (rd T8 x22_2)).f1.f0)) ∧ w32.cell? ⟨(ad177.add (((rd T8 x22_2)).toNat * 4)).block, (ad177.add (((rd T8 x22_2)).toNat * 4)).off + 3, none⟩ = some (.int .i64 ((rd_T42 ((rd_T36 l0 x22_2).f1) (rd T8 x22_2)).f1.f1)) := hS_
              refine norm_ (a' := ?_) ?_ ?_
              rotate_left
              · simp only [putAll, Act.put, List.setIfInBounds_toArray, List.set_cons_zero, List.set_cons_succ]
                rfl
              refine one_ (i := 18) (N := none) (bA 20 524287) rfl rfl (one_of HT_.out (by kernel_rfl)) (by decide) (fun K hK => ?_)
              have hs33 : w32.cell? ⟨gb178, 0, none⟩ = some (.int .i64 0) := (blk_cell BK178.out 0).trans rfl
              have hfs33 := blk_frozen BK178.out 0
              have hns33_1 := NB179_178.out
              have hms33_1 := NB178_179.out
              have hs34 : w32.cell? ⟨gb178, 1, none⟩ = some (.int .i64 0) := (blk_cell BK178.out 1).trans rfl
              have hfs34 := blk_frozen BK178.out 1
              have hns34_1 := NB179_178.out
              have hms34_1 := NB178_179.out
              have hs35 : w32.cell? ⟨gb178, 2, none⟩ = some (.int .i64 0) := (blk_cell BK178.out 2).trans rfl
              have hfs35 := blk_frozen BK178.out 2
              have hns35_1 := NB179_178.out
              have hms35_1 := NB178_179.out
              have hs36 : w32.cell? ⟨gb178, 3, none⟩ = some (.int .i64 0) := (blk_cell BK178.out 3).trans rfl
              have hfs36 := blk_frozen BK178.out 3
              have hns36_1 := NB179_178.out
              have hms36_1 := NB178_179.out
              refine skip_ (w1 := ?_) (by rfl) rfl ?_ ?_
              rotate_left
              · go_simp
                rfl
              refine hK.out _ _ ⟨(far1_ hw174_0 GW178.out (far1_ hw174_0 GW178.out (far1_ hw174_0 GW178.out (far1_ hw174_0 GW178.out hHeld.1)))), (far1_ hw174_1 GW178.out (far1_ hw174_1 GW178.out (far1_ hw174_1 GW178.out (far1_ hw174_1 GW178.out hHeld.2.1)))), (far1_ hw174_2 GW178.out (far1_ hw174_2 GW178.out (far1_ hw174_2 GW178.out (far1_ hw174_2 GW178.out hHeld.2.2.1)))), (far1_ hw174_3 GW178.out (far1_ hw174_3 GW178.out (far1_ hw174_3 GW178.out (far1_ hw174_3 GW178.out hHeld.2.2.2.1)))), (far1_ hw174_4 GW178.out (far1_ hw174_4 GW178.out (far1_ hw174_4 GW178.out (far1_ hw174_4 GW178.out hHeld.2.2.2.2.1)))), (far1_ hw174_5 GW178.out (far1_ hw174_5 GW178.out (far1_ hw174_5 GW178.out (far1_ hw174_5 GW178.out hHeld.2.2.2.2.2.1)))), (far1_ hw174_6 GW178.out (far1_ hw174_6 GW178.out (far1_ hw174_6 GW178.out (far1_ hw174_6 GW178.out hHeld.2.2.2.2.2.2.1)))), (far1_ hw174_7 GW178.out (far1_ hw174_7 GW178.out (far1_ hw174_7 GW178.out (far1_ hw174_7 GW178.out hHeld.2.2.2.2.2.2.2.1)))), (far1_ hw175_0 GW178.out (far1_ hw175_0 GW178.out (far1_ hw175_0 GW178.out (far1_ hw175_0 GW178.out hHeld.2.2.2.2.2.2.2.2.1)))), (far1_ hw175_1 GW178.out (far1_ hw175_1 GW178.out (far1_ hw175_1 GW178.out (far1_ hw175_1 GW178.out hHeld.2.2.2.2.2.2.2.2.2.1)))), (far1_ hw175_2 GW178.out (far1_ hw175_2 GW178.out (far1_ hw175_2 GW178.out (far1_ hw175_2 GW178.out hHeld.2.2.2.2.2.2.2.2.2.2.1)))), (far1_ hw175_3 GW178.out (far1_ hw175_3 GW178.out (far1_ hw175_3 GW178.out (far1_ hw175_3 GW178.out hHeld.2.2.2.2.2.2.2.2.2.2.2.1)))), (far1_ hw176_0 GW178.out (far1_ hw176_0 GW178.out (far1_ hw176_0 GW178.out (far1_ hw176_0 GW178.out hHeld.2.2.2.2.2.2.2.2.2.2.2.2.1)))), (far1_ hw176_1 GW178.out (far1_ hw176_1 GW178.out (far1_ hw176_1 GW178.out (far1_ hw176_1 GW178.out hHeld.2.2.2.2.2.2.2.2.2.2.2.2.2.1)))), (far1_ hw176_2 GW178.out (far1_ hw176_2 GW178.out (far1_ hw176_2 GW178.out (far1_ hw176_2 GW178.out hHeld.2.2.2.2.2.2.2.2.2.2.2.2.2.2.1)))), (far1_ hw176_3 GW178.out (far1_ hw176_3 GW178.out (far1_ hw176_3 GW178.out (far1_ hw176_3 GW178.out hHeld.2.2.2.2.2.2.2.2.2.2.2.2.2.2.2.1)))), (far1_ hw176_4 GW178.out (far1_ hw176_4 GW178.out (far1_ hw176_4 GW178.out (far1_ hw176_4 GW178.out hHeld.2.2.2.2.2.2.2.2.2.2.2.2.2.2.2.2.1)))), (far1_ hw176_5 GW178.out (far1_ hw176_5 GW178.out (far1_ hw176_5 GW178.out (far1_ hw176_5 GW178.out hHeld.2.2.2.2.2.2.2.2.2.2.2.2.2.2.2.2.2.1)))), (far1_ hw176_6 GW178.out (far1_ hw176_6 GW178.out (far1_ hw176_6 GW178.out (far1_ hw176_6 GW178.out hHeld.2.2.2.2.2.2.2.2.2.2.2.2.2.2.2.2.2.2.1)))), (far1_ hw176_7 GW178.out (far1_ hw176_7 GW178.out (far1_ hw176_7 GW178.out (far1_ hw176_7 GW178.out hHeld.2.2.2.2.2.2.2.2.2.2.2.2.2.2.2.2.2.2.2.1)))), (far1_ hw177_0 GW178.out (far1_ hw177_0 GW178.out (far1_ hw177_0 GW178.out (far1_ hw177_0 GW178.out hHeld.2.2.2.2.2.2.2.2.2.2.2.2.2.2.2.2.2.2.2.2.1)))), (far1_ hw177_1 GW178.out (far1_ hw177_1 GW178.out (far1_ hw177_1 GW178.out (far1_ hw177_1 GW178.out hHeld.2.2.2.2.2.2.2.2.2.2.2.2.2.2.2.2.2.2.2.2.2.1)))), (far1_ hw177_2 GW178.out (far1_ hw177_2 GW178.out (far1_ hw177_2 GW178.out (far1_ hw177_2 GW178.out hHeld.2.2.2.2.2.2.2.2.2.2.2.2.2.2.2.2.2.2.2.2.2.2.1)))), (far1_ hw177_3 GW178.out (far1_ hw177_3 GW178.out (far1_ hw177_3 GW178.out (far1_ hw177_3 GW178.out hHeld.2.2.2.2.2.2.2.2.2.2.2.2.2.2.2.2.2.2.2.2.2.2.2))))⟩ (fun hHeld => ?_)
              clear hK K
              refine one_ (i := 19) (N := none) (bA 20 1048575) rfl rfl (one_of HT_.out (by kernel_rfl)) (by decide) (fun K hK => ?_)
              have hs37 : w32.cell? ⟨gb179, 0, none⟩ = some (.int .i64 0) := (blk_cell BK179.out 0).trans rfl
              have hfs37 := blk_frozen BK179.out 0
              have hns37_0 := NB178_179.out
              have hms37_0 := NB179_178.out
              have hs38 : w32.cell? ⟨gb179, 1, none⟩ = some (.int .i64 0) := (blk_cell BK179.out 1).trans rfl
              have hfs38 := blk_frozen BK179.out 1
              have hns38_0 := NB178_179.out
              have hms38_0 := NB179_178.out
              have hs39 : w32.cell? ⟨gb179, 2, none⟩ = some (.int .i64 0) := (blk_cell BK179.out 2).trans rfl
              have hfs39 := blk_frozen BK179.out 2
              have hns39_0 := NB178_179.out
              have hms39_0 := NB179_178.out
              have hs40 : w32.cell? ⟨gb179, 3, none⟩ = some (.int .i64 0) := (blk_cell BK179.out 3).trans rfl
              have hfs40 := blk_frozen BK179.out 3
              have hns40_0 := NB178_179.out
              have hms40_0 := NB179_178.out
              refine skip_ (w1 := ?_) (by rfl) rfl ?_ ?_
              rotate_left
              · go_simp
                rfl
              refine hK.out _ _ ⟨(far1_ hw174_0 GW179.out (far1_ hw174_0 GW179.out (far1_ hw174_0 GW179.out (far1_ hw174_0 GW179.out hHeld.1)))), (far1_ hw174_1 GW179.out (far1_ hw174_1 GW179.out (far1_ hw174_1 GW179.out (far1_ hw174_1 GW179.out hHeld.2.1)))), (far1_ hw174_2 GW179.out (far1_ hw174_2 GW179.out (far1_ hw174_2 GW179.out (far1_ hw174_2 GW179.out hHeld.2.2.1)))), (far1_ hw174_3 GW179.out (far1_ hw174_3 GW179.out (far1_ hw174_3 GW179.out (far1_ hw174_3 GW179.out hHeld.2.2.2.1)))), (far1_ hw174_4 GW179.out (far1_ hw174_4 GW179.out (far1_ hw174_4 GW179.out (far1_ hw174_4 GW179.out hHeld.2.2.2.2.1)))), (far1_ hw174_5 GW179.out (far1_ hw174_5 GW179.out (far1_ hw174_5 GW179.out (far1_ hw174_5 GW179.out hHeld.2.2.2.2.2.1)))), (far1_ hw174_6 GW179.out (far1_ hw174_6 GW179.out (far1_ hw174_6 GW179.out (far1_ hw174_6 GW179.out hHeld.2.2.2.2.2.2.1)))), (far1_ hw174_7 GW179.out (far1_ hw174_7 GW179.out (far1_ hw174_7 GW179.out (far1_ hw174_7 GW179.out hHeld.2.2.2.2.2.2.2.1)))), (far1_ hw175_0 GW179.out (far1_ hw175_0 GW179.out (far1_ hw175_0 GW179.out (far1_ hw175_0 GW179.out hHeld.2.2.2.2.2.2.2.2.1)))), (far1_ hw175_1 GW179.out (far1_ hw175_1 GW179.out (far1_ hw175_1 GW179.out (far1_ hw175_1 GW179.out hHeld.2.2.2.2.2.2.2.2.2.1)))), (far1_ hw175_2 GW179.out (far1_ hw175_2 GW179.out (far1_ hw175_2 GW179.out (far1_ hw175_2 GW179.out hHeld.2.2.2.2.2.2.2.2.2.2.1)))), (far1_ hw175_3 GW179.out (far1_ hw175_3 GW179.out (far1_ hw175_3 GW179.out (far1_ hw175_3 GW179.out hHeld.2.2.2.2.2.2.2.2.2.2.2.1)))), (far1_ hw176_0 GW179.out (far1_ hw176_0 GW179.out (far1_ hw176_0 GW179.out (far1_ hw176_0 GW179.out hHeld.2.2.2.2.2.2.2.2.2.2.2.2.1)))), (far1_ hw176_1 GW179.out (far1_ hw176_1 GW179.out (far1_ hw176_1 GW179.out (far1_ hw176_1 GW179.out hHeld.2.2.2.2.2.2.2.2.2.2.2.2.2.1)))), (far1_ hw176_2 GW179.out (far1_ hw176_2 GW179.out (far1_ hw176_2 GW179.out (far1_ hw176_2 GW179.out hHeld.2.2.2.2.2.2.2.2.2.2.2.2.2.2.1)))), (far1_ hw176_3 GW179.out (far1_ hw176_3 GW179.out (far1_ hw176_3 GW179.out (far1_ hw176_3 GW179.out hHeld.2.2.2.2.2.2.2.2.2.2.2.2.2.2.2.1)))), (far1_ hw176_4 GW179.out (far1_ hw176_4 GW179.out (far1_ hw176_4 GW179.out (far1_ hw176_4 GW179.out hHeld.2.2.2.2.2.2.2.2.2.2.2.2.2.2.2.2.1)))), (far1_ hw176_5 GW179.out (far1_ hw176_5 GW179.out (far1_ hw176_5 GW179.out (far1_ hw176_5 GW179.out hHeld.2.2.2.2.2.2.2.2.2.2.2.2.2.2.2.2.2.1)))), (far1_ hw176_6 GW179.out (far1_ hw176_6 GW179.out (far1_ hw176_6 GW179.out (far1_ hw176_6 GW179.out hHeld.2.2.2.2.2.2.2.2.2.2.2.2.2.2.2.2.2.2.1)))), (far1_ hw176_7 GW179.out (far1_ hw176_7 GW179.out (far1_ hw176_7 GW179.out (far1_ hw176_7 GW179.out hHeld.2.2.2.2.2.2.2.2.2.2.2.2.2.2.2.2.2.2.2.1)))), (far1_ hw177_0 GW179.out (far1_ hw177_0 GW179.out (far1_ hw177_0 GW179.out (far1_ hw177_0 GW179.out hHeld.2.2.2.2.2.2.2.2.2.2.2.2.2.2.2.2.2.2.2.2.1)))), (far1_ hw177_1 GW179.out (far1_ hw177_1 GW179.out (far1_ hw177_1 GW179.out (far1_ hw177_1 GW179.out hHeld.2.2.2.2.2.2.2.2.2.2.2.2.2.2.2.2.2.2.2.2.2.1)))), (far1_ hw177_2 GW179.out (far1_ hw177_2 GW179.out (far1_ hw177_2 GW179.out (far1_ hw177_2 GW179.out hHeld.2.2.2.2.2.2.2.2.2.2.2.2.2.2.2.2.2.2.2.2.2.2.1)))), (far1_ hw177_3 GW179.out (far1_ hw177_3 GW179.out (far1_ hw177_3 GW179.out (far1_ hw177_3 GW179.out hHeld.2.2.2.2.2.2.2.2.2.2.2.2.2.2.2.2.2.2.2.2.2.2.2))))⟩ (fun hHeld => ?_)
              clear hK K
              refine done_ (done_of HT_.out (by kernel_rfl)) ?_
              have hnb41 := NB178_179.out
              have hnc41 := NB179_178.out
              have hcz42_0 : w32.cell? ⟨gb178, 0, none⟩ = some (.int .i64 0) := (blk_cell BK178.out 0).trans rfl
              have hcz42_1 : w32.cell? ⟨gb178, 1, none⟩ = some (.int .i64 0) := (blk_cell BK178.out 1).trans rfl
              have hcz42_2 : w32.cell? ⟨gb178, 2, none⟩ = some (.int .i64 0) := (blk_cell BK178.out 2).trans rfl
              have hcz42_3 : w32.cell? ⟨gb178, 3, none⟩ = some (.int .i64 0) := (blk_cell BK178.out 3).trans rfl
              have hfz42_0 := blk_frozen BK178.out 0
              have hfz42_1 := blk_frozen BK178.out 1
              have hfz42_2 := blk_frozen BK178.out 2
              have hfz42_3 := blk_frozen BK178.out 3
              have H := HHo.out
              clear HHo
              replace H := Option.bind_eq_some_iff.mp H
              obtain ⟨t180, A230, H⟩ := H
              replace H : (if t180 = true then ((terrlaw5_ordered.f ((rd_T42 ((rd_T36 l0 x22_2).f1) (rd T8 x22_2)).f0.f0) ((rd_T42 ((rd_T36 l0 x22_2).f1) (rd T8 x22_2)).f0.f1) ((rd_T42 ((rd_T36 l0 x22_2).f1) (rd T8 x22_2)).f1.f0) ((rd_T42 ((rd_T36 l0 x22_2).f1) (rd T8 x22_2)).f1.f1)).bind fun t181 => (if t181 = true then ((terrref5_Near.f ((rd_T42 ((rd_T36 l0 x13_1).f1) (rd l1 x13_1)).f0.f0) ((rd_T42 ((rd_T36 l0 x13_1).f1) (rd l1 x13_1)).f0.f1) ((rd_T42 ((rd_T36 l0 x13_1).f1) (rd l1 x13_1)).f1.f0) ((rd_T42 ((rd_T36 l0 x13_1).f1) (rd l1 x13_1)).f1.f1) ((rd_T42 ((rd_T36 l0 x22_2).f1) (rd T8 x22_2)).f0.f0) ((rd_T42 ((rd_T36 l0 x22_2).f1) (rd T8 x22_2)).f0.f1) ((rd_T42 ((rd_T36 l0 x22_2).f1) (rd T8 x22_2)).f1.f0) ((rd_T42 ((rd_T36 l0 x22_2).f1) (rd T8 x22_2)).f1.f1)).bind fun t182 => (if t182 = true then (some false) else (terrlaw5_possible.l1 kj11 l0 l1 x13_1 (rd l1 x13_1) l1 (l1.length : Int) x13_1 T8 (T8.length : Int) (wrap64 (x22_2 + 1))))) else (terrlaw5_possible.l1 kj11 l0 l1 x13_1 (rd l1 x13_1) l1 (l1.length : Int) x13_1 T8 (T8.length : Int) (wrap64 (x22_2 + 1))))) else (terrlaw5_possible.l1 kj11 l0 l1 x13_1 (rd l1 x13_1) l1 (l1.length : Int) x13_1 T8 (T8.length : Int) (wrap64 (x22_2 + 1)))) = some r := H
              have A23 := Aside0.mk A230
              clear A230
              by_cases c24 : t180 = true
              rotate_left
              · replace c24 := Bool.eq_false_iff.mpr c24
                subst c24
                have H1 : (terrlaw5_possible.l1 kj11 l0 l1 x13_1 (rd l1 x13_1) l1 (l1.length : Int) x13_1 T8 (T8.length : Int) (wrap64 (x22_2 + 1))) = some r := by rw [if_neg (show ¬ (false = true) by decide)] at H; exact H
                clear H
                have H := H1
                clear H1
                have H' := Aside0.mk H
                clear H
                try go_wp2_with (first | ((with_reducible refine gate_callee (f := 64) rfl ?_); refine goesL_ (some 50) rfl rfl Try.func64 (by kernel_rfl) rfl #[.agg #[.int .i64 ((rd_T42 ((rd_T36 l0 x13_1).f1) (rd l1 x13_1)).f0.f0), .int .i64 ((rd_T42 ((rd_T36 l0 x13_1).f1) (rd l1 x13_1)).f0.f1), .int .i64 ((rd_T42 ((rd_T36 l0 x13_1).f1) (rd l1 x13_1)).f1.f0), .int .i64 ((rd_T42 ((rd_T36 l0 x13_1).f1) (rd l1 x13_1)).f1.f1)]] rfl (by (try simp only [List.map_toArray, List.map_cons, List.map_nil]); first | done | rfl | (simp only [List.length_drop, List.length_take]; rfl)) ?_; (with_reducible refine (terrlaw5_ordered.calls ((rd_T42 ((rd_T36 l0 x13_1).f1) (rd l1 x13_1)).f0.f0) ((rd_T42 ((rd_T36 l0 x13_1).f1) (rd l1 x13_1)).f0.f1) ((rd_T42 ((rd_T36 l0 x13_1).f1) (rd l1 x13_1)).f1.f0) ((rd_T42 ((rd_T36 l0 x13_1).f1) (rd l1 x13_1)).f1.f1) false _ A23.out).mono ?_); rintro e w100 ⟨rfl, hb⟩; refine ⟨_, rfl, ?_⟩; replace BK178 := Aside0.mk (blk_below (g := gb178) (o := .cells #[.int .i64 ((rd_T42 ((rd_T36 l0 x13_1).f1) (rd l1 x13_1)).f0.f0), .int .i64 ((rd_T42 ((rd_T36 l0 x13_1).f1) (rd l1 x13_1)).f0.f1), .int .i64 ((rd_T42 ((rd_T36 l0 x13_1).f1) (rd l1 x13_1)).f1.f0), .int .i64 ((rd_T42 ((rd_T36 l0 x13_1).f1) (rd l1 x13_1)).f1.f1)] 42 (0, 0)) (by (with_reducible repeat (first | refine blk_drewN ?_ _ | refine blk_drew ?_ | refine blk_alloc ?_ _)); refine blk_far ?_ NB178_179.out _; (with_reducible repeat (first | refine blk_drewN ?_ _ | refine blk_drew ?_ | refine blk_alloc ?_ _)); refine blk_far ?_ NB178_179.out _; (with_reducible repeat (first | refine blk_drewN ?_ _ | refine blk_drew ?_ | refine blk_alloc ?_ _)); refine blk_far ?_ NB178_179.out _; (with_reducible repeat (first | refine blk_drewN ?_ _ | refine blk_drew ?_ | refine blk_alloc ?_ _)); refine blk_far ?_ NB178_179.out _; (with_reducible repeat (first | refine blk_drewN ?_ _ | refine blk_drew ?_ | refine blk_alloc ?_ _)); refine blk_put (cs := #[.int .i64 ((rd_T42 ((rd_T36 l0 x13_1).f1) (rd l1 x13_1)).f0.f0), .int .i64 ((rd_T42 ((rd_T36 l0 x13_1).f1) (rd l1 x13_1)).f0.f1), .int .i64 ((rd_T42 ((rd_T36 l0 x13_1).f1) (rd l1 x13_1)).f1.f0), .int .i64 0]) ?_ 3 _ rfl; (with_reducible repeat (first | refine blk_drewN ?_ _ | refine blk_drew ?_ | refine blk_alloc ?_ _)); refine blk_put (cs := #[.int .i64 ((rd_T42 ((rd_T36 l0 x13_1).f1) (rd l1 x13_1)).f0.f0), .int .i64 ((rd_T42 ((rd_T36 l0 x13_1).f1) (rd l1 x13_1)).f0.f1), .int .i64 0, .int .i64 0]) ?_ 2 _ rfl; (with_reducible repeat (first | refine blk_drewN ?_ _ | refine blk_drew ?_ | refine blk_alloc ?_ _)); refine blk_put (cs := #[.int .i64 ((rd_T42 ((rd_T36 l0 x13_1).f1) (rd l1 x13_1)).f0.f0), .int .i64 0, .int .i64 0, .int .i64 0]) ?_ 1 _ rfl; (with_reducible repeat (first | refine blk_drewN ?_ _ | refine blk_drew ?_ | refine blk_alloc ?_ _)); refine blk_put (cs := #[.int .i64 0, .int .i64 0, .int .i64 0, .int .i64 0]) ?_ 0 _ rfl; (with_reducible repeat (first | refine blk_drewN ?_ _ | refine blk_drew ?_ | refine blk_alloc ?_ _)); exact BK178.out) hb); replace BK179 := Aside0.mk (blk_below (g := gb179) (o := .cells #[.int .i64 ((rd_T42 ((rd_T36 l0 x22_2).f1) (rd T8 x22_2)).f0.f0), .int .i64 ((rd_T42 ((rd_T36 l0 x22_2).f1) (rd T8 x22_2)).f0.f1), .int .i64 ((rd_T42 ((rd_T36 l0 x22_2).f1) (rd T8 x22_2)).f1.f0), .int .i64 ((rd_T42 ((rd_T36 l0 x22_2).f1) (rd T8 x22_2)).f1.f1)] 42 (0, 0)) (by (with_reducible repeat (first | refine blk_drewN ?_ _ | refine blk_drew ?_ | refine blk_alloc ?_ _)); refine blk_put (cs := #[.int .i64 ((rd_T42 ((rd_T36 l0 x22_2).f1) (rd T8 x22_2)).f0.f0), .int .i64 ((rd_T42 ((rd_T36 l0 x22_2).f1) (rd T8 x22_2)).f0.f1), .int .i64 ((rd_T42 ((rd_T36 l0 x22_2).f1) (rd T8 x22_2)).f1.f0), .int .i64 0]) ?_ 3 _ rfl; (with_reducible repeat (first | refine blk_drewN ?_ _ | refine blk_drew ?_ | refine blk_alloc ?_ _)); refine blk_put (cs := #[.int .i64 ((rd_T42 ((rd_T36 l0 x22_2).f1) (rd T8 x22_2)).f0.f0), .int .i64 ((rd_T42 ((rd_T36 l0 x22_2).f1) (rd T8 x22_2)).f0.f1), .int .i64 0, .int .i64 0]) ?_ 2 _ rfl; (with_reducible repeat (first | refine blk_drewN ?_ _ | refine blk_drew ?_ | refine blk_alloc ?_ _)); refine blk_put (cs := #[.int .i64 ((rd_T42 ((rd_T36 l0 x22_2).f1) (rd T8 x22_2)).f0.f0), .int .i64 0, .int .i64 0, .int .i64 0]) ?_ 1 _ rfl; (with_reducible repeat (first | refine blk_drewN ?_ _ | refine blk_drew ?_ | refine blk_alloc ?_ _)); refine blk_put (cs := #[.int .i64 0, .int .i64 0, .int .i64 0, .int .i64 0]) ?_ 0 _ rfl; (with_reducible repeat (first | refine blk_drewN ?_ _ | refine blk_drew ?_ | refine blk_alloc ?_ _)); refine blk_far ?_ NB179_178.out _; (with_reducible repeat (first | refine blk_drewN ?_ _ | refine blk_drew ?_ | refine blk_alloc ?_ _)); refine blk_far ?_ NB179_178.out _; (with_reducible repeat (first | refine blk_drewN ?_ _ | refine blk_drew ?_ | refine blk_alloc ?_ _)); refine blk_far ?_ NB179_178.out _; (with_reducible repeat (first | refine blk_drewN ?_ _ | refine blk_drew ?_ | refine blk_alloc ?_ _)); refine blk_far ?_ NB179_178.out _; (with_reducible repeat (first | refine blk_drewN ?_ _ | refine blk_drew ?_ | refine blk_alloc ?_ _)); exact BK179.out) hb); replace HB := Aside0.mk (below_step (by repeat (first | (with_reducible first | exact HB.out | apply below_alloc | apply pw_below_drewN | apply below_drew1 | refine below_set ?_ GE178.out | refine below_set ?_ GE179.out) | exact HB.out)) hb); (try clear hb); (try clear hb2); (try clear hk); (try clear hi)))
                go_roundg kj11
                case measure => have := HK1.out; have := HK2.out; have := HJ11.out; omega
                case rel => exact ⟨(wrap64 (x22_2 + 1)), (by first | rfl | (simp; done) | (simp [*]; done)), H', ⟨by have := HK1.out; have := HK2.out; have := HJ11.out; omega⟩, ⟨by repeat (first | (with_reducible first | exact HB.out | apply below_alloc | apply pw_below_drewN | apply below_drew1 | refine below_set ?_ GE178.out | refine below_set ?_ GE179.out) | exact HB.out)⟩⟩
              subst c24
              have H1 : ((terrlaw5_ordered.f ((rd_T42 ((rd_T36 l0 x22_2).f1) (rd T8 x22_2)).f0.f0) ((rd_T42 ((rd_T36 l0 x22_2).f1) (rd T8 x22_2)).f0.f1) ((rd_T42 ((rd_T36 l0 x22_2).f1) (rd T8 x22_2)).f1.f0) ((rd_T42 ((rd_T36 l0 x22_2).f1) (rd T8 x22_2)).f1.f1)).bind fun t181 => (if t181 = true then ((terrref5_Near.f ((rd_T42 ((rd_T36 l0 x13_1).f1) (rd l1 x13_1)).f0.f0) ((rd_T42 ((rd_T36 l0 x13_1).f1) (rd l1 x13_1)).f0.f1) ((rd_T42 ((rd_T36 l0 x13_1).f1) (rd l1 x13_1)).f1.f0) ((rd_T42 ((rd_T36 l0 x13_1).f1) (rd l1 x13_1)).f1.f1) ((rd_T42 ((rd_T36 l0 x22_2).f1) (rd T8 x22_2)).f0.f0) ((rd_T42 ((rd_T36 l0 x22_2).f1) (rd T8 x22_2)).f0.f1) ((rd_T42 ((rd_T36 l0 x22_2).f1) (rd T8 x22_2)).f1.f0) ((rd_T42 ((rd_T36 l0 x22_2).f1) (rd T8 x22_2)).f1.f1)).bind fun t182 => (if t182 = true then (some false) else (terrlaw5_possible.l1 kj11 l0 l1 x13_1 (rd l1 x13_1) l1 (l1.length : Int) x13_1 T8 (T8.length : Int) (wrap64 (x22_2 + 1))))) else (terrlaw5_possible.l1 kj11 l0 l1 x13_1 (rd l1 x13_1) l1 (l1.length : Int) x13_1 T8 (T8.length : Int) (wrap64 (x22_2 + 1))))) = some r := by rw [if_pos rfl] at H; exact H
              clear H
              have H := H1
              clear H1
              replace H := Option.bind_eq_some_iff.mp H
              obtain ⟨t181, A250, H⟩ := H
              replace H : (if t181 = true then ((terrref5_Near.f ((rd_T42 ((rd_T36 l0 x13_1).f1) (rd l1 x13_1)).f0.f0) ((rd_T42 ((rd_T36 l0 x13_1).f1) (rd l1 x13_1)).f0.f1) ((rd_T42 ((rd_T36 l0 x13_1).f1) (rd l1 x13_1)).f1.f0) ((rd_T42 ((rd_T36 l0 x13_1).f1) (rd l1 x13_1)).f1.f1) ((rd_T42 ((rd_T36 l0 x22_2).f1) (rd T8 x22_2)).f0.f0) ((rd_T42 ((rd_T36 l0 x22_2).f1) (rd T8 x22_2)).f0.f1) ((rd_T42 ((rd_T36 l0 x22_2).f1) (rd T8 x22_2)).f1.f0) ((rd_T42 ((rd_T36 l0 x22_2).f1) (rd T8 x22_2)).f1.f1)).bind fun t182 => (if t182 = true then (some false) else (terrlaw5_possible.l1 kj11 l0 l1 x13_1 (rd l1 x13_1) l1 (l1.length : Int) x13_1 T8 (T8.length : Int) (wrap64 (x22_2 + 1))))) else (terrlaw5_possible.l1 kj11 l0 l1 x13_1 (rd l1 x13_1) l1 (l1.length : Int) x13_1 T8 (T8.length : Int) (wrap64 (x22_2 + 1)))) = some r := H
              have A25 := Aside0.mk A250
              clear A250
              by_cases c26 : t181 = true
              rotate_left
              · replace c26 := Bool.eq_false_iff.mpr c26
                subst c26
                have H1 : (terrlaw5_possible.l1 kj11 l0 l1 x13_1 (rd l1 x13_1) l1 (l1.length : Int) x13_1 T8 (T8.length : Int) (wrap64 (x22_2 + 1))) = some r := by rw [if_neg (show ¬ (false = true) by decide)] at H; exact H
                clear H
                have H := H1
                clear H1
                have H' := Aside0.mk H
                clear H
                try go_wp2_with (first | ((with_reducible refine gate_callee (f := 64) rfl ?_); refine goesL_ (some 50) rfl rfl Try.func64 (by kernel_rfl) rfl #[.agg #[.int .i64 ((rd_T42 ((rd_T36 l0 x13_1).f1) (rd l1 x13_1)).f0.f0), .int .i64 ((rd_T42 ((rd_T36 l0 x13_1).f1) (rd l1 x13_1)).f0.f1), .int .i64 ((rd_T42 ((rd_T36 l0 x13_1).f1) (rd l1 x13_1)).f1.f0), .int .i64 ((rd_T42 ((rd_T36 l0 x13_1).f1) (rd l1 x13_1)).f1.f1)]] rfl (by (try simp only [List.map_toArray, List.map_cons, List.map_nil]); first | done | rfl | (simp only [List.length_drop, List.length_take]; rfl)) ?_; (with_reducible refine (terrlaw5_ordered.calls ((rd_T42 ((rd_T36 l0 x13_1).f1) (rd l1 x13_1)).f0.f0) ((rd_T42 ((rd_T36 l0 x13_1).f1) (rd l1 x13_1)).f0.f1) ((rd_T42 ((rd_T36 l0 x13_1).f1) (rd l1 x13_1)).f1.f0) ((rd_T42 ((rd_T36 l0 x13_1).f1) (rd l1 x13_1)).f1.f1) true _ A23.out).mono ?_); rintro e w83 ⟨rfl, hb⟩; refine ⟨_, rfl, ?_⟩; replace BK178 := Aside0.mk (blk_below (g := gb178) (o := .cells #[.int .i64 ((rd_T42 ((rd_T36 l0 x13_1).f1) (rd l1 x13_1)).f0.f0), .int .i64 ((rd_T42 ((rd_T36 l0 x13_1).f1) (rd l1 x13_1)).f0.f1), .int .i64 ((rd_T42 ((rd_T36 l0 x13_1).f1) (rd l1 x13_1)).f1.f0), .int .i64 ((rd_T42 ((rd_T36 l0 x13_1).f1) (rd l1 x13_1)).f1.f1)] 42 (0, 0)) (by (with_reducible repeat (first | refine blk_drewN ?_ _ | refine blk_drew ?_ | refine blk_alloc ?_ _)); refine blk_far ?_ NB178_179.out _; (with_reducible repeat (first | refine blk_drewN ?_ _ | refine blk_drew ?_ | refine blk_alloc ?_ _)); refine blk_far ?_ NB178_179.out _; (with_reducible repeat (first | refine blk_drewN ?_ _ | refine blk_drew ?_ | refine blk_alloc ?_ _)); refine blk_far ?_ NB178_179.out _; (with_reducible repeat (first | refine blk_drewN ?_ _ | refine blk_drew ?_ | refine blk_alloc ?_ _)); refine blk_far ?_ NB178_179.out _; (with_reducible repeat (first | refine blk_drewN ?_ _ | refine blk_drew ?_ | refine blk_alloc ?_ _)); refine blk_put (cs := #[.int .i64 ((rd_T42 ((rd_T36 l0 x13_1).f1) (rd l1 x13_1)).f0.f0), .int .i64 ((rd_T42 ((rd_T36 l0 x13_1).f1) (rd l1 x13_1)).f0.f1), .int .i64 ((rd_T42 ((rd_T36 l0 x13_1).f1) (rd l1 x13_1)).f1.f0), .int .i64 0]) ?_ 3 _ rfl; (with_reducible repeat (first | refine blk_drewN ?_ _ | refine blk_drew ?_ | refine blk_alloc ?_ _)); refine blk_put (cs := #[.int .i64 ((rd_T42 ((rd_T36 l0 x13_1).f1) (rd l1 x13_1)).f0.f0), .int .i64 ((rd_T42 ((rd_T36 l0 x13_1).f1) (rd l1 x13_1)).f0.f1), .int .i64 0, .int .i64 0]) ?_ 2 _ rfl; (with_reducible repeat (first | refine blk_drewN ?_ _ | refine blk_drew ?_ | refine blk_alloc ?_ _)); refine blk_put (cs := #[.int .i64 ((rd_T42 ((rd_T36 l0 x13_1).f1) (rd l1 x13_1)).f0.f0), .int .i64 0, .int .i64 0, .int .i64 0]) ?_ 1 _ rfl; (with_reducible repeat (first | refine blk_drewN ?_ _ | refine blk_drew ?_ | refine blk_alloc ?_ _)); refine blk_put (cs := #[.int .i64 0, .int .i64 0, .int .i64 0, .int .i64 0]) ?_ 0 _ rfl; (with_reducible repeat (first | refine blk_drewN ?_ _ | refine blk_drew ?_ | refine blk_alloc ?_ _)); exact BK178.out) hb); replace BK179 := Aside0.mk (blk_below (g := gb179) (o := .cells #[.int .i64 ((rd_T42 ((rd_T36 l0 x22_2).f1) (rd T8 x22_2)).f0.f0), .int .i64 ((rd_T42 ((rd_T36 l0 x22_2).f1) (rd T8 x22_2)).f0.f1), .int .i64 ((rd_T42 ((rd_T36 l0 x22_2).f1) (rd T8 x22_2)).f1.f0), .int .i64 ((rd_T42 ((rd_T36 l0 x22_2).f1) (rd T8 x22_2)).f1.f1)] 42 (0, 0)) (by (with_reducible repeat (first | refine blk_drewN ?_ _ | refine blk_drew ?_ | refine blk_alloc ?_ _)); refine blk_put (cs := #[.int .i64 ((rd_T42 ((rd_T36 l0 x22_2).f1) (rd T8 x22_2)).f0.f0), .int .i64 ((rd_T42 ((rd_T36 l0 x22_2).f1) (rd T8 x22_2)).f0.f1), .int .i64 ((rd_T42 ((rd_T36 l0 x22_2).f1) (rd T8 x22_2)).f1.f0), .int .i64 0]) ?_ 3 _ rfl; (with_reducible repeat (first | refine blk_drewN ?_ _ | refine blk_drew ?_ | refine blk_alloc ?_ _)); refine blk_put (cs := #[.int .i64 ((rd_T42 ((rd_T36 l0 x22_2).f1) (rd T8 x22_2)).f0.f0), .int .i64 ((rd_T42 ((rd_T36 l0 x22_2).f1) (rd T8 x22_2)).f0.f1), .int .i64 0, .int .i64 0]) ?_ 2 _ rfl; (with_reducible repeat (first | refine blk_drewN ?_ _ | refine blk_drew ?_ | refine blk_alloc ?_ _)); refine blk_put (cs := #[.int .i64 ((rd_T42 ((rd_T36 l0 x22_2).f1) (rd T8 x22_2)).f0.f0), .int .i64 0, .int .i64 0, .int .i64 0]) ?_ 1 _ rfl; (with_reducible repeat (first | refine blk_drewN ?_ _ | refine blk_drew ?_ | refine blk_alloc ?_ _)); refine blk_put (cs := #[.int .i64 0, .int .i64 0, .int .i64 0, .int .i64 0]) ?_ 0 _ rfl; (with_reducible repeat (first | refine blk_drewN ?_ _ | refine blk_drew ?_ | refine blk_alloc ?_ _)); refine blk_far ?_ NB179_178.out _; (with_reducible repeat (first | refine blk_drewN ?_ _ | refine blk_drew ?_ | refine blk_alloc ?_ _)); refine blk_far ?_ NB179_178.out _; (with_reducible repeat (first | refine blk_drewN ?_ _ | refine blk_drew ?_ | refine blk_alloc ?_ _)); refine blk_far ?_ NB179_178.out _; (with_reducible repeat (first | refine blk_drewN ?_ _ | refine blk_drew ?_ | refine blk_alloc ?_ _)); refine blk_far ?_ NB179_178.out _; (with_reducible repeat (first | refine blk_drewN ?_ _ | refine blk_drew ?_ | refine blk_alloc ?_ _)); exact BK179.out) hb); replace HB := Aside0.mk (below_step (by repeat (first | (with_reducible first | exact HB.out | apply below_alloc | apply pw_below_drewN | apply below_drew1 | refine below_set ?_ GE178.out | refine below_set ?_ GE179.out) | exact HB.out)) hb); (try clear hb); (try clear hb2); (try clear hk); (try clear hi); have hcz84_0 : w83.cell? ⟨gb179, 0, none⟩ = some (.int .i64 ((rd_T42 ((rd_T36 l0 x22_2).f1) (rd T8 x22_2)).f0.f0)) := (blk_cell BK179.out 0).trans rfl; have hcz84_1 : w83.cell? ⟨gb179, 1, none⟩ = some (.int .i64 ((rd_T42 ((rd_T36 l0 x22_2).f1) (rd T8 x22_2)).f0.f1)) := (blk_cell BK179.out 1).trans rfl; have hcz84_2 : w83.cell? ⟨gb179, 2, none⟩ = some (.int .i64 ((rd_T42 ((rd_T36 l0 x22_2).f1) (rd T8 x22_2)).f1.f0)) := (blk_cell BK179.out 2).trans rfl; have hcz84_3 : w83.cell? ⟨gb179, 3, none⟩ = some (.int .i64 ((rd_T42 ((rd_T36 l0 x22_2).f1) (rd T8 x22_2)).f1.f1)) := (blk_cell BK179.out 3).trans rfl; have hfz84_0 := blk_frozen BK179.out 0; have hfz84_1 := blk_frozen BK179.out 1; have hfz84_2 := blk_frozen BK179.out 2; have hfz84_3 := blk_frozen BK179.out 3) | (go_at_call 64; (with_reducible refine (terrlaw5_ordered.calls ((rd_T42 ((rd_T36 l0 x22_2).f1) (rd T8 x22_2)).f0.f0) ((rd_T42 ((rd_T36 l0 x22_2).f1) (rd T8 x22_2)).f0.f1) ((rd_T42 ((rd_T36 l0 x22_2).f1) (rd T8 x22_2)).f1.f0) ((rd_T42 ((rd_T36 l0 x22_2).f1) (rd T8 x22_2)).f1.f1) false _ A25.out).mono ?_); rintro e w85 ⟨rfl, hb⟩; replace BK178 := Aside0.mk (blk_below (g := gb178) (o := .cells #[.int .i64 ((rd_T42 ((rd_T36 l0 x13_1).f1) (rd l1 x13_1)).f0.f0), .int .i64 ((rd_T42 ((rd_T36 l0 x13_1).f1) (rd l1 x13_1)).f0.f1), .int .i64 ((rd_T42 ((rd_T36 l0 x13_1).f1) (rd l1 x13_1)).f1.f0), .int .i64 ((rd_T42 ((rd_T36 l0 x13_1).f1) (rd l1 x13_1)).f1.f1)] 42 (0, 0)) (by (with_reducible repeat (first | refine blk_drewN ?_ _ | refine blk_drew ?_ | refine blk_alloc ?_ _)); exact BK178.out) hb); replace BK179 := Aside0.mk (blk_below (g := gb179) (o := .cells #[.int .i64 ((rd_T42 ((rd_T36 l0 x22_2).f1) (rd T8 x22_2)).f0.f0), .int .i64 ((rd_T42 ((rd_T36 l0 x22_2).f1) (rd T8 x22_2)).f0.f1), .int .i64 ((rd_T42 ((rd_T36 l0 x22_2).f1) (rd T8 x22_2)).f1.f0), .int .i64 ((rd_T42 ((rd_T36 l0 x22_2).f1) (rd T8 x22_2)).f1.f1)] 42 (0, 0)) (by (with_reducible repeat (first | refine blk_drewN ?_ _ | refine blk_drew ?_ | refine blk_alloc ?_ _)); exact BK179.out) hb); replace HB := Aside0.mk (below_step (by repeat (first | (with_reducible first | exact HB.out | apply below_alloc | apply pw_below_drewN | apply below_drew1 | refine below_set ?_ GE178.out | refine below_set ?_ GE179.out) | exact HB.out)) hb); (try clear hb); (try clear hb2); (try clear hk); (try clear hi)))
                go_roundg kj11
                case measure => have := HK1.out; have := HK2.out; have := HJ11.out; omega
                case rel => exact ⟨(wrap64 (x22_2 + 1)), (by first | rfl | (simp; done) | (simp [*]; done)), H', ⟨by have := HK1.out; have := HK2.out; have := HJ11.out; omega⟩, ⟨by repeat (first | (with_reducible first | exact HB.out | apply below_alloc | apply pw_below_drewN | apply below_drew1 | refine below_set ?_ GE178.out | refine below_set ?_ GE179.out) | exact HB.out)⟩⟩
              subst c26
              have H1 : ((terrref5_Near.f ((rd_T42 ((rd_T36 l0 x13_1).f1) (rd l1 x13_1)).f0.f0) ((rd_T42 ((rd_T36 l0 x13_1).f1) (rd l1 x13_1)).f0.f1) ((rd_T42 ((rd_T36 l0 x13_1).f1) (rd l1 x13_1)).f1.f0) ((rd_T42 ((rd_T36 l0 x13_1).f1) (rd l1 x13_1)).f1.f1) ((rd_T42 ((rd_T36 l0 x22_2).f1) (rd T8 x22_2)).f0.f0) ((rd_T42 ((rd_T36 l0 x22_2).f1) (rd T8 x22_2)).f0.f1) ((rd_T42 ((rd_T36 l0 x22_2).f1) (rd T8 x22_2)).f1.f0) ((rd_T42 ((rd_T36 l0 x22_2).f1) (rd T8 x22_2)).f1.f1)).bind fun t182 => (if t182 = true then (some false) else (terrlaw5_possible.l1 kj11 l0 l1 x13_1 (rd l1 x13_1) l1 (l1.length : Int) x13_1 T8 (T8.length : Int) (wrap64 (x22_2 + 1))))) = some r := by rw [if_pos rfl] at H; exact H
              clear H
              have H := H1
              clear H1
              replace H := Option.bind_eq_some_iff.mp H
              obtain ⟨t182, A270, H⟩ := H
              replace H : (if t182 = true then (some false) else (terrlaw5_possible.l1 kj11 l0 l1 x13_1 (rd l1 x13_1) l1 (l1.length : Int) x13_1 T8 (T8.length : Int) (wrap64 (x22_2 + 1)))) = some r := H
              have A27 := Aside0.mk A270
              clear A270
              by_cases c28 : t182 = true
              · subst c28
                have H1 : (some false) = some r := by rw [if_pos rfl] at H; exact H
                clear H
                have H := H1
                clear H1
                obtain rfl := Option.some.inj H
                try go_wp2_with (first | ((with_reducible refine gate_callee (f := 64) rfl ?_); refine goesL_ (some 50) rfl rfl Try.func64 (by kernel_rfl) rfl #[.agg #[.int .i64 ((rd_T42 ((rd_T36 l0 x13_1).f1) (rd l1 x13_1)).f0.f0), .int .i64 ((rd_T42 ((rd_T36 l0 x13_1).f1) (rd l1 x13_1)).f0.f1), .int .i64 ((rd_T42 ((rd_T36 l0 x13_1).f1) (rd l1 x13_1)).f1.f0), .int .i64 ((rd_T42 ((rd_T36 l0 x13_1).f1) (rd l1 x13_1)).f1.f1)]] rfl (by (try simp only [List.map_toArray, List.map_cons, List.map_nil]); first | done | rfl | (simp only [List.length_drop, List.length_take]; rfl)) ?_; (with_reducible refine (terrlaw5_ordered.calls ((rd_T42 ((rd_T36 l0 x13_1).f1) (rd l1 x13_1)).f0.f0) ((rd_T42 ((rd_T36 l0 x13_1).f1) (rd l1 x13_1)).f0.f1) ((rd_T42 ((rd_T36 l0 x13_1).f1) (rd l1 x13_1)).f1.f0) ((rd_T42 ((rd_T36 l0 x13_1).f1) (rd l1 x13_1)).f1.f1) true _ A23.out).mono ?_); rintro e w43 ⟨rfl, hb⟩; refine ⟨_, rfl, ?_⟩; replace BK178 := Aside0.mk (blk_below (g := gb178) (o := .cells #[.int .i64 ((rd_T42 ((rd_T36 l0 x13_1).f1) (rd l1 x13_1)).f0.f0), .int .i64 ((rd_T42 ((rd_T36 l0 x13_1).f1) (rd l1 x13_1)).f0.f1), .int .i64 ((rd_T42 ((rd_T36 l0 x13_1).f1) (rd l1 x13_1)).f1.f0), .int .i64 ((rd_T42 ((rd_T36 l0 x13_1).f1) (rd l1 x13_1)).f1.f1)] 42 (0, 0)) (by (with_reducible repeat (first | refine blk_drewN ?_ _ | refine blk_drew ?_ | refine blk_alloc ?_ _)); refine blk_far ?_ NB178_179.out _; (with_reducible repeat (first | refine blk_drewN ?_ _ | refine blk_drew ?_ | refine blk_alloc ?_ _)); refine blk_far ?_ NB178_179.out _; (with_reducible repeat (first | refine blk_drewN ?_ _ | refine blk_drew ?_ | refine blk_alloc ?_ _)); refine blk_far ?_ NB178_179.out _; (with_reducible repeat (first | refine blk_drewN ?_ _ | refine blk_drew ?_ | refine blk_alloc ?_ _)); refine blk_far ?_ NB178_179.out _; (with_reducible repeat (first | refine blk_drewN ?_ _ | refine blk_drew ?_ | refine blk_alloc ?_ _)); refine blk_put (cs := #[.int .i64 ((rd_T42 ((rd_T36 l0 x13_1).f1) (rd l1 x13_1)).f0.f0), .int .i64 ((rd_T42 ((rd_T36 l0 x13_1).f1) (rd l1 x13_1)).f0.f1), .int .i64 ((rd_T42 ((rd_T36 l0 x13_1).f1) (rd l1 x13_1)).f1.f0), .int .i64 0]) ?_ 3 _ rfl; (with_reducible repeat (first | refine blk_drewN ?_ _ | refine blk_drew ?_ | refine blk_alloc ?_ _)); refine blk_put (cs := #[.int .i64 ((rd_T42 ((rd_T36 l0 x13_1).f1) (rd l1 x13_1)).f0.f0), .int .i64 ((rd_T42 ((rd_T36 l0 x13_1).f1) (rd l1 x13_1)).f0.f1), .int .i64 0, .int .i64 0]) ?_ 2 _ rfl; (with_reducible repeat (first | refine blk_drewN ?_ _ | refine blk_drew ?_ | refine blk_alloc ?_ _)); refine blk_put (cs := #[.int .i64 ((rd_T42 ((rd_T36 l0 x13_1).f1) (rd l1 x13_1)).f0.f0), .int .i64 0, .int .i64 0, .int .i64 0]) ?_ 1 _ rfl; (with_reducible repeat (first | refine blk_drewN ?_ _ | refine blk_drew ?_ | refine blk_alloc ?_ _)); refine blk_put (cs := #[.int .i64 0, .int .i64 0, .int .i64 0, .int .i64 0]) ?_ 0 _ rfl; (with_reducible repeat (first | refine blk_drewN ?_ _ | refine blk_drew ?_ | refine blk_alloc ?_ _)); exact BK178.out) hb); replace BK179 := Aside0.mk (blk_below (g := gb179) (o := .cells #[.int .i64 ((rd_T42 ((rd_T36 l0 x22_2).f1) (rd T8 x22_2)).f0.f0), .int .i64 ((rd_T42 ((rd_T36 l0 x22_2).f1) (rd T8 x22_2)).f0.f1), .int .i64 ((rd_T42 ((rd_T36 l0 x22_2).f1) (rd T8 x22_2)).f1.f0), .int .i64 ((rd_T42 ((rd_T36 l0 x22_2).f1) (rd T8 x22_2)).f1.f1)] 42 (0, 0)) (by (with_reducible repeat (first | refine blk_drewN ?_ _ | refine blk_drew ?_ | refine blk_alloc ?_ _)); refine blk_put (cs := #[.int .i64 ((rd_T42 ((rd_T36 l0 x22_2).f1) (rd T8 x22_2)).f0.f0), .int .i64 ((rd_T42 ((rd_T36 l0 x22_2).f1) (rd T8 x22_2)).f0.f1), .int .i64 ((rd_T42 ((rd_T36 l0 x22_2).f1) (rd T8 x22_2)).f1.f0), .int .i64 0]) ?_ 3 _ rfl; (with_reducible repeat (first | refine blk_drewN ?_ _ | refine blk_drew ?_ | refine blk_alloc ?_ _)); refine blk_put (cs := #[.int .i64 ((rd_T42 ((rd_T36 l0 x22_2).f1) (rd T8 x22_2)).f0.f0), .int .i64 ((rd_T42 ((rd_T36 l0 x22_2).f1) (rd T8 x22_2)).f0.f1), .int .i64 0, .int .i64 0]) ?_ 2 _ rfl; (with_reducible repeat (first | refine blk_drewN ?_ _ | refine blk_drew ?_ | refine blk_alloc ?_ _)); refine blk_put (cs := #[.int .i64 ((rd_T42 ((rd_T36 l0 x22_2).f1) (rd T8 x22_2)).f0.f0), .int .i64 0, .int .i64 0, .int .i64 0]) ?_ 1 _ rfl; (with_reducible repeat (first | refine blk_drewN ?_ _ | refine blk_drew ?_ | refine blk_alloc ?_ _)); refine blk_put (cs := #[.int .i64 0, .int .i64 0, .int .i64 0, .int .i64 0]) ?_ 0 _ rfl; (with_reducible repeat (first | refine blk_drewN ?_ _ | refine blk_drew ?_ | refine blk_alloc ?_ _)); refine blk_far ?_ NB179_178.out _; (with_reducible repeat (first | refine blk_drewN ?_ _ | refine blk_drew ?_ | refine blk_alloc ?_ _)); refine blk_far ?_ NB179_178.out _; (with_reducible repeat (first | refine blk_drewN ?_ _ | refine blk_drew ?_ | refine blk_alloc ?_ _)); refine blk_far ?_ NB179_178.out _; (with_reducible repeat (first | refine blk_drewN ?_ _ | refine blk_drew ?_ | refine blk_alloc ?_ _)); refine blk_far ?_ NB179_178.out _; (with_reducible repeat (first | refine blk_drewN ?_ _ | refine blk_drew ?_ | refine blk_alloc ?_ _)); exact BK179.out) hb); replace HB := Aside0.mk (below_step (by repeat (first | (with_reducible first | exact HB.out | apply below_alloc | apply pw_below_drewN | apply below_drew1 | refine below_set ?_ GE178.out | refine below_set ?_ GE179.out) | exact HB.out)) hb); (try clear hb); (try clear hb2); (try clear hk); (try clear hi); have hcz44_0 : w43.cell? ⟨gb179, 0, none⟩ = some (.int .i64 ((rd_T42 ((rd_T36 l0 x22_2).f1) (rd T8 x22_2)).f0.f0)) := (blk_cell BK179.out 0).trans rfl; have hcz44_1 : w43.cell? ⟨gb179, 1, none⟩ = some (.int .i64 ((rd_T42 ((rd_T36 l0 x22_2).f1) (rd T8 x22_2)).f0.f1)) := (blk_cell BK179.out 1).trans rfl; have hcz44_2 : w43.cell? ⟨gb179, 2, none⟩ = some (.int .i64 ((rd_T42 ((rd_T36 l0 x22_2).f1) (rd T8 x22_2)).f1.f0)) := (blk_cell BK179.out 2).trans rfl; have hcz44_3 : w43.cell? ⟨gb179, 3, none⟩ = some (.int .i64 ((rd_T42 ((rd_T36 l0 x22_2).f1) (rd T8 x22_2)).f1.f1)) := (blk_cell BK179.out 3).trans rfl; have hfz44_0 := blk_frozen BK179.out 0; have hfz44_1 := blk_frozen BK179.out 1; have hfz44_2 := blk_frozen BK179.out 2; have hfz44_3 := blk_frozen BK179.out 3) | (go_at_call 64; (with_reducible refine (terrlaw5_ordered.calls ((rd_T42 ((rd_T36 l0 x22_2).f1) (rd T8 x22_2)).f0.f0) ((rd_T42 ((rd_T36 l0 x22_2).f1) (rd T8 x22_2)).f0.f1) ((rd_T42 ((rd_T36 l0 x22_2).f1) (rd T8 x22_2)).f1.f0) ((rd_T42 ((rd_T36 l0 x22_2).f1) (rd T8 x22_2)).f1.f1) true _ A25.out).mono ?_); rintro e w45 ⟨rfl, hb⟩; replace BK178 := Aside0.mk (blk_below (g := gb178) (o := .cells #[.int .i64 ((rd_T42 ((rd_T36 l0 x13_1).f1) (rd l1 x13_1)).f0.f0), .int .i64 ((rd_T42 ((rd_T36 l0 x13_1).f1) (rd l1 x13_1)).f0.f1), .int .i64 ((rd_T42 ((rd_T36 l0 x13_1).f1) (rd l1 x13_1)).f1.f0), .int .i64 ((rd_T42 ((rd_T36 l0 x13_1).f1) (rd l1 x13_1)).f1.f1)] 42 (0, 0)) (by (with_reducible repeat (first | refine blk_drewN ?_ _ | refine blk_drew ?_ | refine blk_alloc ?_ _)); exact BK178.out) hb); replace BK179 := Aside0.mk (blk_below (g := gb179) (o := .cells #[.int .i64 ((rd_T42 ((rd_T36 l0 x22_2).f1) (rd T8 x22_2)).f0.f0), .int .i64 ((rd_T42 ((rd_T36 l0 x22_2).f1) (rd T8 x22_2)).f0.f1), .int .i64 ((rd_T42 ((rd_T36 l0 x22_2).f1) (rd T8 x22_2)).f1.f0), .int .i64 ((rd_T42 ((rd_T36 l0 x22_2).f1) (rd T8 x22_2)).f1.f1)] 42 (0, 0)) (by (with_reducible repeat (first | refine blk_drewN ?_ _ | refine blk_drew ?_ | refine blk_alloc ?_ _)); exact BK179.out) hb); replace HB := Aside0.mk (below_step (by repeat (first | (with_reducible first | exact HB.out | apply below_alloc | apply pw_below_drewN | apply below_drew1 | refine below_set ?_ GE178.out | refine below_set ?_ GE179.out) | exact HB.out)) hb); (try clear hb); (try clear hb2); (try clear hk); (try clear hi); have hcz46_0 : w45.cell? ⟨gb178, 0, none⟩ = some (.int .i64 ((rd_T42 ((rd_T36 l0 x13_1).f1) (rd l1 x13_1)).f0.f0)) := (blk_cell BK178.out 0).trans rfl; have hcz46_1 : w45.cell? ⟨gb178, 1, none⟩ = some (.int .i64 ((rd_T42 ((rd_T36 l0 x13_1).f1) (rd l1 x13_1)).f0.f1)) := (blk_cell BK178.out 1).trans rfl; have hcz46_2 : w45.cell? ⟨gb178, 2, none⟩ = some (.int .i64 ((rd_T42 ((rd_T36 l0 x13_1).f1) (rd l1 x13_1)).f1.f0)) := (blk_cell BK178.out 2).trans rfl; have hcz46_3 : w45.cell? ⟨gb178, 3, none⟩ = some (.int .i64 ((rd_T42 ((rd_T36 l0 x13_1).f1) (rd l1 x13_1)).f1.f1)) := (blk_cell BK178.out 3).trans rfl; have hfz46_0 := blk_frozen BK178.out 0; have hfz46_1 := blk_frozen BK178.out 1; have hfz46_2 := blk_frozen BK178.out 2; have hfz46_3 := blk_frozen BK178.out 3; have hcz47_0 : w45.cell? ⟨gb179, 0, none⟩ = some (.int .i64 ((rd_T42 ((rd_T36 l0 x22_2).f1) (rd T8 x22_2)).f0.f0)) := (blk_cell BK179.out 0).trans rfl; have hcz47_1 : w45.cell? ⟨gb179, 1, none⟩ = some (.int .i64 ((rd_T42 ((rd_T36 l0 x22_2).f1) (rd T8 x22_2)).f0.f1)) := (blk_cell BK179.out 1).trans rfl; have hcz47_2 : w45.cell? ⟨gb179, 2, none⟩ = some (.int .i64 ((rd_T42 ((rd_T36 l0 x22_2).f1) (rd T8 x22_2)).f1.f0)) := (blk_cell BK179.out 2).trans rfl; have hcz47_3 : w45.cell? ⟨gb179, 3, none⟩ = some (.int .i64 ((rd_T42 ((rd_T36 l0 x22_2).f1) (rd T8 x22_2)).f1.f1)) := (blk_cell BK179.out 3).trans rfl; have hfz47_0 := blk_frozen BK179.out 0; have hfz47_1 := blk_frozen BK179.out 1; have hfz47_2 := blk_frozen BK179.out 2; have hfz47_3 := blk_frozen BK179.out 3) | (go_at_call 65; (with_reducible refine (terrref5_Near.calls ((rd_T42 ((rd_T36 l0 x13_1).f1) (rd l1 x13_1)).f0.f0) ((rd_T42 ((rd_T36 l0 x13_1).f1) (rd l1 x13_1)).f0.f1) ((rd_T42 ((rd_T36 l0 x13_1).f1) (rd l1 x13_1)).f1.f0) ((rd_T42 ((rd_T36 l0 x13_1).f1) (rd l1 x13_1)).f1.f1) ((rd_T42 ((rd_T36 l0 x22_2).f1) (rd T8 x22_2)).f0.f0) ((rd_T42 ((rd_T36 l0 x22_2).f1) (rd T8 x22_2)).f0.f1) ((rd_T42 ((rd_T36 l0 x22_2).f1) (rd T8 x22_2)).f1.f0) ((rd_T42 ((rd_T36 l0 x22_2).f1) (rd T8 x22_2)).f1.f1) true _ A27.out).mono ?_); rintro e w48 ⟨rfl, hb⟩; replace BK178 := Aside0.mk (blk_below (g := gb178) (o := .cells #[.int .i64 ((rd_T42 ((rd_T36 l0 x13_1).f1) (rd l1 x13_1)).f0.f0), .int .i64 ((rd_T42 ((rd_T36 l0 x13_1).f1) (rd l1 x13_1)).f0.f1), .int .i64 ((rd_T42 ((rd_T36 l0 x13_1).f1) (rd l1 x13_1)).f1.f0), .int .i64 ((rd_T42 ((rd_T36 l0 x13_1).f1) (rd l1 x13_1)).f1.f1)] 42 (0, 0)) (by (with_reducible repeat (first | refine blk_drewN ?_ _ | refine blk_drew ?_ | refine blk_alloc ?_ _)); exact BK178.out) hb); replace BK179 := Aside0.mk (blk_below (g := gb179) (o := .cells #[.int .i64 ((rd_T42 ((rd_T36 l0 x22_2).f1) (rd T8 x22_2)).f0.f0), .int .i64 ((rd_T42 ((rd_T36 l0 x22_2).f1) (rd T8 x22_2)).f0.f1), .int .i64 ((rd_T42 ((rd_T36 l0 x22_2).f1) (rd T8 x22_2)).f1.f0), .int .i64 ((rd_T42 ((rd_T36 l0 x22_2).f1) (rd T8 x22_2)).f1.f1)] 42 (0, 0)) (by (with_reducible repeat (first | refine blk_drewN ?_ _ | refine blk_drew ?_ | refine blk_alloc ?_ _)); exact BK179.out) hb); replace HB := Aside0.mk (below_step (by repeat (first | (with_reducible first | exact HB.out | apply below_alloc | apply pw_below_drewN | apply below_drew1 | refine below_set ?_ GE178.out | refine below_set ?_ GE179.out) | exact HB.out)) hb); (try clear hb); (try clear hb2); (try clear hk); (try clear hi)))
                go_ret
                exact ⟨by first | rfl | (simp [errW_none, errW_some] <;> rfl) | (simp [*, errW_none, errW_some] <;> rfl), by repeat (first | (with_reducible first | exact HB.out | apply below_alloc | apply pw_below_drewN | apply below_drew1 | refine below_set ?_ GE178.out | refine below_set ?_ GE179.out) | exact HB.out)⟩
              replace c28 := Bool.eq_false_iff.mpr c28
              subst c28
              have H1 : (terrlaw5_possible.l1 kj11 l0 l1 x13_1 (rd l1 x13_1) l1 (l1.length : Int) x13_1 T8 (T8.length : Int) (wrap64 (x22_2 + 1))) = some r := by rw [if_neg (show ¬ (false = true) by decide)] at H; exact H
              clear H
              have H := H1
              clear H1
              have H' := Aside0.mk H
              clear H
              try go_wp2_with (first | ((with_reducible refine gate_callee (f := 64) rfl ?_); refine goesL_ (some 50) rfl rfl Try.func64 (by kernel_rfl) rfl #[.agg #[.int .i64 ((rd_T42 ((rd_T36 l0 x13_1).f1) (rd l1 x13_1)).f0.f0), .int .i64 ((rd_T42 ((rd_T36 l0 x13_1).f1) (rd l1 x13_1)).f0.f1), .int .i64 ((rd_T42 ((rd_T36 l0 x13_1).f1) (rd l1 x13_1)).f1.f0), .int .i64 ((rd_T42 ((rd_T36 l0 x13_1).f1) (rd l1 x13_1)).f1.f1)]] rfl (by (try simp only [List.map_toArray, List.map_cons, List.map_nil]); first | done | rfl | (simp only [List.length_drop, List.length_take]; rfl)) ?_; (with_reducible refine (terrlaw5_ordered.calls ((rd_T42 ((rd_T36 l0 x13_1).f1) (rd l1 x13_1)).f0.f0) ((rd_T42 ((rd_T36 l0 x13_1).f1) (rd l1 x13_1)).f0.f1) ((rd_T42 ((rd_T36 l0 x13_1).f1) (rd l1 x13_1)).f1.f0) ((rd_T42 ((rd_T36 l0 x13_1).f1) (rd l1 x13_1)).f1.f1) true _ A23.out).mono ?_); rintro e w63 ⟨rfl, hb⟩; refine ⟨_, rfl, ?_⟩; replace BK178 := Aside0.mk (blk_below (g := gb178) (o := .cells #[.int .i64 ((rd_T42 ((rd_T36 l0 x13_1).f1) (rd l1 x13_1)).f0.f0), .int .i64 ((rd_T42 ((rd_T36 l0 x13_1).f1) (rd l1 x13_1)).f0.f1), .int .i64 ((rd_T42 ((rd_T36 l0 x13_1).f1) (rd l1 x13_1)).f1.f0), .int .i64 ((rd_T42 ((rd_T36 l0 x13_1).f1) (rd l1 x13_1)).f1.f1)] 42 (0, 0)) (by (with_reducible repeat (first | refine blk_drewN ?_ _ | refine blk_drew ?_ | refine blk_alloc ?_ _)); refine blk_far ?_ NB178_179.out _; (with_reducible repeat (first | refine blk_drewN ?_ _ | refine blk_drew ?_ | refine blk_alloc ?_ _)); refine blk_far ?_ NB178_179.out _; (with_reducible repeat (first | refine blk_drewN ?_ _ | refine blk_drew ?_ | refine blk_alloc ?_ _)); refine blk_far ?_ NB178_179.out _; (with_reducible repeat (first | refine blk_drewN ?_ _ | refine blk_drew ?_ | refine blk_alloc ?_ _)); refine blk_far ?_ NB178_179.out _; (with_reducible repeat (first | refine blk_drewN ?_ _ | refine blk_drew ?_ | refine blk_alloc ?_ _)); refine blk_put (cs := #[.int .i64 ((rd_T42 ((rd_T36 l0 x13_1).f1) (rd l1 x13_1)).f0.f0), .int .i64 ((rd_T42 ((rd_T36 l0 x13_1).f1) (rd l1 x13_1)).f0.f1), .int .i64 ((rd_T42 ((rd_T36 l0 x13_1).f1) (rd l1 x13_1)).f1.f0), .int .i64 0]) ?_ 3 _ rfl; (with_reducible repeat (first | refine blk_drewN ?_ _ | refine blk_drew ?_ | refine blk_alloc ?_ _)); refine blk_put (cs := #[.int .i64 ((rd_T42 ((rd_T36 l0 x13_1).f1) (rd l1 x13_1)).f0.f0), .int .i64 ((rd_T42 ((rd_T36 l0 x13_1).f1) (rd l1 x13_1)).f0.f1), .int .i64 0, .int .i64 0]) ?_ 2 _ rfl; (with_reducible repeat (first | refine blk_drewN ?_ _ | refine blk_drew ?_ | refine blk_alloc ?_ _)); refine blk_put (cs := #[.int .i64 ((rd_T42 ((rd_T36 l0 x13_1).f1) (rd l1 x13_1)).f0.f0), .int .i64 0, .int .i64 0, .int .i64 0]) ?_ 1 _ rfl; (with_reducible repeat (first | refine blk_drewN ?_ _ | refine blk_drew ?_ | refine blk_alloc ?_ _)); refine blk_put (cs := #[.int .i64 0, .int .i64 0, .int .i64 0, .int .i64 0]) ?_ 0 _ rfl; (with_reducible repeat (first | refine blk_drewN ?_ _ | refine blk_drew ?_ | refine blk_alloc ?_ _)); exact BK178.out) hb); replace BK179 := Aside0.mk (blk_below (g := gb179) (o := .cells #[.int .i64 ((rd_T42 ((rd_T36 l0 x22_2).f1) (rd T8 x22_2)).f0.f0), .int .i64 ((rd_T42 ((rd_T36 l0 x22_2).f1) (rd T8 x22_2)).f0.f1), .int .i64 ((rd_T42 ((rd_T36 l0 x22_2).f1) (rd T8 x22_2)).f1.f0), .int .i64 ((rd_T42 ((rd_T36 l0 x22_2).f1) (rd T8 x22_2)).f1.f1)] 42 (0, 0)) (by (with_reducible repeat (first | refine blk_drewN ?_ _ | refine blk_drew ?_ | refine blk_alloc ?_ _)); refine blk_put (cs := #[.int .i64 ((rd_T42 ((rd_T36 l0 x22_2).f1) (rd T8 x22_2)).f0.f0), .int .i64 ((rd_T42 ((rd_T36 l0 x22_2).f1) (rd T8 x22_2)).f0.f1), .int .i64 ((rd_T42 ((rd_T36 l0 x22_2).f1) (rd T8 x22_2)).f1.f0), .int .i64 0]) ?_ 3 _ rfl; (with_reducible repeat (first | refine blk_drewN ?_ _ | refine blk_drew ?_ | refine blk_alloc ?_ _)); refine blk_put (cs := #[.int .i64 ((rd_T42 ((rd_T36 l0 x22_2).f1) (rd T8 x22_2)).f0.f0), .int .i64 ((rd_T42 ((rd_T36 l0 x22_2).f1) (rd T8 x22_2)).f0.f1), .int .i64 0, .int .i64 0]) ?_ 2 _ rfl; (with_reducible repeat (first | refine blk_drewN ?_ _ | refine blk_drew ?_ | refine blk_alloc ?_ _)); refine blk_put (cs := #[.int .i64 ((rd_T42 ((rd_T36 l0 x22_2).f1) (rd T8 x22_2)).f0.f0), .int .i64 0, .int .i64 0, .int .i64 0]) ?_ 1 _ rfl; (with_reducible repeat (first | refine blk_drewN ?_ _ | refine blk_drew ?_ | refine blk_alloc ?_ _)); refine blk_put (cs := #[.int .i64 0, .int .i64 0, .int .i64 0, .int .i64 0]) ?_ 0 _ rfl; (with_reducible repeat (first | refine blk_drewN ?_ _ | refine blk_drew ?_ | refine blk_alloc ?_ _)); refine blk_far ?_ NB179_178.out _; (with_reducible repeat (first | refine blk_drewN ?_ _ | refine blk_drew ?_ | refine blk_alloc ?_ _)); refine blk_far ?_ NB179_178.out _; (with_reducible repeat (first | refine blk_drewN ?_ _ | refine blk_drew ?_ | refine blk_alloc ?_ _)); refine blk_far ?_ NB179_178.out _; (with_reducible repeat (first | refine blk_drewN ?_ _ | refine blk_drew ?_ | refine blk_alloc ?_ _)); refine blk_far ?_ NB179_178.out _; (with_reducible repeat (first | refine blk_drewN ?_ _ | refine blk_drew ?_ | refine blk_alloc ?_ _)); exact BK179.out) hb); replace HB := Aside0.mk (below_step (by repeat (first | (with_reducible first | exact HB.out | apply below_alloc | apply pw_below_drewN | apply below_drew1 | refine below_set ?_ GE178.out | refine below_set ?_ GE179.out) | exact HB.out)) hb); (try clear hb); (try clear hb2); (try clear hk); (try clear hi); have hcz64_0 : w63.cell? ⟨gb179, 0, none⟩ = some (.int .i64 ((rd_T42 ((rd_T36 l0 x22_2).f1) (rd T8 x22_2)).f0.f0)) := (blk_cell BK179.out 0).trans rfl; have hcz64_1 : w63.cell? ⟨gb179, 1, none⟩ = some (.int .i64 ((rd_T42 ((rd_T36 l0 x22_2).f1) (rd T8 x22_2)).f0.f1)) := (blk_cell BK179.out 1).trans rfl; have hcz64_2 : w63.cell? ⟨gb179, 2, none⟩ = some (.int .i64 ((rd_T42 ((rd_T36 l0 x22_2).f1) (rd T8 x22_2)).f1.f0)) := (blk_cell BK179.out 2).trans rfl; have hcz64_3 : w63.cell? ⟨gb179, 3, none⟩ = some (.int .i64 ((rd_T42 ((rd_T36 l0 x22_2).f1) (rd T8 x22_2)).f1.f1)) := (blk_cell BK179.out 3).trans rfl; have hfz64_0 := blk_frozen BK179.out 0; have hfz64_1 := blk_frozen BK179.out 1; have hfz64_2 := blk_frozen BK179.out 2; have hfz64_3 := blk_frozen BK179.out 3) | (go_at_call 64; (with_reducible refine (terrlaw5_ordered.calls ((rd_T42 ((rd_T36 l0 x22_2).f1) (rd T8 x22_2)).f0.f0) ((rd_T42 ((rd_T36 l0 x22_2).f1) (rd T8 x22_2)).f0.f1) ((rd_T42 ((rd_T36 l0 x22_2).f1) (rd T8 x22_2)).f1.f0) ((rd_T42 ((rd_T36 l0 x22_2).f1) (rd T8 x22_2)).f1.f1) true _ A25.out).mono ?_); rintro e w65 ⟨rfl, hb⟩; replace BK178 := Aside0.mk (blk_below (g := gb178) (o := .cells #[.int .i64 ((rd_T42 ((rd_T36 l0 x13_1).f1) (rd l1 x13_1)).f0.f0), .int .i64 ((rd_T42 ((rd_T36 l0 x13_1).f1) (rd l1 x13_1)).f0.f1), .int .i64 ((rd_T42 ((rd_T36 l0 x13_1).f1) (rd l1 x13_1)).f1.f0), .int .i64 ((rd_T42 ((rd_T36 l0 x13_1).f1) (rd l1 x13_1)).f1.f1)] 42 (0, 0)) (by (with_reducible repeat (first | refine blk_drewN ?_ _ | refine blk_drew ?_ | refine blk_alloc ?_ _)); exact BK178.out) hb); replace BK179 := Aside0.mk (blk_below (g := gb179) (o := .cells #[.int .i64 ((rd_T42 ((rd_T36 l0 x22_2).f1) (rd T8 x22_2)).f0.f0), .int .i64 ((rd_T42 ((rd_T36 l0 x22_2).f1) (rd T8 x22_2)).f0.f1), .int .i64 ((rd_T42 ((rd_T36 l0 x22_2).f1) (rd T8 x22_2)).f1.f0), .int .i64 ((rd_T42 ((rd_T36 l0 x22_2).f1) (rd T8 x22_2)).f1.f1)] 42 (0, 0)) (by (with_reducible repeat (first | refine blk_drewN ?_ _ | refine blk_drew ?_ | refine blk_alloc ?_ _)); exact BK179.out) hb); replace HB := Aside0.mk (below_step (by repeat (first | (with_reducible first | exact HB.out | apply below_alloc | apply pw_below_drewN | apply below_drew1 | refine below_set ?_ GE178.out | refine below_set ?_ GE179.out) | exact HB.out)) hb); (try clear hb); (try clear hb2); (try clear hk); (try clear hi); have hcz66_0 : w65.cell? ⟨gb178, 0, none⟩ = some (.int .i64 ((rd_T42 ((rd_T36 l0 x13_1).f1) (rd l1 x13_1)).f0.f0)) := (blk_cell BK178.out 0).trans rfl; have hcz66_1 : w65.cell? ⟨gb178, 1, none⟩ = some (.int .i64 ((rd_T42 ((rd_T36 l0 x13_1).f1) (rd l1 x13_1)).f0.f1)) := (blk_cell BK178.out 1).trans rfl; have hcz66_2 : w65.cell? ⟨gb178, 2, none⟩ = some (.int .i64 ((rd_T42 ((rd_T36 l0 x13_1).f1) (rd l1 x13_1)).f1.f0)) := (blk_cell BK178.out 2).trans rfl; have hcz66_3 : w65.cell? ⟨gb178, 3, none⟩ = some (.int .i64 ((rd_T42 ((rd_T36 l0 x13_1).f1) (rd l1 x13_1)).f1.f1)) := (blk_cell BK178.out 3).trans rfl; have hfz66_0 := blk_frozen BK178.out 0; have hfz66_1 := blk_frozen BK178.out 1; have hfz66_2 := blk_frozen BK178.out 2; have hfz66_3 := blk_frozen BK178.out 3; have hcz67_0 : w65.cell? ⟨gb179, 0, none⟩ = some (.int .i64 ((rd_T42 ((rd_T36 l0 x22_2).f1) (rd T8 x22_2)).f0.f0)) := (blk_cell BK179.out 0).trans rfl; have hcz67_1 : w65.cell? ⟨gb179, 1, none⟩ = some (.int .i64 ((rd_T42 ((rd_T36 l0 x22_2).f1) (rd T8 x22_2)).f0.f1)) := (blk_cell BK179.out 1).trans rfl; have hcz67_2 : w65.cell? ⟨gb179, 2, none⟩ = some (.int .i64 ((rd_T42 ((rd_T36 l0 x22_2).f1) (rd T8 x22_2)).f1.f0)) := (blk_cell BK179.out 2).trans rfl; have hcz67_3 : w65.cell? ⟨gb179, 3, none⟩ = some (.int .i64 ((rd_T42 ((rd_T36 l0 x22_2).f1) (rd T8 x22_2)).f1.f1)) := (blk_cell BK179.out 3).trans rfl; have hfz67_0 := blk_frozen BK179.out 0; have hfz67_1 := blk_frozen BK179.out 1; have hfz67_2 := blk_frozen BK179.out 2; have hfz67_3 := blk_frozen BK179.out 3) | (go_at_call 65; (with_reducible refine (terrref5_Near.calls ((rd_T42 ((rd_T36 l0 x13_1).f1) (rd l1 x13_1)).f0.f0) ((rd_T42 ((rd_T36 l0 x13_1).f1) (rd l1 x13_1)).f0.f1) ((rd_T42 ((rd_T36 l0 x13_1).f1) (rd l1 x13_1)).f1.f0) ((rd_T42 ((rd_T36 l0 x13_1).f1) (rd l1 x13_1)).f1.f1) ((rd_T42 ((rd_T36 l0 x22_2).f1) (rd T8 x22_2)).f0.f0) ((rd_T42 ((rd_T36 l0 x22_2).f1) (rd T8 x22_2)).f0.f1) ((rd_T42 ((rd_T36 l0 x22_2).f1) (rd T8 x22_2)).f1.f0) ((rd_T42 ((rd_T36 l0 x22_2).f1) (rd T8 x22_2)).f1.f1) false _ A27.out).mono ?_); rintro e w68 ⟨rfl, hb⟩; replace BK178 := Aside0.mk (blk_below (g := gb178) (o := .cells #[.int .i64 ((rd_T42 ((rd_T36 l0 x13_1).f1) (rd l1 x13_1)).f0.f0), .int .i64 ((rd_T42 ((rd_T36 l0 x13_1).f1) (rd l1 x13_1)).f0.f1), .int .i64 ((rd_T42 ((rd_T36 l0 x13_1).f1) (rd l1 x13_1)).f1.f0), .int .i64 ((rd_T42 ((rd_T36 l0 x13_1).f1) (rd l1 x13_1)).f1.f1)] 42 (0, 0)) (by (with_reducible repeat (first | refine blk_drewN ?_ _ | refine blk_drew ?_ | refine blk_alloc ?_ _)); exact BK178.out) hb); replace BK179 := Aside0.mk (blk_below (g := gb179) (o := .cells #[.int .i64 ((rd_T42 ((rd_T36 l0 x22_2).f1) (rd T8 x22_2)).f0.f0), .int .i64 ((rd_T42 ((rd_T36 l0 x22_2).f1) (rd T8 x22_2)).f0.f1), .int .i64 ((rd_T42 ((rd_T36 l0 x22_2).f1) (rd T8 x22_2)).f1.f0), .int .i64 ((rd_T42 ((rd_T36 l0 x22_2).f1) (rd T8 x22_2)).f1.f1)] 42 (0, 0)) (by (with_reducible repeat (first | refine blk_drewN ?_ _ | refine blk_drew ?_ | refine blk_alloc ?_ _)); exact BK179.out) hb); replace HB := Aside0.mk (below_step (by repeat (first | (with_reducible first | exact HB.out | apply below_alloc | apply pw_below_drewN | apply below_drew1 | refine below_set ?_ GE178.out | refine below_set ?_ GE179.out) | exact HB.out)) hb); (try clear hb); (try clear hb2); (try clear hk); (try clear hi)))
              go_roundg kj11
              case measure => have := HK1.out; have := HK2.out; have := HJ11.out; omega
              case rel => exact ⟨(wrap64 (x22_2 + 1)), (by first | rfl | (simp; done) | (simp [*]; done)), H', ⟨by have := HK1.out; have := HK2.out; have := HJ11.out; omega⟩, ⟨by repeat (first | (with_reducible first | exact HB.out | apply below_alloc | apply pw_below_drewN | apply below_drew1 | refine below_set ?_ GE178.out | refine below_set ?_ GE179.out) | exact HB.out)⟩⟩
end Go.Proofs.Ytdmhnjpblpfbfaa.Q
