/- What the Go function terrlaw5_tilesAt comes to, and its contract. Condition: its printed twin gives an answer. -/
import Derived.Test.YtojehbkadlmbjaaZlQf54
import Derived.Test.YtojehbkadlmbjaaZlQf55
import Derived.Test.YtojehbkadlmbjaaZlQf56
namespace Go.Proofs.Ytojehbkadlmbjaa.Q
open Go.RowKit Go.Proofs.YtojehbkadlmbjaaW.PrintWords Go.Proofs.YtojehbkadlmbjaaW.PrintLast Go.Proofs.YtojehbkadlmbjaaW.PrintMore
attribute [local go_sem] max2_int min2_int max_two min_two max_three min_three max_four min_four
set_option linter.unusedVariables false
set_option linter.unusedSimpArgs false
attribute [local go_sem high] eqA34
/-! ### terrlaw5_tilesAt: function 44 -/
mutual
def terrlaw5_tilesAt.j0 : Nat → Int → Bool → Int → Int → Int → Int → Option ((List (S34)) × Int)
  | 0, _, _, _, _, _, _ => none
  | k + 1, x1, x22, x157000, x157001, x157002, x157003 => if x22 = true then (some (([] : List (S34)), 1)) else (if 0 ≤ x1 then (if (shl .i64 1 x1) = 0 then (none) else (terrlaw5_tilesAt.l0 k x1 (wrap64 (Int.tdiv 2097152 (shl .i64 1 x1))) 0 0 (shl .i64 1 x1) 0 x157000 x157001 x157002 x157003)) else (none))
def terrlaw5_tilesAt.l0 : Nat → Int → Int → Int → Int → Int → Int → Int → Int → Int → Int → Option ((List (S34)) × Int)
  | 0, _, _, _, _, _, _, _, _, _, _ => none
  | k + 1, x1, x6, x7, x8, x27, x28, x157000, x157001, x157002, x157003 => if x28 < x27 then (if (wrap64 ((wrap64 (x28 * x6)) - 1048576)) ≤ x157002 then (terrlaw5_tilesAt.j2 k x1 x6 x7 x8 (wrap64 ((wrap64 (x28 * x6)) - 1048576)) x27 x28 (decide (x157000 ≤ (wrap64 ((wrap64 ((wrap64 (x28 * x6)) - 1048576)) + x6)))) x157000 x157001 x157002 x157003) else (terrlaw5_tilesAt.j2 k x1 x6 x7 x8 (wrap64 ((wrap64 (x28 * x6)) - 1048576)) x27 x28 false x157000 x157001 x157002 x157003)) else (if (wrap64 (x7 * x8)) > 1024 then (some (([] : List (S34)), 2)) else ((terrref5_TilesIn.f k 0 0 0 x157000 x157001 x157002 x157003 x1).bind fun t158 => (if okL x1 t158 = true then some (srt t158, 0) else none)))
def terrlaw5_tilesAt.j2 : Nat → Int → Int → Int → Int → Int → Int → Int → Bool → Int → Int → Int → Int → Option ((List (S34)) × Int)
  | 0, _, _, _, _, _, _, _, _, _, _, _, _ => none
  | k + 1, x1, x6, x7, x8, x10, x27, x28, x48, x157000, x157001, x157002, x157003 => if x48 = true then (if x10 ≤ x157003 then (if x157001 ≤ (wrap64 (x10 + x6)) then (terrlaw5_tilesAt.l0 k x1 x6 (wrap64 (x7 + 1)) (wrap64 (x8 + 1)) x27 (wrap64 (x28 + 1)) x157000 x157001 x157002 x157003) else (terrlaw5_tilesAt.l0 k x1 x6 (wrap64 (x7 + 1)) x8 x27 (wrap64 (x28 + 1)) x157000 x157001 x157002 x157003)) else (terrlaw5_tilesAt.l0 k x1 x6 (wrap64 (x7 + 1)) x8 x27 (wrap64 (x28 + 1)) x157000 x157001 x157002 x157003)) else (if x10 ≤ x157003 then (if x157001 ≤ (wrap64 (x10 + x6)) then (terrlaw5_tilesAt.l0 k x1 x6 x7 (wrap64 (x8 + 1)) x27 (wrap64 (x28 + 1)) x157000 x157001 x157002 x157003) else (terrlaw5_tilesAt.l0 k x1 x6 x7 x8 x27 (wrap64 (x28 + 1)) x157000 x157001 x157002 x157003)) else (terrlaw5_tilesAt.l0 k x1 x6 x7 x8 x27 (wrap64 (x28 + 1)) x157000 x157001 x157002 x157003))
end
def terrlaw5_tilesAt.f (k : Nat) (a0_0 : Int) (a0_1 : Int) (a0_2 : Int) (a0_3 : Int) (a1 : Int) : Option ((List (S34)) × Int) := if a1 < 0 then (terrlaw5_tilesAt.j0 k a1 true a0_0 a0_1 a0_2 a0_3) else (if a1 > 10 then (terrlaw5_tilesAt.j0 k a1 true a0_0 a0_1 a0_2 a0_3) else ((terrlaw5_boxOk.f a0_0 a0_1 a0_2 a0_3).bind fun t157 => (terrlaw5_tilesAt.j0 k a1 (!t157) a0_0 a0_1 a0_2 a0_3)))
set_option maxHeartbeats 8000000 in
set_option maxRecDepth 100000 in
theorem terrlaw5_tilesAt.calls (k : Nat) (a0_0 : Int) (a0_1 : Int) (a0_2 : Int) (a0_3 : Int) (a1 : Int) (r1 : List (S34)) (r2 : Int) (w : World) (h : terrlaw5_tilesAt.f k a0_0 a0_1 a0_2 a0_3 a1 = some (r1, r2)) :
    Calls Try.prog 44 #[.agg #[.int .i64 a0_0, .int .i64 a0_1, .int .i64 a0_2, .int .i64 a0_3], .int .i64 a1] w fun e w' => ∃ v0_ : Value, e = .returned (.tuple #[v0_, .int .i64 r2]) ∧ Kd.R k34 34 w' w.heap.size (fun _ => True) v0_ r1 ∧ Below w.heap.size w w' := by
  have hu44 := Try.underlying44
  have hu34 := Try.underlying34
  have HB := Aside0.mk (Below.refl w.heap.size w)
  have H : (if a1 < 0 then (terrlaw5_tilesAt.j0 k a1 true a0_0 a0_1 a0_2 a0_3) else (if a1 > 10 then (terrlaw5_tilesAt.j0 k a1 true a0_0 a0_1 a0_2 a0_3) else ((terrlaw5_boxOk.f a0_0 a0_1 a0_2 a0_3).bind fun t157 => (terrlaw5_tilesAt.j0 k a1 (!t157) a0_0 a0_1 a0_2 a0_3)))) = some (r1, r2) := h
  clear h
  have HC3 := Aside0.mk H
  clear H
  go_enter Try.func44, Try.ntmps44
  go_upto_region 1 with (first | ((with_reducible refine gate_dst (N := 2) rfl ?_); refine box_event ?hg (N := 2) ?hd (cs := #[.int .i64 a0_0, .int .i64 a0_1, .int .i64 a0_2, .int .i64 a0_3]) (t := 44) ?hr ?_; (case hd => rfl); (case hg => rfl); (case hr => first | (go_simp; done) | (go_simp; rfl)); intro gb156 hg w4 hbox hb; have n0_ := Aside0.mk (below_step (by repeat (first | (with_reducible first | exact HB.out | apply below_alloc | apply pw_below_drewN | apply below_drew1) | exact HB.out)) hb); have n1_ := Aside0.mk (hbox); have n2_ := Aside0.mk ((by rw [hg]; exact (below_size (by repeat (first | (with_reducible first | exact HB.out | apply below_alloc | apply pw_below_drewN | apply below_drew1) | exact HB.out))) : w.heap.size ≤ gb156)); have n3_ := Aside0.mk ((by rw [hg]; exact (below_size (by repeat (first | (with_reducible first | exact HB.out | apply below_alloc | apply pw_below_drewN | apply below_drew1) | exact HB.out))) : w.heap.size ≤ gb156)); clear HB; have HB := n0_; have BK156 := n1_; have GW156 := n2_; have GE156 := n3_; clear n0_ n1_ n2_ n3_; clear hb hbox hg))
  (try simp only [Act.put, List.setIfInBounds_toArray, List.set_cons_zero, List.set_cons_succ])
  go_cut [22] (fun v22 wc => ∃ (kq : Nat) (x22_2 : Bool), v22 = .bool x22_2 ∧ Aside0 (terrlaw5_tilesAt.j0 kq a1 x22_2 a0_0 a0_1 a0_2 a0_3 = some (r1, r2)) ∧ Aside0 (kq ≤ k) ∧ Aside0 (wc.heap[gb156]? = some (.cells #[.int .i64 a0_0, .int .i64 a0_1, .int .i64 a0_2, .int .i64 a0_3] 44 (0, 0))) ∧ Aside0 (Below w.heap.size w wc))
  case first =>
    have H := HC3.out
    clear HC3
    by_cases c5 : a1 < 0
    · rw [if_pos c5] at H
      have c5b0 : decide (a1 < 0) = true := decide_eq_true c5
      clear c5
      (first | rw [c5b0] | (simp only [i64_w, i32_w]; rw [c5b0]) | skip)
      have H' := Aside0.mk H
      clear H
      go_wp2
      go_meet
      case rel => exact ⟨_, (true), (by first | rfl | (simp; done) | (simp [*]; done)), H', ⟨by first | omega | exact Nat.le_refl _⟩, ⟨by (with_reducible repeat (first | refine blk_drewN ?_ _ | refine blk_drew ?_ | refine blk_alloc ?_ _)); exact BK156.out⟩, ⟨by repeat (first | (with_reducible first | exact HB.out | apply below_alloc | apply pw_below_drewN | apply below_drew1 | refine below_set ?_ GE156.out) | exact HB.out)⟩⟩
    · rw [if_neg c5] at H
      have c5b0 : decide (a1 < 0) = false := decide_eq_false c5
      clear c5
      (first | rw [c5b0] | (simp only [i64_w, i32_w]; rw [c5b0]) | skip)
      by_cases c6 : a1 > 10
      · rw [if_pos c6] at H
        have c6b0 : decide (10 < a1) = true := decide_eq_true c6
        clear c6
        have H' := Aside0.mk H
        clear H
        go_wp2
        go_meet
        case rel => exact ⟨_, (true), (by first | rfl | (simp; done) | (simp [*]; done)), H', ⟨by first | omega | exact Nat.le_refl _⟩, ⟨by (with_reducible repeat (first | refine blk_drewN ?_ _ | refine blk_drew ?_ | refine blk_alloc ?_ _)); exact BK156.out⟩, ⟨by repeat (first | (with_reducible first | exact HB.out | apply below_alloc | apply pw_below_drewN | apply below_drew1 | refine below_set ?_ GE156.out) | exact HB.out)⟩⟩
      · rw [if_neg c6] at H
        have c6b0 : decide (10 < a1) = false := decide_eq_false c6
        clear c6
        replace H := Option.bind_eq_some_iff.mp H
        obtain ⟨t157, A70, H⟩ := H
        replace H : (terrlaw5_tilesAt.j0 k a1 (!t157) a0_0 a0_1 a0_2 a0_3) = some (r1, r2) := H
        have A7 := Aside0.mk A70
        clear A70
        have H' := Aside0.mk H
        clear H
        have hcz8_0 : w4.cell? ⟨gb156, 0, none⟩ = some (.int .i64 a0_0) := (blk_cell BK156.out 0).trans rfl
        have hcz8_1 : w4.cell? ⟨gb156, 1, none⟩ = some (.int .i64 a0_1) := (blk_cell BK156.out 1).trans rfl
        have hcz8_2 : w4.cell? ⟨gb156, 2, none⟩ = some (.int .i64 a0_2) := (blk_cell BK156.out 2).trans rfl
        have hcz8_3 : w4.cell? ⟨gb156, 3, none⟩ = some (.int .i64 a0_3) := (blk_cell BK156.out 3).trans rfl
        have hfz8_0 := blk_frozen BK156.out 0
        have hfz8_1 := blk_frozen BK156.out 1
        have hfz8_2 := blk_frozen BK156.out 2
        have hfz8_3 := blk_frozen BK156.out 3
        go_wp2_with (first | (go_at_call 54; (with_reducible refine (terrlaw5_boxOk.calls a0_0 a0_1 a0_2 a0_3 t157 _ A7.out).mono ?_); rintro e w9 ⟨rfl, hb⟩; have n0_ := Aside0.mk (blk_below (g := gb156) (o := .cells #[.int .i64 a0_0, .int .i64 a0_1, .int .i64 a0_2, .int .i64 a0_3] 44 (0, 0)) (by (with_reducible repeat (first | refine blk_drewN ?_ _ | refine blk_drew ?_ | refine blk_alloc ?_ _)); exact BK156.out) hb); have n1_ := Aside0.mk (below_step (by repeat (first | (with_reducible first | exact HB.out | apply below_alloc | apply pw_below_drewN | apply below_drew1 | refine below_set ?_ GE156.out) | exact HB.out)) hb); clear BK156; clear HB; have BK156 := n0_; have HB := n1_; clear n0_ n1_; (try clear hb); (try clear hb2); (try clear hk); (try clear hi)))
        go_meet
        case rel => exact ⟨_, (!t157), (by first | rfl | (simp; done) | (simp [*]; done)), H', ⟨by first | omega | exact Nat.le_refl _⟩, ⟨by (with_reducible repeat (first | refine blk_drewN ?_ _ | refine blk_drew ?_ | refine blk_alloc ?_ _)); exact BK156.out⟩, ⟨by repeat (first | (with_reducible first | exact HB.out | apply below_alloc | apply pw_below_drewN | apply below_drew1 | refine below_set ?_ GE156.out) | exact HB.out)⟩⟩
  case rest =>
    clear HC3
    try clear p2
    try clear c4
    try clear c5
    try clear c5b0
    try clear c6
    try clear c6b0
    try clear hcz8_0
    try clear hcz8_1
    try clear hcz8_2
    try clear hcz8_3
    try clear hfz8_0
    try clear hfz8_1
    try clear hfz8_2
    try clear hfz8_3
    obtain ⟨kq, x22_2, rfl, HA, HJ2, BK156, HB⟩ := hcut
    cases kq with
    | zero => exact absurd HA.out (by simp [terrlaw5_tilesAt.j0])
    | succ kj2 =>
      have H := HA.out
      clear HA
      simp only [terrlaw5_tilesAt.j0] at H
      by_cases c10 : x22_2 = true
      · subst c10
        have H1 : (some (([] : List (S34)), 1)) = some (r1, r2) := by rw [if_pos rfl] at H; exact H
        clear H
        have H := H1
        clear H1
        simp only [Option.some.injEq, Prod.mk.injEq] at H
        obtain ⟨rfl, rfl⟩ := H
        go_wp2
        go_ret2
        exact ⟨_, by first | rfl | (simp [errW_none, errW_some] <;> rfl) | (simp [*, errW_none, errW_some] <;> rfl), by first | exact Kd.R_nil _ _ _ _ _ | exact Kd.N_nil _ _ _ _ _ | exact Kd.V_nil _ _ _ _ _ | exact Kd.Q_nil _ _ _ _ _ | exact Kd.S_nil _ _ _ _ _, by repeat (first | (with_reducible first | exact HB.out | apply below_alloc | apply pw_below_drewN | apply below_drew1 | refine below_set ?_ GE156.out) | exact HB.out)⟩
      · replace c10 := Bool.eq_false_iff.mpr c10
        subst c10
        have H1 : (if 0 ≤ a1 then (if (shl .i64 1 a1) = 0 then (none) else (terrlaw5_tilesAt.l0 kj2 a1 (wrap64 (Int.tdiv 2097152 (shl .i64 1 a1))) 0 0 (shl .i64 1 a1) 0 a0_0 a0_1 a0_2 a0_3)) else (none)) = some (r1, r2) := by rw [if_neg (show ¬ (false = true) by decide)] at H; exact H
        clear H
        have H := H1
        clear H1
        by_cases c11 : 0 ≤ a1
        · rw [if_pos c11] at H
          have c11b0 := eq_true c11
          have c11b1 : decide (0 ≤ a1) = true := decide_eq_true c11
          clear c11
          obtain ⟨ji12, hji12⟩ : ∃ j_ : Int, (shl .i64 1 a1) = j_ := ⟨_, rfl⟩
          replace H : (if (ji12) = 0 then (none) else (terrlaw5_tilesAt.l0 kj2 a1 (wrap64 (Int.tdiv 2097152 (ji12))) 0 0 ji12 0 a0_0 a0_1 a0_2 a0_3)) = some (r1, r2) := by first | (rw [hji12] at H; exact H) | (simp only [hji12] at H ⊢; exact H)
          have hji12_ : (IntKind.i64.wrap (1 * 2 ^ min a1.toNat 64)) = ji12 := hji12
          have hji12z : a1 ≤ 64 → (IntKind.i64.wrap (1 * 2 ^ a1.toNat)) = ji12 := shl_small hji12
          have hji12u : (IntKind.i64.wrap (2 ^ min a1.toNat 64)) = ji12 := by have h_ := hji12_; rw [Int.one_mul] at h_; exact h_
          have hji12v : a1 ≤ 64 → (IntKind.i64.wrap (2 ^ a1.toNat)) = ji12 := fun hle_ => by have h_ := hji12z hle_; rw [Int.one_mul] at h_; exact h_
          have hji12y : (wrap64 (1 * 2 ^ min a1.toNat 64)) = ji12 := (i64_w _).symm.trans hji12_
          have hji12x : a1 ≤ 64 → (wrap64 (1 * 2 ^ a1.toNat)) = ji12 := fun h_ => (i64_w _).symm.trans (hji12z h_)
          by_cases c13 : (ji12) = 0
          · rw [if_pos c13] at H
            exact absurd H (by simp)
          · rw [if_neg c13] at H
            have c13b0 : ((ji12) == 0) = false := beq_eq_false_iff_ne.mpr c13
            have c13b1 : ((ji12) != 0) = true := bne_iff_ne.mpr c13
            have c14b0 := eq_true (of_decide_eq_true (by first | (with_reducible assumption) | assumption) : 0 ≤ a1)
            have H' := Aside0.mk H
            clear H
            go_wp2
            go_loopg [7, 8, 28] kj2 (fun kq v7 v8 v28 w' => ∃ (x7_2 : Int) (x8_2 : Int) (x28_2 : Int), v7 = .int .i64 x7_2 ∧ v8 = .int .i64 x8_2 ∧ v28 = .int .i64 x28_2 ∧ Aside0 (terrlaw5_tilesAt.l0 kq a1 (wrap64 (Int.tdiv 2097152 (ji12))) x7_2 x8_2 ji12 x28_2 a0_0 a0_1 a0_2 a0_3 = some (r1, r2)) ∧ Aside0 (kq ≤ kj2) ∧ Aside0 (w'.heap[gb156]? = some (.cells #[.int .i64 a0_0, .int .i64 a0_1, .int .i64 a0_2, .int .i64 a0_3] 44 (0, 0))) ∧ Aside0 (Below w.heap.size w w'))
            case atStart => exact ⟨(0), (0), (0), (by first | rfl | (simp; done) | (simp [*]; done)), (by first | rfl | (simp; done) | (simp [*]; done)), (by first | rfl | (simp; done) | (simp [*]; done)), H', ⟨Nat.le_refl _⟩, ⟨by (with_reducible repeat (first | refine blk_drewN ?_ _ | refine blk_drew ?_ | refine blk_alloc ?_ _)); exact BK156.out⟩, ⟨by repeat (first | (with_reducible first | exact HB.out | apply below_alloc | apply pw_below_drewN | apply below_drew1 | refine below_set ?_ GE156.out) | exact HB.out)⟩⟩
            case round =>
              clear H'
              try clear c1
              try clear p2
              try clear c4
              try clear c5
              try clear c5b0
              try clear c6
              try clear c6b0
              try clear p6
              try clear c10
              try clear c11
              try clear c11b0
              try clear c11b1
              try clear c13
              try clear c13b0
              try clear c13b1
              try clear c14
              try clear c14b0
              try clear c15
              try clear c15b0
              try clear hcz8_0
              try clear hcz8_1
              try clear hcz8_2
              try clear hcz8_3
              try clear hfz8_0
              try clear hfz8_1
              try clear hfz8_2
              try clear hfz8_3
              try clear p2
              obtain ⟨x7_2, x8_2, x28_2, rfl, rfl, rfl, HA, HK2, BK156, HB⟩ := hrel
              cases gk with
              | zero => exact absurd HA.out (by simp [terrlaw5_tilesAt.l0])
              | succ k2 =>
                have H := HA.out
                clear HA
                simp only [terrlaw5_tilesAt.l0] at H
                by_cases c16 : x28_2 < ji12
                · rw [if_pos c16] at H
                  have c16b0 : decide (x28_2 < ji12) = true := decide_eq_true c16
                  clear c16
                  have HC17 := Aside0.mk H
                  clear H
                  go_upto_region 8 with (fail)
                  go_cut [48] (fun v48 wc => ∃ (kq : Nat) (x48_16 : Bool), v48 = .bool x48_16 ∧ Aside0 (terrlaw5_tilesAt.j2 kq a1 (wrap64 (Int.tdiv 2097152 (ji12))) x7_2 x8_2 (wrap64 ((wrap64 (x28_2 * (wrap64 (Int.tdiv 2097152 (ji12))))) - 1048576)) ji12 x28_2 x48_16 a0_0 a0_1 a0_2 a0_3 = some (r1, r2)) ∧ Aside0 (kq ≤ k2) ∧ Aside0 (wc.heap[gb156]? = some (.cells #[.int .i64 a0_0, .int .i64 a0_1, .int .i64 a0_2, .int .i64 a0_3] 44 (0, 0))) ∧ Aside0 (Below w.heap.size w wc))
                  case first =>
                    have H := HC17.out
                    clear HC17
                    by_cases c18 : (wrap64 ((wrap64 (x28_2 * (wrap64 (Int.tdiv 2097152 (ji12))))) - 1048576)) ≤ a0_2
                    · rw [if_pos c18] at H
                      have c18b0 : decide ((wrap64 ((wrap64 (x28_2 * (wrap64 (Int.tdiv 2097152 (ji12))))) - 1048576)) ≤ a0_2) = true := decide_eq_true c18
                      clear c18
                      (first | rw [c18b0] | (simp only [i64_w, i32_w]; rw [c18b0]) | skip)
                      have H' := Aside0.mk H
                      clear H
                      have hcz19_0 : wr.cell? ⟨gb156, 0, none⟩ = some (.int .i64 a0_0) := (blk_cell BK156.out 0).trans rfl
                      have hcz19_1 : wr.cell? ⟨gb156, 1, none⟩ = some (.int .i64 a0_1) := (blk_cell BK156.out 1).trans rfl
                      have hcz19_2 : wr.cell? ⟨gb156, 2, none⟩ = some (.int .i64 a0_2) := (blk_cell BK156.out 2).trans rfl
                      have hcz19_3 : wr.cell? ⟨gb156, 3, none⟩ = some (.int .i64 a0_3) := (blk_cell BK156.out 3).trans rfl
                      have hfz19_0 := blk_frozen BK156.out 0
                      have hfz19_1 := blk_frozen BK156.out 1
                      have hfz19_2 := blk_frozen BK156.out 2
                      have hfz19_3 := blk_frozen BK156.out 3
                      go_wp2
                      go_meet
                      case rel => exact ⟨_, (decide (a0_0 ≤ (wrap64 ((wrap64 ((wrap64 (x28_2 * (wrap64 (Int.tdiv 2097152 (ji12))))) - 1048576)) + (wrap64 (Int.tdiv 2097152 (ji12))))))), (by first | rfl | (simp; done) | (simp only [← hji12] <;> (first | rfl | simp)) | (simp [*]; done)), H', ⟨by have := HJ2.out; have := HK2.out; first | omega | exact Nat.le_refl _⟩, ⟨by (with_reducible repeat (first | refine blk_drewN ?_ _ | refine blk_drew ?_ | refine blk_alloc ?_ _)); exact BK156.out⟩, ⟨by repeat (first | (with_reducible first | exact HB.out | apply below_alloc | apply pw_below_drewN | apply below_drew1 | refine below_set ?_ GE156.out) | exact HB.out)⟩⟩
                    · rw [if_neg c18] at H
                      have c18b0 : decide ((wrap64 ((wrap64 (x28_2 * (wrap64 (Int.tdiv 2097152 (ji12))))) - 1048576)) ≤ a0_2) = false := decide_eq_false c18
                      clear c18
                      (first | rw [c18b0] | (simp only [i64_w, i32_w]; rw [c18b0]) | skip)
                      have H' := Aside0.mk H
                      clear H
                      have hcz20_0 : wr.cell? ⟨gb156, 0, none⟩ = some (.int .i64 a0_0) := (blk_cell BK156.out 0).trans rfl
                      have hcz20_1 : wr.cell? ⟨gb156, 1, none⟩ = some (.int .i64 a0_1) := (blk_cell BK156.out 1).trans rfl
                      have hcz20_2 : wr.cell? ⟨gb156, 2, none⟩ = some (.int .i64 a0_2) := (blk_cell BK156.out 2).trans rfl
                      have hcz20_3 : wr.cell? ⟨gb156, 3, none⟩ = some (.int .i64 a0_3) := (blk_cell BK156.out 3).trans rfl
                      have hfz20_0 := blk_frozen BK156.out 0
                      have hfz20_1 := blk_frozen BK156.out 1
                      have hfz20_2 := blk_frozen BK156.out 2
                      have hfz20_3 := blk_frozen BK156.out 3
                      go_wp2
                      go_meet
                      case rel => exact ⟨_, (false), (by first | rfl | (simp; done) | (simp [*]; done)), H', ⟨by have := HJ2.out; have := HK2.out; first | omega | exact Nat.le_refl _⟩, ⟨by (with_reducible repeat (first | refine blk_drewN ?_ _ | refine blk_drew ?_ | refine blk_alloc ?_ _)); exact BK156.out⟩, ⟨by repeat (first | (with_reducible first | exact HB.out | apply below_alloc | apply pw_below_drewN | apply below_drew1 | refine below_set ?_ GE156.out) | exact HB.out)⟩⟩
                  case rest =>
                    clear HC17
                    try clear c1
                    try clear p2
                    try clear c4
                    try clear c5
                    try clear c5b0
                    try clear c6
                    try clear c6b0
                    try clear p6
                    try clear c10
                    try clear c11
                    try clear c11b0
                    try clear c11b1
                    try clear c13
                    try clear c13b0
                    try clear c13b1
                    try clear c14
                    try clear c14b0
                    try clear c15
                    try clear c15b0
                    try clear c16
                    try clear c16b0
                    try clear c18
                    try clear c18b0
                    try clear hcz19_0
                    try clear hcz19_1
                    try clear hcz19_2
                    try clear hcz19_3
                    try clear hcz20_0
                    try clear hcz20_1
                    try clear hcz20_2
                    try clear hcz20_3
                    try clear hcz8_0
                    try clear hcz8_1
                    try clear hcz8_2
                    try clear hcz8_3
                    try clear hfz19_0
                    try clear hfz19_1
                    try clear hfz19_2
                    try clear hfz19_3
                    try clear hfz20_0
                    try clear hfz20_1
                    try clear hfz20_2
                    try clear hfz20_3
                    try clear hfz8_0
                    try clear hfz8_1
                    try clear hfz8_2
                    try clear hfz8_3
                    try clear p2
                    try clear p6
                    obtain ⟨kq, x48_16, rfl, HA, HJ16, BK156, HB⟩ := hcut
                    cases kq with
                    | zero => exact absurd HA.out (by simp [terrlaw5_tilesAt.j2])
                    | succ kj16 =>
                      have H := HA.out
                      clear HA
                      simp only [terrlaw5_tilesAt.j2] at H
                      by_cases c21 : x48_16 = true
                      · subst c21
                        have H1 : (if (wrap64 ((wrap64 (x28_2 * (wrap64 (Int.tdiv 2097152 (ji12))))) - 1048576)) ≤ a0_3 then (if a0_1 ≤ (wrap64 ((wrap64 ((wrap64 (x28_2 * (wrap64 (Int.tdiv 2097152 (ji12))))) - 1048576)) + (wrap64 (Int.tdiv 2097152 (ji12))))) then (terrlaw5_tilesAt.l0 kj16 a1 (wrap64 (Int.tdiv 2097152 (ji12))) (wrap64 (x7_2 + 1)) (wrap64 (x8_2 + 1)) ji12 (wrap64 (x28_2 + 1)) a0_0 a0_1 a0_2 a0_3) else (terrlaw5_tilesAt.l0 kj16 a1 (wrap64 (Int.tdiv 2097152 (ji12))) (wrap64 (x7_2 + 1)) x8_2 ji12 (wrap64 (x28_2 + 1)) a0_0 a0_1 a0_2 a0_3)) else (terrlaw5_tilesAt.l0 kj16 a1 (wrap64 (Int.tdiv 2097152 (ji12))) (wrap64 (x7_2 + 1)) x8_2 ji12 (wrap64 (x28_2 + 1)) a0_0 a0_1 a0_2 a0_3)) = some (r1, r2) := by rw [if_pos rfl] at H; exact H
                        clear H
                        have H := H1
                        clear H1
                        by_cases c22 : (wrap64 ((wrap64 (x28_2 * (wrap64 (Int.tdiv 2097152 (ji12))))) - 1048576)) ≤ a0_3
                        · rw [if_pos c22] at H
                          have c22b0 : decide ((wrap64 ((wrap64 (x28_2 * (wrap64 (Int.tdiv 2097152 (ji12))))) - 1048576)) ≤ a0_3) = true := decide_eq_true c22
                          clear c22
                          by_cases c23 : a0_1 ≤ (wrap64 ((wrap64 ((wrap64 (x28_2 * (wrap64 (Int.tdiv 2097152 (ji12))))) - 1048576)) + (wrap64 (Int.tdiv 2097152 (ji12)))))
                          · rw [if_pos c23] at H
                            have c23b0 : decide (a0_1 ≤ (wrap64 ((wrap64 ((wrap64 (x28_2 * (wrap64 (Int.tdiv 2097152 (ji12))))) - 1048576)) + (wrap64 (Int.tdiv 2097152 (ji12)))))) = true := decide_eq_true c23
                            clear c23
                            have H' := Aside0.mk H
                            clear H
                            have hcz24_0 : wc.cell? ⟨gb156, 0, none⟩ = some (.int .i64 a0_0) := (blk_cell BK156.out 0).trans rfl
                            have hcz24_1 : wc.cell? ⟨gb156, 1, none⟩ = some (.int .i64 a0_1) := (blk_cell BK156.out 1).trans rfl
                            have hcz24_2 : wc.cell? ⟨gb156, 2, none⟩ = some (.int .i64 a0_2) := (blk_cell BK156.out 2).trans rfl
                            have hcz24_3 : wc.cell? ⟨gb156, 3, none⟩ = some (.int .i64 a0_3) := (blk_cell BK156.out 3).trans rfl
                            have hfz24_0 := blk_frozen BK156.out 0
                            have hfz24_1 := blk_frozen BK156.out 1
                            have hfz24_2 := blk_frozen BK156.out 2
                            have hfz24_3 := blk_frozen BK156.out 3
                            go_wp2
                            go_roundg kj16
                            case measure => have := HJ2.out; have := HK2.out; have := HJ16.out; omega
                            case rel => exact ⟨(wrap64 (x7_2 + 1)), (wrap64 (x8_2 + 1)), (wrap64 (x28_2 + 1)), (by first | rfl | (simp; done) | (simp [*]; done)), (by first | rfl | (simp; done) | (simp [*]; done)), (by first | rfl | (simp; done) | (simp [*]; done)), H', ⟨by have := HJ2.out; have := HK2.out; have := HJ16.out; omega⟩, ⟨by (with_reducible repeat (first | refine blk_drewN ?_ _ | refine blk_drew ?_ | refine blk_alloc ?_ _)); exact BK156.out⟩, ⟨by repeat (first | (with_reducible first | exact HB.out | apply below_alloc | apply pw_below_drewN | apply below_drew1 | refine below_set ?_ GE156.out) | exact HB.out)⟩⟩
                          · rw [if_neg c23] at H
                            have c23b0 : decide (a0_1 ≤ (wrap64 ((wrap64 ((wrap64 (x28_2 * (wrap64 (Int.tdiv 2097152 (ji12))))) - 1048576)) + (wrap64 (Int.tdiv 2097152 (ji12)))))) = false := decide_eq_false c23
                            clear c23
                            have H' := Aside0.mk H
                            clear H
                            have hcz25_0 : wc.cell? ⟨gb156, 0, none⟩ = some (.int .i64 a0_0) := (blk_cell BK156.out 0).trans rfl
                            have hcz25_1 : wc.cell? ⟨gb156, 1, none⟩ = some (.int .i64 a0_1) := (blk_cell BK156.out 1).trans rfl
                            have hcz25_2 : wc.cell? ⟨gb156, 2, none⟩ = some (.int .i64 a0_2) := (blk_cell BK156.out 2).trans rfl
                            have hcz25_3 : wc.cell? ⟨gb156, 3, none⟩ = some (.int .i64 a0_3) := (blk_cell BK156.out 3).trans rfl
                            have hfz25_0 := blk_frozen BK156.out 0
                            have hfz25_1 := blk_frozen BK156.out 1
                            have hfz25_2 := blk_frozen BK156.out 2
                            have hfz25_3 := blk_frozen BK156.out 3
                            go_wp2
                            go_roundg kj16
                            case measure => have := HJ2.out; have := HK2.out; have := HJ16.out; omega
                            case rel => exact ⟨(wrap64 (x7_2 + 1)), (x8_2), (wrap64 (x28_2 + 1)), (by first | rfl | (simp; done) | (simp [*]; done)), (by first | rfl | (simp; done) | (simp [*]; done)), (by first | rfl | (simp; done) | (simp [*]; done)), H', ⟨by have := HJ2.out; have := HK2.out; have := HJ16.out; omega⟩, ⟨by (with_reducible repeat (first | refine blk_drewN ?_ _ | refine blk_drew ?_ | refine blk_alloc ?_ _)); exact BK156.out⟩, ⟨by repeat (first | (with_reducible first | exact HB.out | apply below_alloc | apply pw_below_drewN | apply below_drew1 | refine below_set ?_ GE156.out) | exact HB.out)⟩⟩
                        · rw [if_neg c22] at H
                          have c22b0 : decide ((wrap64 ((wrap64 (x28_2 * (wrap64 (Int.tdiv 2097152 (ji12))))) - 1048576)) ≤ a0_3) = false := decide_eq_false c22
                          clear c22
                          have H' := Aside0.mk H
                          clear H
                          have hcz26_0 : wc.cell? ⟨gb156, 0, none⟩ = some (.int .i64 a0_0) := (blk_cell BK156.out 0).trans rfl
                          have hcz26_1 : wc.cell? ⟨gb156, 1, none⟩ = some (.int .i64 a0_1) := (blk_cell BK156.out 1).trans rfl
                          have hcz26_2 : wc.cell? ⟨gb156, 2, none⟩ = some (.int .i64 a0_2) := (blk_cell BK156.out 2).trans rfl
                          have hcz26_3 : wc.cell? ⟨gb156, 3, none⟩ = some (.int .i64 a0_3) := (blk_cell BK156.out 3).trans rfl
                          have hfz26_0 := blk_frozen BK156.out 0
                          have hfz26_1 := blk_frozen BK156.out 1
                          have hfz26_2 := blk_frozen BK156.out 2
                          have hfz26_3 := blk_frozen BK156.out 3
                          go_wp2
                          go_roundg kj16
                          case measure => have := HJ2.out; have := HK2.out; have := HJ16.out; omega
                          case rel => exact ⟨(wrap64 (x7_2 + 1)), (x8_2), (wrap64 (x28_2 + 1)), (by first | rfl | (simp; done) | (simp [*]; done)), (by first | rfl | (simp; done) | (simp [*]; done)), (by first | rfl | (simp; done) | (simp [*]; done)), H', ⟨by have := HJ2.out; have := HK2.out; have := HJ16.out; omega⟩, ⟨by (with_reducible repeat (first | refine blk_drewN ?_ _ | refine blk_drew ?_ | refine blk_alloc ?_ _)); exact BK156.out⟩, ⟨by repeat (first | (with_reducible first | exact HB.out | apply below_alloc | apply pw_below_drewN | apply below_drew1 | refine below_set ?_ GE156.out) | exact HB.out)⟩⟩
                      · replace c21 := Bool.eq_false_iff.mpr c21
                        subst c21
                        have H1 : (if (wrap64 ((wrap64 (x28_2 * (wrap64 (Int.tdiv 2097152 (ji12))))) - 1048576)) ≤ a0_3 then (if a0_1 ≤ (wrap64 ((wrap64 ((wrap64 (x28_2 * (wrap64 (Int.tdiv 2097152 (ji12))))) - 1048576)) + (wrap64 (Int.tdiv 2097152 (ji12))))) then (terrlaw5_tilesAt.l0 kj16 a1 (wrap64 (Int.tdiv 2097152 (ji12))) x7_2 (wrap64 (x8_2 + 1)) ji12 (wrap64 (x28_2 + 1)) a0_0 a0_1 a0_2 a0_3) else (terrlaw5_tilesAt.l0 kj16 a1 (wrap64 (Int.tdiv 2097152 (ji12))) x7_2 x8_2 ji12 (wrap64 (x28_2 + 1)) a0_0 a0_1 a0_2 a0_3)) else (terrlaw5_tilesAt.l0 kj16 a1 (wrap64 (Int.tdiv 2097152 (ji12))) x7_2 x8_2 ji12 (wrap64 (x28_2 + 1)) a0_0 a0_1 a0_2 a0_3)) = some (r1, r2) := by rw [if_neg (show ¬ (false = true) by decide)] at H; exact H
                        clear H
                        have H := H1
                        clear H1
                        by_cases c27 : (wrap64 ((wrap64 (x28_2 * (wrap64 (Int.tdiv 2097152 (ji12))))) - 1048576)) ≤ a0_3
                        · rw [if_pos c27] at H
                          have c27b0 : decide ((wrap64 ((wrap64 (x28_2 * (wrap64 (Int.tdiv 2097152 (ji12))))) - 1048576)) ≤ a0_3) = true := decide_eq_true c27
                          clear c27
                          by_cases c28 : a0_1 ≤ (wrap64 ((wrap64 ((wrap64 (x28_2 * (wrap64 (Int.tdiv 2097152 (ji12))))) - 1048576)) + (wrap64 (Int.tdiv 2097152 (ji12)))))
                          · rw [if_pos c28] at H
                            have c28b0 : decide (a0_1 ≤ (wrap64 ((wrap64 ((wrap64 (x28_2 * (wrap64 (Int.tdiv 2097152 (ji12))))) - 1048576)) + (wrap64 (Int.tdiv 2097152 (ji12)))))) = true := decide_eq_true c28
                            clear c28
                            have H' := Aside0.mk H
                            clear H
                            have hcz29_0 : wc.cell? ⟨gb156, 0, none⟩ = some (.int .i64 a0_0) := (blk_cell BK156.out 0).trans rfl
                            have hcz29_1 : wc.cell? ⟨gb156, 1, none⟩ = some (.int .i64 a0_1) := (blk_cell BK156.out 1).trans rfl
                            have hcz29_2 : wc.cell? ⟨gb156, 2, none⟩ = some (.int .i64 a0_2) := (blk_cell BK156.out 2).trans rfl
                            have hcz29_3 : wc.cell? ⟨gb156, 3, none⟩ = some (.int .i64 a0_3) := (blk_cell BK156.out 3).trans rfl
                            have hfz29_0 := blk_frozen BK156.out 0
                            have hfz29_1 := blk_frozen BK156.out 1
                            have hfz29_2 := blk_frozen BK156.out 2
                            have hfz29_3 := blk_frozen BK156.out 3
                            go_wp2
                            go_roundg kj16
                            case measure => have := HJ2.out; have := HK2.out; have := HJ16.out; omega
                            case rel => exact ⟨(x7_2), (wrap64 (x8_2 + 1)), (wrap64 (x28_2 + 1)), (by first | rfl | (simp; done) | (simp [*]; done)), (by first | rfl | (simp; done) | (simp [*]; done)), (by first | rfl | (simp; done) | (simp [*]; done)), H', ⟨by have := HJ2.out; have := HK2.out; have := HJ16.out; omega⟩, ⟨by (with_reducible repeat (first | refine blk_drewN ?_ _ | refine blk_drew ?_ | refine blk_alloc ?_ _)); exact BK156.out⟩, ⟨by repeat (first | (with_reducible first | exact HB.out | apply below_alloc | apply pw_below_drewN | apply below_drew1 | refine below_set ?_ GE156.out) | exact HB.out)⟩⟩
                          · rw [if_neg c28] at H
                            have c28b0 : decide (a0_1 ≤ (wrap64 ((wrap64 ((wrap64 (x28_2 * (wrap64 (Int.tdiv 2097152 (ji12))))) - 1048576)) + (wrap64 (Int.tdiv 2097152 (ji12)))))) = false := decide_eq_false c28
                            clear c28
                            have H' := Aside0.mk H
                            clear H
                            have hcz30_0 : wc.cell? ⟨gb156, 0, none⟩ = some (.int .i64 a0_0) := (blk_cell BK156.out 0).trans rfl
                            have hcz30_1 : wc.cell? ⟨gb156, 1, none⟩ = some (.int .i64 a0_1) := (blk_cell BK156.out 1).trans rfl
                            have hcz30_2 : wc.cell? ⟨gb156, 2, none⟩ = some (.int .i64 a0_2) := (blk_cell BK156.out 2).trans rfl
                            have hcz30_3 : wc.cell? ⟨gb156, 3, none⟩ = some (.int .i64 a0_3) := (blk_cell BK156.out 3).trans rfl
                            have hfz30_0 := blk_frozen BK156.out 0
                            have hfz30_1 := blk_frozen BK156.out 1
                            have hfz30_2 := blk_frozen BK156.out 2
                            have hfz30_3 := blk_frozen BK156.out 3
                            go_wp2
                            go_roundg kj16
                            case measure => have := HJ2.out; have := HK2.out; have := HJ16.out; omega
                            case rel => exact ⟨(x7_2), (x8_2), (wrap64 (x28_2 + 1)), (by first | rfl | (simp; done) | (simp [*]; done)), (by first | rfl | (simp; done) | (simp [*]; done)), (by first | rfl | (simp; done) | (simp [*]; done)), H', ⟨by have := HJ2.out; have := HK2.out; have := HJ16.out; omega⟩, ⟨by (with_reducible repeat (first | refine blk_drewN ?_ _ | refine blk_drew ?_ | refine blk_alloc ?_ _)); exact BK156.out⟩, ⟨by repeat (first | (with_reducible first | exact HB.out | apply below_alloc | apply pw_below_drewN | apply below_drew1 | refine below_set ?_ GE156.out) | exact HB.out)⟩⟩
                        · rw [if_neg c27] at H
                          have c27b0 : decide ((wrap64 ((wrap64 (x28_2 * (wrap64 (Int.tdiv 2097152 (ji12))))) - 1048576)) ≤ a0_3) = false := decide_eq_false c27
                          clear c27
                          have H' := Aside0.mk H
                          clear H
                          have hcz31_0 : wc.cell? ⟨gb156, 0, none⟩ = some (.int .i64 a0_0) := (blk_cell BK156.out 0).trans rfl
                          have hcz31_1 : wc.cell? ⟨gb156, 1, none⟩ = some (.int .i64 a0_1) := (blk_cell BK156.out 1).trans rfl
                          have hcz31_2 : wc.cell? ⟨gb156, 2, none⟩ = some (.int .i64 a0_2) := (blk_cell BK156.out 2).trans rfl
                          have hcz31_3 : wc.cell? ⟨gb156, 3, none⟩ = some (.int .i64 a0_3) := (blk_cell BK156.out 3).trans rfl
                          have hfz31_0 := blk_frozen BK156.out 0
                          have hfz31_1 := blk_frozen BK156.out 1
                          have hfz31_2 := blk_frozen BK156.out 2
                          have hfz31_3 := blk_frozen BK156.out 3
                          go_wp2
                          go_roundg kj16
                          case measure => have := HJ2.out; have := HK2.out; have := HJ16.out; omega
                          case rel => exact ⟨(x7_2), (x8_2), (wrap64 (x28_2 + 1)), (by first | rfl | (simp; done) | (simp [*]; done)), (by first | rfl | (simp; done) | (simp [*]; done)), (by first | rfl | (simp; done) | (simp [*]; done)), H', ⟨by have := HJ2.out; have := HK2.out; have := HJ16.out; omega⟩, ⟨by (with_reducible repeat (first | refine blk_drewN ?_ _ | refine blk_drew ?_ | refine blk_alloc ?_ _)); exact BK156.out⟩, ⟨by repeat (first | (with_reducible first | exact HB.out | apply below_alloc | apply pw_below_drewN | apply below_drew1 | refine below_set ?_ GE156.out) | exact HB.out)⟩⟩
                · rw [if_neg c16] at H
                  have c16b0 : decide (x28_2 < ji12) = false := decide_eq_false c16
                  clear c16
                  by_cases c32 : (wrap64 (x7_2 * x8_2)) > 1024
                  · rw [if_pos c32] at H
                    have c32b0 : decide (1024 < (wrap64 (x7_2 * x8_2))) = true := decide_eq_true c32
                    clear c32
                    simp only [Option.some.injEq, Prod.mk.injEq] at H
                    obtain ⟨rfl, rfl⟩ := H
                    go_wp2
                    go_ret2
                    exact ⟨_, by first | rfl | (simp [errW_none, errW_some] <;> rfl) | (simp only [← hji12]; first | rfl | (simp [errW_none, errW_some] <;> rfl)) | (simp [*, errW_none, errW_some] <;> rfl), by first | exact Kd.R_nil _ _ _ _ _ | exact Kd.N_nil _ _ _ _ _ | exact Kd.V_nil _ _ _ _ _ | exact Kd.Q_nil _ _ _ _ _ | exact Kd.S_nil _ _ _ _ _, by repeat (first | (with_reducible first | exact HB.out | apply below_alloc | apply pw_below_drewN | apply below_drew1 | refine below_set ?_ GE156.out) | exact HB.out)⟩
                  · rw [if_neg c32] at H
                    have c32b0 : decide (1024 < (wrap64 (x7_2 * x8_2))) = false := decide_eq_false c32
                    clear c32
                    replace H := Option.bind_eq_some_iff.mp H
                    obtain ⟨t158, A330, H⟩ := H
                    replace H : (if okL a1 t158 = true then some (srt t158, 0) else none) = some (r1, r2) := H
                    by_cases cT : okL a1 t158 = true
                    case neg => rw [if_neg cT] at H; cases H
                    rw [if_pos cT] at H
                    have HT := Aside0.mk cT
                    clear cT
                    have A33 := Aside0.mk A330
                    clear A330
                    simp only [Option.some.injEq, Prod.mk.injEq] at H
                    obtain ⟨rfl, rfl⟩ := H
                    have hcz34_0 : wr.cell? ⟨gb156, 0, none⟩ = some (.int .i64 a0_0) := (blk_cell BK156.out 0).trans rfl
                    have hcz34_1 : wr.cell? ⟨gb156, 1, none⟩ = some (.int .i64 a0_1) := (blk_cell BK156.out 1).trans rfl
                    have hcz34_2 : wr.cell? ⟨gb156, 2, none⟩ = some (.int .i64 a0_2) := (blk_cell BK156.out 2).trans rfl
                    have hcz34_3 : wr.cell? ⟨gb156, 3, none⟩ = some (.int .i64 a0_3) := (blk_cell BK156.out 3).trans rfl
                    have hfz34_0 := blk_frozen BK156.out 0
                    have hfz34_1 := blk_frozen BK156.out 1
                    have hfz34_2 := blk_frozen BK156.out 2
                    have hfz34_3 := blk_frozen BK156.out 3
                    go_wp2_with (first | ((with_reducible refine gate_callee (f := 55) rfl ?_); refine goesL_ (some 75) rfl rfl Try.func55 (by kernel_rfl) rfl #[.agg #[.int .i64 0, .int .i64 0, .int .i64 0], .agg #[.int .i64 a0_0, .int .i64 a0_1, .int .i64 a0_2, .int .i64 a0_3], .int .i64 a1] rfl (by (try simp only [List.map_toArray, List.map_cons, List.map_nil]); first | done | rfl | (simp only [List.length_drop, List.length_take]; rfl)) ?_; (with_reducible refine (terrref5_TilesIn.calls k2 0 0 0 a0_0 a0_1 a0_2 a0_3 a1 t158 _ A33.out).mono ?_); rintro e w35 ⟨v159, rfl, ho0, hb⟩; refine ⟨_, rfl, ?_⟩; have n0_ := Aside0.mk (Kd.R_lower ho0 (below_size (by repeat (first | (with_reducible first | exact HB.out | apply below_alloc | apply pw_below_drewN | apply below_drew1 | refine below_set ?_ GE156.out) | exact HB.out)))); have n1_ := Aside0.mk (blk_below (g := gb156) (o := .cells #[.int .i64 a0_0, .int .i64 a0_1, .int .i64 a0_2, .int .i64 a0_3] 44 (0, 0)) (by (with_reducible repeat (first | refine blk_drewN ?_ _ | refine blk_drew ?_ | refine blk_alloc ?_ _)); exact BK156.out) hb); have n2_ := Aside0.mk (below_step (by repeat (first | (with_reducible first | exact HB.out | apply below_alloc | apply pw_below_drewN | apply below_drew1 | refine below_set ?_ GE156.out) | exact HB.out)) hb); clear BK156; clear HB; have HO160 := n0_; have BK156 := n1_; have HB := n2_; clear n0_ n1_ n2_; (try clear hb); (try clear hb2); (try clear hk); (try clear hi); (try clear ho0)) | ((with_reducible refine gate_callee (f := 56) rfl ?_); refine goesL_ (some 77) rfl rfl Try.func56 (by kernel_rfl) rfl #[v159, .func (.func 39) #[] #[]] rfl (by (try simp only [List.map_toArray, List.map_cons, List.map_nil]); first | done | rfl) ?_; (with_reducible refine (sort_calls a1 v159 t158 _ w.heap.size (by (with_reducible repeat (first | apply Kd.R_alloc | apply Kd.R_drewN | apply Kd.R_drew)); exact HO160.out) HT.out).mono ?_); rintro e w36 ⟨rfl, ho1, hbs⟩; refine ⟨_, rfl, ?_⟩; have n0_ := Aside0.mk ho1; have n2_ := Aside0.mk (hbs _ (by repeat (first | (with_reducible first | exact HB.out | apply below_alloc | apply pw_below_drewN | apply below_drew1 | refine below_set ?_ GE156.out) | exact HB.out))); clear HB HO160; have HO160 := n0_; have HB := n2_; clear n0_ n2_ ho1 hbs; (try clear BK156)))
                    go_ret2
                    exact ⟨_, by first | rfl | (simp [errW_none, errW_some] <;> rfl) | (simp only [← hji12]; first | rfl | (simp [errW_none, errW_some] <;> rfl)) | (simp [*, errW_none, errW_some] <;> rfl), by (with_reducible repeat (first | apply Kd.R_alloc | apply Kd.R_drewN | apply Kd.R_drew)); exact HO160.out, by repeat (first | (with_reducible first | exact HB.out | apply below_alloc | apply pw_below_drewN | apply below_drew1 | refine below_set ?_ GE156.out) | exact HB.out)⟩
        · rw [if_neg c11] at H
          exact absurd H (by simp)
end Go.Proofs.Ytojehbkadlmbjaa.Q

