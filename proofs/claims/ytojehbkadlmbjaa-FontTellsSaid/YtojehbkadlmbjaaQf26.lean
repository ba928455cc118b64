/- What the Go function font_Boxes comes to, and its contract. Condition: its printed twin gives an answer. -/
import Derived.Test.YtojehbkadlmbjaaQf14
namespace Go.Proofs.Ytojehbkadlmbjaa.Q
open Go.RowKit Go.Proofs.YtojehbkadlmbjaaW.PrintWords Go.Proofs.YtojehbkadlmbjaaW.PrintLast Go.Proofs.YtojehbkadlmbjaaW.PrintMore
attribute [local go_sem] max2_int min2_int max_two min_two max_three min_three max_four min_four
set_option linter.unusedVariables false
set_option linter.unusedSimpArgs false
/-! ### font_Boxes: function 26 -/
mutual
def font_Boxes.j0 : Nat → Int → Int → Bool → Int → Int → Option ((List (S44)) × Int)
  | 0, _, _, _, _, _ => none
  | k + 1, x8, x9, x37, x111000, x111001 => if x37 = true then (some (([] : List (S44)), 1)) else ((some (([(⟨wrap64 (x111000 + 2), wrap64 (x111001 + 2)⟩ : S31), (⟨wrap64 (x111000 + 2), wrap64 ((wrap64 (x111001 - 2)) - x9)⟩ : S31), (⟨wrap64 ((wrap64 (x111000 - 2)) - x8), wrap64 (x111001 + 2)⟩ : S31), (⟨wrap64 ((wrap64 (x111000 - 2)) - x8), wrap64 ((wrap64 (x111001 - 2)) - x9)⟩ : S31), (⟨wrap64 (x111000 - (wrap64 (Int.tdiv x8 2))), wrap64 (x111001 + 2)⟩ : S31)] : List (S31)) : List (S31))).bind fun y114 => (font_Boxes.l0 k x8 x9 ([] : List (S44)) y114 (y114.length : Int) 0))
def font_Boxes.l0 : Nat → Int → Int → List (S44) → List (S31) → Int → Int → Option ((List (S44)) × Int)
  | 0, _, _, _, _, _, _ => none
  | k + 1, x8, x9, x11, x83, x84, x85 => if x85 < x84 then (if 0 ≤ x85 then (if x85 < (x83.length : Int) then (if x11.length < 4398046511104 then (font_Boxes.l0 k x8 x9 (x11 ++ [(⟨(⟨(rd_T31 x83 x85).f0, (rd_T31 x83 x85).f1⟩ : S31), (⟨wrap64 (((rd_T31 x83 x85).f0) + x8), wrap64 (((rd_T31 x83 x85).f1) + x9)⟩ : S31)⟩ : S44)]) x83 x84 (wrap64 (x85 + 1))) else (none)) else (none)) else (none)) else (some (x11, 0))
end
def font_Boxes.f (k : Nat) (a0_0 : Int) (a0_1 : Int) (a1 : ByteArray) (a2 : Int) : Option ((List (S44)) × Int) := (font_Size.f k a1 a2).bind fun bt111 => (if bt111.2.2 = 0 then (if (mx a0_0 a0_1) > 1048576 then (font_Boxes.j0 k bt111.1 bt111.2.1 true a0_0 a0_1) else (font_Boxes.j0 k bt111.1 bt111.2.1 (decide ((mn a0_0 a0_1) < (-1048576))) a0_0 a0_1)) else (some (([] : List (S44)), bt111.2.2)))
theorem font_Boxes.mono_l : ∀ k, (∀ y0 y1 y2 y3 y4, LeO (font_Boxes.j0 k y0 y1 y2 y3 y4) (font_Boxes.j0 (k + 1) y0 y1 y2 y3 y4)) ∧ (∀ y0 y1 y2 y3 y4 y5, LeO (font_Boxes.l0 k y0 y1 y2 y3 y4 y5) (font_Boxes.l0 (k + 1) y0 y1 y2 y3 y4 y5))
  | 0 => ⟨fun _ _ _ _ _ r h => by simp [font_Boxes.j0] at h, fun _ _ _ _ _ _ r h => by simp [font_Boxes.l0] at h⟩
  | k + 1 => by
    obtain ⟨ih0, ih1⟩ := font_Boxes.mono_l k
    refine ⟨?_, ?_⟩
    · intro y0 y1 y2 y3 y4
      unfold font_Boxes.j0
      repeat' first
      | (with_reducible exact ih0 _ _ _ _ _)
      | (with_reducible exact ih1 _ _ _ _ _ _)
      | (with_reducible exact font_Size.mono _ _ _)
      | (with_reducible exact LeO.refl _)
      | (with_reducible exact LeO.none _)
      | (with_reducible refine LeO.ite ?_ ?_)
      | (with_reducible refine LeO.bind ?_ (fun _ => ?_))
      | exact ih0 _ _ _ _ _
      | exact ih1 _ _ _ _ _ _
      | exact font_Size.mono _ _ _
      | exact LeO.none _
      | refine LeO.ite ?_ ?_
      | refine LeO.bind ?_ (fun _ => ?_)
    · intro y0 y1 y2 y3 y4 y5
      unfold font_Boxes.l0
      repeat' first
      | (with_reducible exact ih0 _ _ _ _ _)
      | (with_reducible exact ih1 _ _ _ _ _ _)
      | (with_reducible exact font_Size.mono _ _ _)
      | (with_reducible exact LeO.refl _)
      | (with_reducible exact LeO.none _)
      | (with_reducible refine LeO.ite ?_ ?_)
      | (with_reducible refine LeO.bind ?_ (fun _ => ?_))
      | exact ih0 _ _ _ _ _
      | exact ih1 _ _ _ _ _ _
      | exact font_Size.mono _ _ _
      | exact LeO.none _
      | refine LeO.ite ?_ ?_
      | refine LeO.bind ?_ (fun _ => ?_)
theorem font_Boxes.mono : ∀ a0 a1 a2 a3 k, LeO (font_Boxes.f k a0 a1 a2 a3) (font_Boxes.f (k + 1) a0 a1 a2 a3) := by
  intro a0 a1 a2 a3 k
  obtain ⟨ih0, ih1⟩ := font_Boxes.mono_l k
  unfold font_Boxes.f
  repeat' first
      | (with_reducible exact ih0 _ _ _ _ _)
      | (with_reducible exact ih1 _ _ _ _ _ _)
      | (with_reducible exact font_Size.mono _ _ _)
      | (with_reducible exact LeO.refl _)
      | (with_reducible exact LeO.none _)
      | (with_reducible refine LeO.ite ?_ ?_)
      | (with_reducible refine LeO.bind ?_ (fun _ => ?_))
      | exact ih0 _ _ _ _ _
      | exact ih1 _ _ _ _ _ _
      | exact font_Size.mono _ _ _
      | exact LeO.none _
      | refine LeO.ite ?_ ?_
      | refine LeO.bind ?_ (fun _ => ?_)
set_option maxHeartbeats 8000000 in
set_option maxRecDepth 100000 in
theorem font_Boxes.calls (k : Nat) (a0_0 : Int) (a0_1 : Int) (a1 : ByteArray) (a2 : Int) (r1 : List (S44)) (r2 : Int) (w : World) (h : font_Boxes.f k a0_0 a0_1 a1 a2 = some (r1, r2)) :
    Calls Try.prog 26 #[.agg #[.int .i64 a0_0, .int .i64 a0_1], .string a1, .int .i64 a2] w fun e w' => ∃ v0_ : Value, e = .returned (.tuple #[v0_, .int .i64 r2]) ∧ Kd.R k44 44 w' w.heap.size (fun _ => True) v0_ r1 ∧ Below w.heap.size w w' := by
  have hu31 := Try.underlying31
  have hu44 := Try.underlying44
  have HB := Aside0.mk (Below.refl w.heap.size w)
  have H : ((font_Size.f k a1 a2).bind fun bt111 => (if bt111.2.2 = 0 then (if (mx a0_0 a0_1) > 1048576 then (font_Boxes.j0 k bt111.1 bt111.2.1 true a0_0 a0_1) else (font_Boxes.j0 k bt111.1 bt111.2.1 (decide ((mn a0_0 a0_1) < (-1048576))) a0_0 a0_1)) else (some (([] : List (S44)), bt111.2.2)))) = some (r1, r2) := h
  clear h
  replace H := Option.bind_eq_some_iff.mp H
  obtain ⟨⟨t111, t112, t113⟩, A40, H⟩ := H
  replace H : (if t113 = 0 then (if (mx a0_0 a0_1) > 1048576 then (font_Boxes.j0 k t111 t112 true a0_0 a0_1) else (font_Boxes.j0 k t111 t112 (decide ((mn a0_0 a0_1) < (-1048576))) a0_0 a0_1)) else (some (([] : List (S44)), t113))) = some (r1, r2) := H
  have A4 := Aside0.mk A40
  clear A40
  by_cases c5 : t113 = 0
  · rw [if_pos c5] at H
    have c5b0 : (t113 == 0) = true := beq_iff_eq.mpr c5
    have c5b1 : (t113 != 0) = false := bne_eq_false_iff_eq.mpr c5
    clear c5
    have HC6 := Aside0.mk H
    clear H
    go_enter Try.func26, Try.ntmps26
    go_upto_region 4 with (first | ((with_reducible refine gate_dst (N := 3) rfl ?_); (try (refine gate_guard (by rfl) ?_; dsimp only)); refine box_event ?hg (N := 3) ?hd (cs := #[.int .i64 a0_0, .int .i64 a0_1]) (t := 31) ?hr ?_; (case hd => rfl); (case hg => rfl); (case hr => first | (go_simp; done) | (go_simp; rfl)); intro gb110 hg w7 hbox hb; have n0_ := Aside0.mk (below_step (by repeat (first | (with_reducible first | exact HB.out | apply below_alloc | apply pw_below_drewN | apply below_drew1) | exact HB.out)) hb); have n1_ := Aside0.mk (hbox); have n2_ := Aside0.mk ((by rw [hg]; exact (below_size (by repeat (first | (with_reducible first | exact HB.out | apply below_alloc | apply pw_below_drewN | apply below_drew1) | exact HB.out))) : w.heap.size ≤ gb110)); have n3_ := Aside0.mk ((by rw [hg]; exact (below_size (by repeat (first | (with_reducible first | exact HB.out | apply below_alloc | apply pw_below_drewN | apply below_drew1) | exact HB.out))) : w.heap.size ≤ gb110)); clear HB; have HB := n0_; have BK110 := n1_; have GW110 := n2_; have GE110 := n3_; clear n0_ n1_ n2_ n3_; clear hb hbox hg) | ((with_reducible refine gate_callee (f := 14) rfl ?_); refine goesL_ (some 17) rfl rfl Try.func14 (by kernel_rfl) rfl #[.string a1, .int .i64 a2] rfl (by (try simp only [List.map_toArray, List.map_cons, List.map_nil]); first | done | rfl | (simp only [List.length_drop, List.length_take]; rfl)) ?_; (with_reducible refine (font_Size.calls k a1 a2 t111 t112 t113 _ A4.out).mono ?_); rintro e w' ⟨rfl, ⟨nd, rfl⟩⟩; refine ⟨_, rfl, ?_⟩))
    (try simp only [Act.put, List.setIfInBounds_toArray, List.set_cons_zero, List.set_cons_succ])
    go_cut [37] (fun v37 wc => ∃ (kq : Nat) (x37_5 : Bool), v37 = .bool x37_5 ∧ Aside0 (font_Boxes.j0 kq t111 t112 x37_5 a0_0 a0_1 = some (r1, r2)) ∧ Aside0 (kq ≤ k) ∧ Aside0 (wc.heap[gb110]? = some (.cells #[.int .i64 a0_0, .int .i64 a0_1] 31 (0, 0))) ∧ Aside0 (Below w.heap.size w wc))
    case first =>
      have H := HC6.out
      clear HC6
      obtain ⟨ji8, hji8⟩ : ∃ j_ : Int, (mx a0_0 a0_1) = j_ := ⟨_, rfl⟩
      replace H : (if (ji8) > 1048576 then (font_Boxes.j0 k t111 t112 true a0_0 a0_1) else (font_Boxes.j0 k t111 t112 (decide ((mn a0_0 a0_1) < (-1048576))) a0_0 a0_1)) = some (r1, r2) := by first | (rw [hji8] at H; exact H) | (simp only [hji8] at H ⊢; exact H)
      have hji8_ : (if a0_0 < a0_1 then a0_1 else a0_0) = ji8 := hji8
      by_cases c9 : (ji8) > 1048576
      · rw [if_pos c9] at H
        have c9b0 : decide (1048576 < (ji8)) = true := decide_eq_true c9
        clear c9
        (first | rw [c9b0] | (simp only [i64_w, i32_w]; rw [c9b0]) | skip)
        have H' := Aside0.mk H
        clear H
        have hcz10_0 : w7.cell? ⟨gb110, 0, none⟩ = some (.int .i64 a0_0) := (blk_cell BK110.out 0).trans rfl
        have hcz10_1 : w7.cell? ⟨gb110, 1, none⟩ = some (.int .i64 a0_1) := (blk_cell BK110.out 1).trans rfl
        have hfz10_0 := blk_frozen BK110.out 0
        have hfz10_1 := blk_frozen BK110.out 1
        go_wp2
        go_meet
        case rel => exact ⟨_, (true), (by first | rfl | (simp; done) | (simp [*]; done)), H', ⟨by first | omega | exact Nat.le_refl _⟩, ⟨by (with_reducible repeat (first | refine blk_drewN ?_ _ | refine blk_drew ?_ | refine blk_alloc ?_ _)); exact BK110.out⟩, ⟨by repeat (first | (with_reducible first | exact HB.out | apply below_alloc | apply pw_below_drewN | apply below_drew1 | refine below_set ?_ GE110.out) | exact HB.out)⟩⟩
      · rw [if_neg c9] at H
        have c9b0 : decide (1048576 < (ji8)) = false := decide_eq_false c9
        clear c9
        (first | rw [c9b0] | (simp only [i64_w, i32_w]; rw [c9b0]) | skip)
        obtain ⟨ji11, hji11⟩ : ∃ j_ : Int, (mn a0_0 a0_1) = j_ := ⟨_, rfl⟩
        replace H : (font_Boxes.j0 k t111 t112 (decide ((ji11) < (-1048576))) a0_0 a0_1) = some (r1, r2) := by first | (rw [hji11] at H; exact H) | (simp only [hji11] at H ⊢; exact H)
        have hji11_ : (if a0_1 < a0_0 then a0_1 else a0_0) = ji11 := hji11
        have H' := Aside0.mk H
        clear H
        have hcz12_0 : w7.cell? ⟨gb110, 0, none⟩ = some (.int .i64 a0_0) := (blk_cell BK110.out 0).trans rfl
        have hcz12_1 : w7.cell? ⟨gb110, 1, none⟩ = some (.int .i64 a0_1) := (blk_cell BK110.out 1).trans rfl
        have hfz12_0 := blk_frozen BK110.out 0
        have hfz12_1 := blk_frozen BK110.out 1
        go_wp2
        go_meet
        case rel => exact ⟨_, (decide ((ji11) < (-1048576))), (by first | rfl | (simp; done) | (simp only [← hji11] <;> (first | rfl | simp)) | (simp [*]; done)), H', ⟨by first | omega | exact Nat.le_refl _⟩, ⟨by (with_reducible repeat (first | refine blk_drewN ?_ _ | refine blk_drew ?_ | refine blk_alloc ?_ _)); exact BK110.out⟩, ⟨by repeat (first | (with_reducible first | exact HB.out | apply below_alloc | apply pw_below_drewN | apply below_drew1 | refine below_set ?_ GE110.out) | exact HB.out)⟩⟩
    case rest =>
      clear HC6
      try clear c1
      try clear c2
      try clear p2
      try clear c5
      try clear c5b0
      try clear c5b1
      try clear c9
      try clear c9b0
      try clear hcz10_0
      try clear hcz10_1
      try clear hcz12_0
      try clear hcz12_1
      try clear hfz10_0
      try clear hfz10_1
      try clear hfz12_0
      try clear hfz12_1
      obtain ⟨kq, x37_5, rfl, HA, HJ5, BK110, HB⟩ := hcut
      cases kq with
      | zero => exact absurd HA.out (by simp [font_Boxes.j0])
      | succ kj5 =>
        have H := HA.out
        clear HA
        simp only [font_Boxes.j0] at H
        by_cases c13 : x37_5 = true
        · subst c13
          have H1 : (some (([] : List (S44)), 1)) = some (r1, r2) := by rw [if_pos rfl] at H; exact H
          clear H
          have H := H1
          clear H1
          simp only [Option.some.injEq, Prod.mk.injEq] at H
          obtain ⟨rfl, rfl⟩ := H
          go_wp2
          go_ret2
          exact ⟨_, by first | rfl | (simp [errW_none, errW_some] <;> rfl) | (simp [*, errW_none, errW_some] <;> rfl), by first | exact Kd.R_nil _ _ _ _ _ | exact Kd.N_nil _ _ _ _ _ | exact Kd.V_nil _ _ _ _ _ | exact Kd.Q_nil _ _ _ _ _ | exact Kd.S_nil _ _ _ _ _, by repeat (first | (with_reducible first | exact HB.out | apply below_alloc | apply pw_below_drewN | apply below_drew1 | refine below_set ?_ GE110.out) | exact HB.out)⟩
        · replace c13 := Bool.eq_false_iff.mpr c13
          subst c13
          have H1 : ((some (([(⟨wrap64 (a0_0 + 2), wrap64 (a0_1 + 2)⟩ : S31), (⟨wrap64 (a0_0 + 2), wrap64 ((wrap64 (a0_1 - 2)) - t112)⟩ : S31), (⟨wrap64 ((wrap64 (a0_0 - 2)) - t111), wrap64 (a0_1 + 2)⟩ : S31), (⟨wrap64 ((wrap64 (a0_0 - 2)) - t111), wrap64 ((wrap64 (a0_1 - 2)) - t112)⟩ : S31), (⟨wrap64 (a0_0 - (wrap64 (Int.tdiv t111 2))), wrap64 (a0_1 + 2)⟩ : S31)] : List (S31)) : List (S31))).bind fun y114 => (font_Boxes.l0 kj5 t111 t112 ([] : List (S44)) y114 (y114.length : Int) 0)) = some (r1, r2) := by rw [if_neg (show ¬ (false = true) by decide)] at H; exact H
          clear H
          have H := H1
          clear H1
          obtain ⟨y114, hy114⟩ : ∃ y_ : List (S31), y_ = (([(⟨wrap64 (a0_0 + 2), wrap64 (a0_1 + 2)⟩ : S31), (⟨wrap64 (a0_0 + 2), wrap64 ((wrap64 (a0_1 - 2)) - t112)⟩ : S31), (⟨wrap64 ((wrap64 (a0_0 - 2)) - t111), wrap64 (a0_1 + 2)⟩ : S31), (⟨wrap64 ((wrap64 (a0_0 - 2)) - t111), wrap64 ((wrap64 (a0_1 - 2)) - t112)⟩ : S31), (⟨wrap64 (a0_0 - (wrap64 (Int.tdiv t111 2))), wrap64 (a0_1 + 2)⟩ : S31)] : List (S31))) := ⟨_, rfl⟩
          replace H : (font_Boxes.l0 kj5 t111 t112 ([] : List (S44)) y114 (y114.length : Int) 0) = some (r1, r2) := by first | (rw [hy114]; with_reducible exact H) | (have H2_ := (Option.bind_some _ _).symm.trans H; rw [hy114]; with_reducible exact H2_) | (have H2_ := (Option.bind_some _ _).symm.trans H; with_reducible exact H2_) | with_reducible exact H | (rw [hy114]; exact H) | exact H
          have Ny114 := Aside0.mk hy114
          clear hy114
          have H' := Aside0.mk H
          clear H
          have hcz14_0 : wc.cell? ⟨gb110, 0, none⟩ = some (.int .i64 a0_0) := (blk_cell BK110.out 0).trans rfl
          have hcz14_1 : wc.cell? ⟨gb110, 1, none⟩ = some (.int .i64 a0_1) := (blk_cell BK110.out 1).trans rfl
          have hfz14_0 := blk_frozen BK110.out 0
          have hfz14_1 := blk_frozen BK110.out 1
          go_wp2_with (first | ((with_reducible refine gate_dst (N := 83) rfl ?_); (try (refine gate_guard (by rfl) ?_; dsimp only)); refine Kd.R_lit k31 _ 31 ?hg (N := 83) ?hd (xs := ([(⟨wrap64 (a0_0 + 2), wrap64 (a0_1 + 2)⟩ : S31), (⟨wrap64 (a0_0 + 2), wrap64 ((wrap64 (a0_1 - 2)) - t112)⟩ : S31), (⟨wrap64 ((wrap64 (a0_0 - 2)) - t111), wrap64 (a0_1 + 2)⟩ : S31), (⟨wrap64 ((wrap64 (a0_0 - 2)) - t111), wrap64 ((wrap64 (a0_1 - 2)) - t112)⟩ : S31), (⟨wrap64 (a0_0 - (wrap64 (Int.tdiv t111 2))), wrap64 (a0_1 + 2)⟩ : S31)] : List (S31))) (inner := [.int .i64 (wrap64 (a0_0 + 2)), .int .i64 (wrap64 (a0_1 + 2)), .int .i64 (wrap64 (a0_0 + 2)), .int .i64 (wrap64 ((wrap64 (a0_1 - 2)) - t112)), .int .i64 (wrap64 ((wrap64 (a0_0 - 2)) - t111)), .int .i64 (wrap64 (a0_1 + 2)), .int .i64 (wrap64 ((wrap64 (a0_0 - 2)) - t111)), .int .i64 (wrap64 ((wrap64 (a0_1 - 2)) - t112)), .int .i64 (wrap64 (a0_0 - (wrap64 (Int.tdiv t111 2)))), .int .i64 (wrap64 (a0_1 + 2))]) (ok := fun _ => True) (okp := fun _ => True) ?hr ?hp (fun _ hk => hk) trivial (Below.refl _ _) (Nat.le_refl _) (by simp) ?_; (case hd => rfl); (case hg => rfl); (case hr => first | (go_simp; done) | (go_simp; rfl)); (case hp => exact (Reps.c2 (show Kd.M k31 _ _ _ (⟨wrap64 (a0_0 + 2), wrap64 (a0_1 + 2)⟩ : S31) [.int .i64 (wrap64 (a0_0 + 2)), .int .i64 (wrap64 (a0_1 + 2))] from (k31_mkM _ _ _ (⟨wrap64 (a0_0 + 2), wrap64 (a0_1 + 2)⟩ : S31) )) (Reps.c2 (show Kd.M k31 _ _ _ (⟨wrap64 (a0_0 + 2), wrap64 ((wrap64 (a0_1 - 2)) - t112)⟩ : S31) [.int .i64 (wrap64 (a0_0 + 2)), .int .i64 (wrap64 ((wrap64 (a0_1 - 2)) - t112))] from (k31_mkM _ _ _ (⟨wrap64 (a0_0 + 2), wrap64 ((wrap64 (a0_1 - 2)) - t112)⟩ : S31) )) (Reps.c2 (show Kd.M k31 _ _ _ (⟨wrap64 ((wrap64 (a0_0 - 2)) - t111), wrap64 (a0_1 + 2)⟩ : S31) [.int .i64 (wrap64 ((wrap64 (a0_0 - 2)) - t111)), .int .i64 (wrap64 (a0_1 + 2))] from (k31_mkM _ _ _ (⟨wrap64 ((wrap64 (a0_0 - 2)) - t111), wrap64 (a0_1 + 2)⟩ : S31) )) (Reps.c2 (show Kd.M k31 _ _ _ (⟨wrap64 ((wrap64 (a0_0 - 2)) - t111), wrap64 ((wrap64 (a0_1 - 2)) - t112)⟩ : S31) [.int .i64 (wrap64 ((wrap64 (a0_0 - 2)) - t111)), .int .i64 (wrap64 ((wrap64 (a0_1 - 2)) - t112))] from (k31_mkM _ _ _ (⟨wrap64 ((wrap64 (a0_0 - 2)) - t111), wrap64 ((wrap64 (a0_1 - 2)) - t112)⟩ : S31) )) (Reps.c2 (show Kd.M k31 _ _ _ (⟨wrap64 (a0_0 - (wrap64 (Int.tdiv t111 2))), wrap64 (a0_1 + 2)⟩ : S31) [.int .i64 (wrap64 (a0_0 - (wrap64 (Int.tdiv t111 2)))), .int .i64 (wrap64 (a0_1 + 2))] from (k31_mkM _ _ _ (⟨wrap64 (a0_0 - (wrap64 (Int.tdiv t111 2))), wrap64 (a0_1 + 2)⟩ : S31) )) (Reps.none _ _))))))); intro v115 w15 ho16 hb hg_ hnew_; clear hg_ hnew_; (first | rw [← Ny114.out] at ho16 | (simp only [Int.reduceToNat] at ho16; rw [← Ny114.out] at ho16)); have n0_ := Aside0.mk (Kd.R_lower (Kd.R_newB ho16 (g := gb110) (o := .cells #[.int .i64 a0_0, .int .i64 a0_1] 31 (0, 0)) (by (with_reducible repeat (first | refine blk_drewN ?_ _ | refine blk_drew ?_ | refine blk_alloc ?_ _)); exact BK110.out)) (below_size (by repeat (first | (with_reducible first | exact HB.out | apply below_alloc | apply pw_below_drewN | apply below_drew1 | refine below_set ?_ GE110.out) | exact HB.out)))); have n1_ := Aside0.mk (blk_below (g := gb110) (o := .cells #[.int .i64 a0_0, .int .i64 a0_1] 31 (0, 0)) (by (with_reducible repeat (first | refine blk_drewN ?_ _ | refine blk_drew ?_ | refine blk_alloc ?_ _)); exact BK110.out) hb); have n2_ := Aside0.mk (below_step (by repeat (first | (with_reducible first | exact HB.out | apply below_alloc | apply pw_below_drewN | apply below_drew1 | refine below_set ?_ GE110.out) | exact HB.out)) hb); clear BK110; clear HB; have HO116 := n0_; have BK110 := n1_; have HB := n2_; clear n0_ n1_ n2_; clear hb ho16; obtain ⟨Ao17, co17, eo17⟩ := Kd.R_slice HO116.out; subst eo17))
          go_loopg [11, 85] kj5 (fun kq v11 v85 w' => ∃ (x11_2 : List (S44)) (x85_2 : Int), v85 = .int .i64 x85_2 ∧ Aside0 (font_Boxes.l0 kq t111 t112 x11_2 y114 (y114.length : Int) x85_2 = some (r1, r2)) ∧ Aside0 (kq ≤ kj5) ∧ Aside0 (Kd.R k44 44 w' w.heap.size (fun _ => True) v11 x11_2) ∧ Aside0 (Kd.R k31 31 w' w.heap.size (fun k_ => k_ ≠ gb110) (.slice Ao17 y114.length co17) y114) ∧ Aside0 (w'.heap[gb110]? = some (.cells #[.int .i64 a0_0, .int .i64 a0_1] 31 (0, 0))) ∧ Aside0 (Below w.heap.size w w'))
          case atStart => exact ⟨(([] : List (S44))), (0), (by first | rfl | (simp; done) | (simp [*]; done)), H', ⟨Nat.le_refl _⟩, ⟨by first | exact Kd.R_nil _ _ _ _ _ | exact Kd.N_nil _ _ _ _ _ | exact Kd.V_nil _ _ _ _ _ | exact Kd.Q_nil _ _ _ _ _ | exact Kd.S_nil _ _ _ _ _⟩, ⟨by (with_reducible repeat (first | apply Kd.R_alloc | apply Kd.R_drewN | apply Kd.R_drew)); exact Kd.R_mono HO116.out (fun _ hk => hk.2)⟩, ⟨by (with_reducible repeat (first | refine blk_drewN ?_ _ | refine blk_drew ?_ | refine blk_alloc ?_ _)); exact BK110.out⟩, ⟨by repeat (first | (with_reducible first | exact HB.out | apply below_alloc | apply pw_below_drewN | apply below_drew1 | refine below_set ?_ GE110.out) | exact HB.out)⟩⟩
          case round =>
            clear H'
            try clear c1
            try clear c2
            try clear p2
            try clear c5
            try clear c5b0
            try clear c5b1
            try clear p6
            try clear c9
            try clear c9b0
            try clear c13
            try clear c14
            try clear hcz10_0
            try clear hcz10_1
            try clear hcz12_0
            try clear hcz12_1
            try clear hcz14_0
            try clear hcz14_1
            try clear hfz10_0
            try clear hfz10_1
            try clear hfz12_0
            try clear hfz12_1
            try clear hfz14_0
            try clear hfz14_1
            try clear p2
            obtain ⟨x11_2, x85_2, rfl, HA, HK2, HO_11, HO_83, BK110, HB⟩ := hrel
            cases gk with
            | zero => exact absurd HA.out (by simp [font_Boxes.l0])
            | succ k2 =>
              have H := HA.out
              clear HA
              simp only [font_Boxes.l0] at H
              by_cases c18 : x85_2 < (y114.length : Int)
              · rw [if_pos c18] at H
                have c18b0 : decide (x85_2 < (y114.length : Int)) = true := decide_eq_true c18
                clear c18
                by_cases c19 : 0 ≤ x85_2
                · rw [if_pos c19] at H
                  have c19b0 : decide (0 ≤ x85_2) = true := decide_eq_true c19
                  clear c19
                  by_cases c20 : x85_2 < (y114.length : Int)
                  · rw [if_pos c20] at H
                    have c20b0 : decide (x85_2 < (y114.length : Int)) = true := decide_eq_true c20
                    clear c20
                    by_cases c21 : x11_2.length < 4398046511104
                    · rw [if_pos c21] at H
                      have LMc21 := Aside0.mk c21
                      clear c21
                      obtain ⟨y119, hy119⟩ : ∃ y_ : List (S44), y_ = (x11_2 ++ [(⟨(⟨(rd_T31 y114 x85_2).f0, (rd_T31 y114 x85_2).f1⟩ : S31), (⟨wrap64 (((rd_T31 y114 x85_2).f0) + t111), wrap64 (((rd_T31 y114 x85_2).f1) + t112)⟩ : S31)⟩ : S44)]) := ⟨_, rfl⟩
                      replace H : (font_Boxes.l0 k2 t111 t112 y119 y114 (y114.length : Int) (wrap64 (x85_2 + 1))) = some (r1, r2) := by first | (rw [hy119]; with_reducible exact H) | (have H2_ := (Option.bind_some _ _).symm.trans H; rw [hy119]; with_reducible exact H2_) | (have H2_ := (Option.bind_some _ _).symm.trans H; with_reducible exact H2_) | with_reducible exact H | (rw [hy119]; exact H) | exact H
                      have Ny119 := Aside0.mk hy119
                      clear hy119
                      have H' := Aside0.mk H
                      clear H
                      have p117 : 0 ≤ (x85_2 : Int) := of_decide_eq_true (by first | (with_reducible assumption) | assumption)
                      have q117 : x85_2 < (y114.length : Int) := of_decide_eq_true (by first | (with_reducible assumption) | assumption)
                      obtain ⟨ad117, e117, hx117_0, hx117_1⟩ := at_T31 (Kd.R_reads' HO_83.out).2.2 x85_2 p117 q117
                      cases e117
                      replace p117 := eq_true p117
                      replace q117 := eq_true q117
                      go_wp2_with (first | ((with_reducible refine gate_dst (N := 13) rfl ?_); (try (refine gate_guard (by rfl) ?_; dsimp only)); refine box_event ?hg (N := 13) ?hd (cs := #[.int .i64 0, .int .i64 0]) (t := 31) ?hr ?_; (case hd => rfl); (case hg => rfl); (case hr => first | (go_simp; done) | (go_simp; rfl)); intro gb118 hg w22 hbox hb; have n0_ := Aside0.mk (Kd.R_below (by (with_reducible repeat (first | apply Kd.R_alloc | apply Kd.R_drewN | apply Kd.R_drew)); exact HO_11.out) hb); have n1_ := Aside0.mk (Kd.R_below (Kd.R_elderB (by (with_reducible repeat (first | apply Kd.R_alloc | apply Kd.R_drewN | apply Kd.R_drew)); exact HO_83.out) gb118 (Nat.le_of_eq hg.symm)) hb); have n2_ := Aside0.mk (blk_below (g := gb110) (o := .cells #[.int .i64 a0_0, .int .i64 a0_1] 31 (0, 0)) (by (with_reducible repeat (first | refine blk_drewN ?_ _ | refine blk_drew ?_ | refine blk_alloc ?_ _)); exact BK110.out) hb); have n3_ := Aside0.mk (below_step (by repeat (first | (with_reducible first | exact HB.out | apply below_alloc | apply pw_below_drewN | apply below_drew1 | refine below_set ?_ GE110.out) | exact HB.out)) hb); have n4_ := Aside0.mk (hbox); have n5_ := Aside0.mk ((by rw [hg]; exact (below_size (by repeat (first | (with_reducible first | exact HB.out | apply below_alloc | apply pw_below_drewN | apply below_drew1 | refine below_set ?_ GE110.out) | exact HB.out))) : w.heap.size ≤ gb118)); have n6_ := Aside0.mk ((by rw [hg]; exact (below_size (by repeat (first | (with_reducible first | exact HB.out | apply below_alloc | apply pw_below_drewN | apply below_drew1 | refine below_set ?_ GE110.out) | exact HB.out))) : w.heap.size ≤ gb118)); have n7_ := Aside0.mk ((by rw [hg]; exact Nat.ne_of_lt (blk_lt (g := gb110) (o := .cells #[.int .i64 a0_0, .int .i64 a0_1] 31 (0, 0)) (by (with_reducible repeat (first | refine blk_drewN ?_ _ | refine blk_drew ?_ | refine blk_alloc ?_ _)); exact BK110.out)) : gb110 ≠ gb118)); have n8_ := Aside0.mk ((by rw [hg]; exact Nat.ne_of_gt (blk_lt (g := gb110) (o := .cells #[.int .i64 a0_0, .int .i64 a0_1] 31 (0, 0)) (by (with_reducible repeat (first | refine blk_drewN ?_ _ | refine blk_drew ?_ | refine blk_alloc ?_ _)); exact BK110.out)) : gb118 ≠ gb110)); clear HO_11; clear HO_83; clear BK110; clear HB; have HO_11 := n0_; have HO_83 := n1_; have BK110 := n2_; have HB := n3_; have BK118 := n4_; have GW118 := n5_; have GE118 := n6_; have NB110_118 := n7_; have NB118_110 := n8_; clear n0_ n1_ n2_ n3_ n4_ n5_ n6_ n7_ n8_; clear hb hbox hg; have hnb23 := NB118_110.out; have hnc23 := NB110_118.out; have hcz24_0 : w22.cell? ⟨gb118, 0, none⟩ = some (.int .i64 0) := (blk_cell BK118.out 0).trans rfl; have hcz24_1 : w22.cell? ⟨gb118, 1, none⟩ = some (.int .i64 0) := (blk_cell BK118.out 1).trans rfl; have hfz24_0 := blk_frozen BK118.out 0; have hfz24_1 := blk_frozen BK118.out 1) | ((with_reducible refine gate_builtin (b := .append) (xs := #[.tmp 89, .tmp 101]) rfl ?_); (try (refine gate_guard (by rfl) ?_; dsimp only)); at_builtin; refine Kd.R_append k44 (w0 := w) w.heap.size rfl (.tmp 89) (.tmp 101) 49 44 (.agg #[(.int .i64 0), (.int .i64 0), (.int .i64 0), (.int .i64 0)]) 32 rfl Try.underlying49 info44 rfl (by decide) (by omega) u11 x11_2 (⟨(⟨(rd_T31 y114 x85_2).f0, (rd_T31 y114 x85_2).f1⟩ : S31), (⟨wrap64 (((rd_T31 y114 x85_2).f0) + t111), wrap64 (((rd_T31 y114 x85_2).f1) + t112)⟩ : S31)⟩ : S44) [.int .i64 ((rd_T31 y114 x85_2).f0), .int .i64 ((rd_T31 y114 x85_2).f1), .int .i64 (wrap64 (((rd_T31 y114 x85_2).f0) + t111)), .int .i64 (wrap64 (((rd_T31 y114 x85_2).f1) + t112))] (fun _ => True) (fun _ => False) rfl (by first | (go_simp; done) | (go_simp; rfl)) ?aP (fun _ hk => hk.elim) ?aF ?aO ?aB ?aS ?aL ?_; (case aP => exact k44_mkM _ _ _ (⟨(⟨(rd_T31 y114 x85_2).f0, (rd_T31 y114 x85_2).f1⟩ : S31), (⟨wrap64 (((rd_T31 y114 x85_2).f0) + t111), wrap64 (((rd_T31 y114 x85_2).f1) + t112)⟩ : S31)⟩ : S44)); (case aB => exact (by repeat (first | (with_reducible first | exact HB.out | apply below_alloc | apply pw_below_drewN | apply below_drew1 | refine below_set ?_ GE110.out | refine below_set ?_ GE118.out) | exact HB.out))); (case aF => exact (fun _ _ => trivial)); (case aO => exact (by (with_reducible repeat (first | apply Kd.R_alloc | apply Kd.R_drewN | apply Kd.R_drew)); exact Kd.R_mono (Kd.R_far (p := ⟨gb118, 1, none⟩) (Kd.R_far (p := ⟨gb118, 0, none⟩) (Kd.R_types HO_11.out BK118.out (by decide)) (fun _ hk => hk.2) (.int .i64 ((rd_T31 y114 x85_2).f0))) (fun _ hk => hk.2) (.int .i64 ((rd_T31 y114 x85_2).f1))) (fun _ hk => trivial))); (case aS => exact (below_size (by repeat (first | (with_reducible first | exact HB.out | apply below_alloc | apply pw_below_drewN | apply below_drew1 | refine below_set ?_ GE110.out | refine below_set ?_ GE118.out) | exact HB.out)))); (case aL => have := LMc21.out; omega); intro v120 w25 ho hb hg hat; rw [← Ny119.out] at ho; have n0_ := Aside0.mk (Kd.R_over' (by (with_reducible repeat (first | apply Kd.R_alloc | apply Kd.R_drewN | apply Kd.R_drew)); exact (Kd.R_mono (Kd.R_far (p := ⟨gb118, 1, none⟩) (Kd.R_far (p := ⟨gb118, 0, none⟩) (Kd.R_mono HO_83.out (fun k_ hk => (⟨hk, hk.2⟩ : _ ∧ k_ ≠ gb118))) (fun _ hk => hk.2) (.int .i64 ((rd_T31 y114 x85_2).f0))) (fun _ hk => hk.2) (.int .i64 ((rd_T31 y114 x85_2).f1))) (fun _ h_ => h_.1))) (Kd.R_typed (by (with_reducible repeat (first | apply Kd.R_alloc | apply Kd.R_drewN | apply Kd.R_drew)); exact (Kd.R_mono (Kd.R_far (p := ⟨gb118, 1, none⟩) (Kd.R_far (p := ⟨gb118, 0, none⟩) (Kd.R_types HO_11.out BK118.out (by decide)) (fun _ hk => hk.2) (.int .i64 ((rd_T31 y114 x85_2).f0))) (fun _ hk => hk.2) (.int .i64 ((rd_T31 y114 x85_2).f1))) (fun _ h_ => h_.1)))) (by decide) hg); have n1_ := Aside0.mk (blk_grown (g := gb110) (o := .cells #[.int .i64 a0_0, .int .i64 a0_1] 31 (0, 0)) (by (with_reducible repeat (first | refine blk_drewN ?_ _ | refine blk_drew ?_ | refine blk_alloc ?_ _)); refine blk_far ?_ NB110_118.out _; (with_reducible repeat (first | refine blk_drewN ?_ _ | refine blk_drew ?_ | refine blk_alloc ?_ _)); refine blk_far ?_ NB110_118.out _; (with_reducible repeat (first | refine blk_drewN ?_ _ | refine blk_drew ?_ | refine blk_alloc ?_ _)); exact BK110.out) hg (Kd.R_ne HO_11.out BK110.out (by decide))); have n2_ := Aside0.mk (blk_grown (g := gb118) (o := .cells #[.int .i64 ((rd_T31 y114 x85_2).f0), .int .i64 ((rd_T31 y114 x85_2).f1)] 31 (0, 0)) (by (with_reducible repeat (first | refine blk_drewN ?_ _ | refine blk_drew ?_ | refine blk_alloc ?_ _)); refine blk_put (cs := #[.int .i64 ((rd_T31 y114 x85_2).f0), .int .i64 0]) ?_ 1 _ rfl; (with_reducible repeat (first | refine blk_drewN ?_ _ | refine blk_drew ?_ | refine blk_alloc ?_ _)); refine blk_put (cs := #[.int .i64 0, .int .i64 0]) ?_ 0 _ rfl; (with_reducible repeat (first | refine blk_drewN ?_ _ | refine blk_drew ?_ | refine blk_alloc ?_ _)); exact BK118.out) hg (Kd.R_ne HO_11.out BK118.out (by decide))); have n3_ := Aside0.mk (hb); have n4_ := Aside0.mk (ho); clear HO_83; clear BK110; clear BK118; clear HB; clear HO_11; have HO_83 := n0_; have BK110 := n1_; have BK118 := n2_; have HB := n3_; have HO121 := n4_; clear n0_ n1_ n2_ n3_ n4_; clear ho hb hg hat))
                      go_roundg k2
                      case measure => have := HJ5.out; have := HK2.out; omega
                      case rel => exact ⟨(y119), (wrap64 (x85_2 + 1)), (by first | rfl | (simp; done) | (simp [*]; done)), H', ⟨by have := HJ5.out; have := HK2.out; omega⟩, ⟨by (with_reducible repeat (first | apply Kd.R_alloc | apply Kd.R_drewN | apply Kd.R_drew)); exact HO121.out⟩, ⟨by (with_reducible repeat (first | apply Kd.R_alloc | apply Kd.R_drewN | apply Kd.R_drew)); exact Kd.R_mono HO_83.out (fun _ hk => hk.1)⟩, ⟨by (with_reducible repeat (first | refine blk_drewN ?_ _ | refine blk_drew ?_ | refine blk_alloc ?_ _)); exact BK110.out⟩, ⟨by repeat (first | (with_reducible first | exact HB.out | apply below_alloc | apply pw_below_drewN | apply below_drew1 | refine below_set ?_ GE110.out | refine below_set ?_ GE118.out) | exact HB.out)⟩⟩
                    · rw [if_neg c21] at H
                      exact absurd H (by simp)
                  · rw [if_neg c20] at H
                    exact absurd H (by simp)
                · rw [if_neg c19] at H
                  exact absurd H (by simp)
              · rw [if_neg c18] at H
                have c18b0 : decide (x85_2 < (y114.length : Int)) = false := decide_eq_false c18
                clear c18
                simp only [Option.some.injEq, Prod.mk.injEq] at H
                obtain ⟨rfl, rfl⟩ := H
                go_wp2
                go_ret2
                exact ⟨_, by first | rfl | (simp [errW_none, errW_some] <;> rfl) | (simp [*, errW_none, errW_some] <;> rfl), by (with_reducible repeat (first | apply Kd.R_alloc | apply Kd.R_drewN | apply Kd.R_drew)); exact HO_11.out, by repeat (first | (with_reducible first | exact HB.out | apply below_alloc | apply pw_below_drewN | apply below_drew1 | refine below_set ?_ GE110.out) | exact HB.out)⟩
  · rw [if_neg c5] at H
    have c5b0 : (t113 == 0) = false := beq_eq_false_iff_ne.mpr c5
    have c5b1 : (t113 != 0) = true := bne_iff_ne.mpr c5
    simp only [Option.some.injEq, Prod.mk.injEq] at H
    obtain ⟨rfl, rfl⟩ := H
    go_enter Try.func26, Try.ntmps26
    go_wp2_with (first | ((with_reducible refine gate_dst (N := 3) rfl ?_); (try (refine gate_guard (by rfl) ?_; dsimp only)); refine box_event ?hg (N := 3) ?hd (cs := #[.int .i64 a0_0, .int .i64 a0_1]) (t := 31) ?hr ?_; (case hd => rfl); (case hg => rfl); (case hr => first | (go_simp; done) | (go_simp; rfl)); intro gb110 hg w26 hbox hb; have n0_ := Aside0.mk (below_step (by repeat (first | (with_reducible first | exact HB.out | apply below_alloc | apply pw_below_drewN | apply below_drew1) | exact HB.out)) hb); have n1_ := Aside0.mk (hbox); have n2_ := Aside0.mk ((by rw [hg]; exact (below_size (by repeat (first | (with_reducible first | exact HB.out | apply below_alloc | apply pw_below_drewN | apply below_drew1) | exact HB.out))) : w.heap.size ≤ gb110)); have n3_ := Aside0.mk ((by rw [hg]; exact (below_size (by repeat (first | (with_reducible first | exact HB.out | apply below_alloc | apply pw_below_drewN | apply below_drew1) | exact HB.out))) : w.heap.size ≤ gb110)); clear HB; have HB := n0_; have BK110 := n1_; have GW110 := n2_; have GE110 := n3_; clear n0_ n1_ n2_ n3_; clear hb hbox hg) | ((with_reducible refine gate_callee (f := 14) rfl ?_); refine goesL_ (some 17) rfl rfl Try.func14 (by kernel_rfl) rfl #[.string a1, .int .i64 a2] rfl (by (try simp only [List.map_toArray, List.map_cons, List.map_nil]); first | done | rfl | (simp only [List.length_drop, List.length_take]; rfl)) ?_; (with_reducible refine (font_Size.calls k a1 a2 t111 t112 t113 _ A4.out).mono ?_); rintro e w' ⟨rfl, ⟨nd, rfl⟩⟩; refine ⟨_, rfl, ?_⟩))
    go_ret2
    exact ⟨_, by first | rfl | (simp [errW_none, errW_some] <;> rfl) | (simp [*, errW_none, errW_some] <;> rfl), by first | exact Kd.R_nil _ _ _ _ _ | exact Kd.N_nil _ _ _ _ _ | exact Kd.V_nil _ _ _ _ _ | exact Kd.Q_nil _ _ _ _ _ | exact Kd.S_nil _ _ _ _ _, by repeat (first | (with_reducible first | exact HB.out | apply below_alloc | apply pw_below_drewN | apply below_drew1 | refine below_set ?_ GE110.out) | exact HB.out)⟩
end Go.Proofs.Ytojehbkadlmbjaa.Q
