/- delta.Write: lists of points as bytes: the walk follows the print's, with the writer in the place of a local row. Condition: its printed twin gives an answer. -/
import Derived.Test.YtjgoehhhjffpmaaZtQf45
import Derived.Test.YtjgoehhhjffpmaaZtQf21
namespace Go.Proofs.Ytjgoehhhjffpmaa.Q
open Go.RowKit Go.Proofs.YtjgoehhhjffpmaaW.PrintWords Go.Proofs.YtjgoehhhjffpmaaW.PrintLast Go.Proofs.YtjgoehhhjffpmaaW.PrintMore
attribute [local go_sem] max2_int min2_int max_two min_two max_three min_three max_four min_four
set_option linter.unusedVariables false
set_option linter.unusedSimpArgs false
/-! ### delta_Write: function 20 -/
mutual
def delta_Write.l0 : Nat → List (List (S44)) → Int → Int → List Int → Int → Int → Option (List Int × Int)
  | 0, _, _, _, _, _, _ => none
  | k + 1, x22, x23, x24, x60, x157000, x157001 => if x24 < x23 then (if 0 ≤ x24 then (if x24 < (x22.length : Int) then ((delta_Num.f k x60 ((rd_L4 x22 x24).length : Int)).bind fun t158 => (delta_Write.l1 k x22 x23 x24 (rd_L4 x22 x24) ((rd_L4 x22 x24).length : Int) 0 t158 x157000 x157001)) else (none)) else (none)) else (some (x60, 0))
def delta_Write.l1 : Nat → List (List (S44)) → Int → Int → List (S44) → Int → Int → List Int → Int → Int → Option (List Int × Int)
  | 0, _, _, _, _, _, _, _, _, _ => none
  | k + 1, x22, x23, x24, x32, x33, x34, x60, x157000, x157001 => if x34 < x33 then (if 0 ≤ x34 then (if x34 < (x32.length : Int) then ((delta_Num.f k x60 (wrap64 (((rd_T44 x32 x34).f0) - x157000))).bind fun t163 => ((delta_Num.f k t163 (wrap64 (((rd_T44 x32 x34).f1) - x157001))).bind fun t166 => (delta_Write.l1 k x22 x23 x24 x32 x33 (wrap64 (x34 + 1)) t166 ((rd_T44 x32 x34).f0) ((rd_T44 x32 x34).f1)))) else (none)) else (none)) else (delta_Write.l0 k x22 x23 (wrap64 (x24 + 1)) x60 x157000 x157001)
end
def delta_Write.f (k : Nat) (l0 : List (List (S44))) : Option (List Int × Int) := (delta_Check.f k l0).bind fun t152 => (if t152 = 0 then ((delta_Num.f k ([] : List Int) (l0.length : Int)).bind fun t153 => (delta_Write.l0 k l0 (l0.length : Int) 0 t153 0 0)) else (some (([] : List Int), t152)))
set_option maxHeartbeats 8000000 in
set_option maxRecDepth 100000 in
theorem delta_Write.calls (k : Nat) (A0 : Option Addr) (c0 : Nat) (l0 : List (List (S44))) (r1 : List Int) (r2 : Int) (w : World) (hr0 : Kd.C (Kd.slice 44 k44) w A0 l0.length l0) (hc0 : l0.length ≤ c0) (h : delta_Write.f k l0 = some (r1, r2)) :
    Calls Try.prog 20 #[.slice A0 l0.length c0] w fun e w' => ∃ v0_ : Value, e = .returned (.tuple #[v0_, .int .i64 r2]) ∧ Kd.R (Kd.int .u8) 5 w' w.heap.size (fun _ => True) v0_ r1 ∧ Below w.heap.size w w' := by
  have hu44 := Try.underlying44
  have HR0 := Aside0.mk hr0
  have HC0 := Aside0.mk hc0
  clear hr0 hc0
  have HB := Aside0.mk (Below.refl w.heap.size w)
  have H : ((delta_Check.f k l0).bind fun t152 => (if t152 = 0 then ((delta_Num.f k ([] : List Int) (l0.length : Int)).bind fun t153 => (delta_Write.l0 k l0 (l0.length : Int) 0 t153 0 0)) else (some (([] : List Int), t152)))) = some (r1, r2) := h
  clear h
  replace H := Option.bind_eq_some_iff.mp H
  obtain ⟨t152, A20, H⟩ := H
  replace H : (if t152 = 0 then ((delta_Num.f k ([] : List Int) (l0.length : Int)).bind fun t153 => (delta_Write.l0 k l0 (l0.length : Int) 0 t153 0 0)) else (some (([] : List Int), t152))) = some (r1, r2) := H
  have A2 := Aside0.mk A20
  clear A20
  by_cases c3 : t152 = 0
  rotate_left
  · rw [if_neg c3] at H
    have c3b0 : (t152 == 0) = false := beq_eq_false_iff_ne.mpr c3
    have c3b1 : (t152 != 0) = true := bne_iff_ne.mpr c3
    simp only [Option.some.injEq, Prod.mk.injEq] at H
    obtain ⟨rfl, rfl⟩ := H
    go_enter Try.func20, Try.ntmps20
    go_wp2_with (first | ((with_reducible refine gate_callee (f := 21) rfl ?_); refine goesL_ (some 12) rfl rfl Try.func21 (by kernel_rfl) rfl #[.slice A0 l0.length c0] rfl (by (try simp only [List.map_toArray, List.map_cons, List.map_nil]); first | done | rfl | (simp only [List.length_drop, List.length_take]; rfl)) ?_; (with_reducible refine (delta_Check.calls k _ _ l0 t152 _ ?side1 ?side2 A2.out).mono ?_); (case side1 => repeat (first | exact HR0.out | (with_reducible refine Kd.C_alloc ?_ _) | (with_reducible refine Kd.C_drewN ?_ _) | (with_reducible refine Kd.C_drew ?_))); (case side2 => exact HC0.out); rintro e w' ⟨rfl, ⟨nd, rfl⟩⟩; refine ⟨_, rfl, ?_⟩))
    go_ret2
    exact ⟨_, by first | rfl | (simp [errW_none, errW_some] <;> rfl) | (simp [*, errW_none, errW_some] <;> rfl), by first | exact Kd.R_nil _ _ _ _ _ | exact Kd.N_nil _ _ _ _ _ | exact Kd.V_nil _ _ _ _ _ | exact Kd.Q_nil _ _ _ _ _ | exact Kd.S_nil _ _ _ _ _, by repeat (first | (with_reducible first | exact HB.out | apply below_alloc | apply pw_below_drewN | apply below_drew1) | exact HB.out)⟩
  rw [if_pos c3] at H
  have c3b0 : (t152 == 0) = true := beq_iff_eq.mpr c3
  have c3b1 : (t152 != 0) = false := bne_eq_false_iff_eq.mpr c3
  clear c3
  replace H := Option.bind_eq_some_iff.mp H
  obtain ⟨t153, A40, H⟩ := H
  replace H : (delta_Write.l0 k l0 (l0.length : Int) 0 t153 0 0) = some (r1, r2) := H
  have A4 := Aside0.mk A40
  clear A40
  have H' := Aside0.mk H
  clear H
  go_enter Try.func20, Try.ntmps20
  go_wp2_with (first | ((with_reducible refine gate_callee (f := 21) rfl ?_); refine goesL_ (some 12) rfl rfl Try.func21 (by kernel_rfl) rfl #[.slice A0 l0.length c0] rfl (by (try simp only [List.map_toArray, List.map_cons, List.map_nil]); first | done | rfl | (simp only [List.length_drop, List.length_take]; rfl)) ?_; (with_reducible refine (delta_Check.calls k _ _ l0 t152 _ ?side1 ?side2 A2.out).mono ?_); (case side1 => repeat (first | exact HR0.out | (with_reducible refine Kd.C_alloc ?_ _) | (with_reducible refine Kd.C_drewN ?_ _) | (with_reducible refine Kd.C_drew ?_))); (case side2 => exact HC0.out); rintro e w' ⟨rfl, ⟨nd, rfl⟩⟩; refine ⟨_, rfl, ?_⟩) | ((with_reducible refine gate_dst (N := 17) rfl ?_); refine box_event ?hg (N := 17) ?hd (cs := #[.slice none 0 0]) (t := 77) ?hr ?_; (case hd => rfl); (case hg => rfl); (case hr => first | (go_simp; done) | (go_simp; rfl)); intro gW hgW wA hbox hb; have BW := Aside0.mk hbox; have GW := Aside0.mk ((by rw [hgW]; exact below_size (by repeat (first | (with_reducible first | exact HB.out | apply below_alloc | apply pw_below_drewN | apply below_drew1) | exact HB.out))) : w.heap.size ≤ gW); replace HB := Aside0.mk (below_step (by repeat (first | (with_reducible first | exact HB.out | apply below_alloc | apply pw_below_drewN | apply below_drew1) | exact HB.out)) hb); clear hb hbox hgW) | ((with_reducible refine gate_callee (f := 45) rfl ?_); refine goesL_ (some 21) rfl rfl Try.func45 (by kernel_rfl) rfl #[.pointer (some ⟨gW, 0, none⟩), .int .i64 (l0.length : Int)] rfl (by (try simp only [List.map_toArray, List.map_cons, List.map_nil]); first | done | rfl | (simp only [List.length_drop, List.length_take]; rfl)) ?_; (refine (writer_num k gW w.heap.size (fun k_ => k_ ≠ gW) (.slice none 0 0) [] (l0.length : Int) t153 w _ BW.out GW.out (Kd.R_nil _ _ _ _ _) (fun _ h => h) (fun k_ hk => by have := blk_lt BW.out; omega) HB.out (below_size HB.out) A4.out).mono ?_); rintro e wB ⟨rfl, v1, q1, q2, q3, q4, q5⟩; refine ⟨_, rfl, ?_⟩; have BW2 := Aside0.mk q1; have HO2 := Aside0.mk q2; replace HB := Aside0.mk q3; clear BW) | ((with_reducible refine gate_dst (N := 6) rfl ?_); refine box_event ?hg (N := 6) ?hd (cs := #[.int .i64 0, .int .i64 0]) (t := 44) ?hr ?_; (case hd => rfl); (case hg => rfl); (case hr => first | (go_simp; done) | (go_simp; rfl)); intro gL hgL wC hbox hb; have HWR := Aside0.mk (show Wr w wC gW gL t153 0 0 from ⟨v1, blk_below BW2.out hb, Kd.R_below HO2.out hb, hbox, GW.out, (by rw [hgL]; exact below_size HB.out), below_step HB.out hb⟩); clear HB BW2 HO2; clear hb hbox hgL))
  go_loopg [24] k (fun kq v24 w' => ∃ (x24_1 : Int) (x60_1 : List Int) (x157000_1 : Int) (x157001_1 : Int), v24 = .int .i64 x24_1 ∧ Aside0 (delta_Write.l0 kq l0 (l0.length : Int) x24_1 x60_1 x157000_1 x157001_1 = some (r1, r2)) ∧ Aside0 (kq ≤ k) ∧ Aside0 (Wr w w' gW gL x60_1 x157000_1 x157001_1))
  case atStart => exact ⟨(0), (t153), (0), (0), (by first | rfl | (simp; done) | (simp [*]; done)), H', ⟨Nat.le_refl _⟩, ⟨HWR.out⟩⟩
  case round =>
    clear H'
    try clear c3
    try clear c3b0
    try clear c3b1
    obtain ⟨x24_1, x60_1, x157000_1, x157001_1, rfl, HA, HK1, HWR⟩ := hrel
    have HB := Aside0.mk (Wr_B HWR.out)
    cases gk with
    | zero => exact absurd HA.out (by simp [delta_Write.l0])
    | succ k1 =>
      have H := HA.out
      clear HA
      simp only [delta_Write.l0] at H
      by_cases c7 : x24_1 < (l0.length : Int)
      rotate_left
      · rw [if_neg c7] at H
        have c7b0 : decide (x24_1 < (l0.length : Int)) = false := decide_eq_false c7
        clear c7
        simp only [Option.some.injEq, Prod.mk.injEq] at H
        obtain ⟨rfl, rfl⟩ := H
        obtain ⟨vF, q1, q2, q3, q4, q5, q6⟩ := HWR.out
        have hcF : wr.cell? ⟨gW, 0, none⟩ = some vF := (blk_cell q1 0).trans rfl
        have HOF := Aside0.mk q2
        clear q1 q2 q3 q4 q5 q6
        obtain ⟨AF, cF, eF⟩ := Kd.R_slice HOF.out
        subst eF
        go_wp2
        go_ret2
        exact ⟨_, by first | rfl | (simp; rfl), Kd.R_mono HOF.out (fun _ _ => trivial), Wr_B HWR.out⟩
      rw [if_pos c7] at H
      have c7b0 : decide (x24_1 < (l0.length : Int)) = true := decide_eq_true c7
      clear c7
      by_cases c8 : 0 ≤ x24_1
      rotate_left
      · rw [if_neg c8] at H
        exact absurd H (by simp)
      rw [if_pos c8] at H
      have c8b0 : decide (0 ≤ x24_1) = true := decide_eq_true c8
      clear c8
      by_cases c9 : x24_1 < (l0.length : Int)
      rotate_left
      · rw [if_neg c9] at H
        exact absurd H (by simp)
      rw [if_pos c9] at H
      have c9b0 : decide (x24_1 < (l0.length : Int)) = true := decide_eq_true c9
      clear c9
      replace H := Option.bind_eq_some_iff.mp H
      obtain ⟨t158, A100, H⟩ := H
      replace H : (delta_Write.l1 k1 l0 (l0.length : Int) x24_1 (rd_L4 l0 x24_1) ((rd_L4 l0 x24_1).length : Int) 0 t158 x157000_1 x157001_1) = some (r1, r2) := H
      have A10 := Aside0.mk A100
      clear A100
      have H' := Aside0.mk H
      clear H
      have p157 : 0 ≤ (x24_1 : Int) := of_decide_eq_true (by first | (with_reducible assumption) | assumption)
      have q157 : x24_1 < (l0.length : Int) := of_decide_eq_true (by first | (with_reducible assumption) | assumption)
      obtain ⟨ad157, A157_0, c157_0, e157, hx157_0, hl157_0, hi157_0⟩ := at_L4 HR0.out x24_1 p157 q157
      cases e157
      replace hx157_0 := (HB.out.cell (World.block_lt_of_cell? w _ hx157_0)).trans hx157_0
      have HR157_0 := Aside0.mk hi157_0
      have HC157_0 := Aside0.mk hl157_0
      clear hi157_0 hl157_0
      replace p157 := eq_true p157
      replace q157 := eq_true q157
      clear HB

      go_wp2_with (first | ((with_reducible refine gate_callee (f := 45) rfl ?_); refine goesL_ (some 31) rfl rfl Try.func45 (by kernel_rfl) rfl #[.pointer (some ⟨gW, 0, none⟩), .int .i64 ((rd_L4 l0 x24_1).length)] rfl (by (try simp only [List.map_toArray, List.map_cons, List.map_nil]); first | done | rfl | (simp only [List.length_drop, List.length_take]; rfl)) ?_; (refine (Wr_num HWR.out A10.out).mono ?_); rintro e wD ⟨rfl, q1, q2⟩; refine ⟨_, rfl, ?_⟩; have HWR2 := Aside0.mk q1; clear HWR; have HWR := HWR2; clear HWR2 q1 q2))
      go_loopg [34] k1 (fun kq v34 w' => ∃ (x34_2 : Int) (x60_2 : List Int) (x157000_2 : Int) (x157001_2 : Int), v34 = .int .i64 x34_2 ∧ Aside0 (delta_Write.l1 kq l0 (l0.length : Int) x24_1 (rd_L4 l0 x24_1) ((rd_L4 l0 x24_1).length : Int) x34_2 x60_2 x157000_2 x157001_2 = some (r1, r2)) ∧ Aside0 (kq ≤ k1) ∧ Aside0 (Wr w w' gW gL x60_2 x157000_2 x157001_2))
      case atStart => exact ⟨(0), (t158), (x157000_1), (x157001_1), (by first | rfl | (simp; done) | (simp [*]; done)), H', ⟨Nat.le_refl _⟩, ⟨HWR.out⟩⟩
      case round =>
        clear H'
        try clear q1
        try clear c7
        try clear c7b0
        try clear c8
        try clear c8b0
        try clear c9
        try clear c9b0
        try clear hx157_0
        try clear p157
        try clear q157
        obtain ⟨x34_2, x60_2, x157000_2, x157001_2, rfl, HA, HK2, HWR⟩ := hrel
        have HB := Aside0.mk (Wr_B HWR.out)
        cases gk with
        | zero => exact absurd HA.out (by simp [delta_Write.l1])
        | succ k2 =>
          have H := HA.out
          clear HA
          simp only [delta_Write.l1] at H
          by_cases c13 : x34_2 < ((rd_L4 l0 x24_1).length : Int)
          rotate_left
          · rw [if_neg c13] at H
            have c13b0 : decide (x34_2 < ((rd_L4 l0 x24_1).length : Int)) = false := decide_eq_false c13
            clear c13
            have H' := Aside0.mk H
            clear H
            go_wp2
            go_roundg k2
            case measure => have := HK1.out; have := HK2.out; omega
            case rel => exact ⟨(wrap64 (x24_1 + 1)), (x60_2), (x157000_2), (x157001_2), (by first | rfl | (simp; done) | (simp [*]; done)), H', ⟨by have := HK1.out; have := HK2.out; omega⟩, ⟨HWR.out⟩⟩
          rw [if_pos c13] at H
          have c13b0 : decide (x34_2 < ((rd_L4 l0 x24_1).length : Int)) = true := decide_eq_true c13
          clear c13
          by_cases c14 : 0 ≤ x34_2
          rotate_left
          · rw [if_neg c14] at H
            exact absurd H (by simp)
          rw [if_pos c14] at H
          have c14b0 : decide (0 ≤ x34_2) = true := decide_eq_true c14
          clear c14
          by_cases c15 : x34_2 < ((rd_L4 l0 x24_1).length : Int)
          rotate_left
          · rw [if_neg c15] at H
            exact absurd H (by simp)
          rw [if_pos c15] at H
          have c15b0 : decide (x34_2 < ((rd_L4 l0 x24_1).length : Int)) = true := decide_eq_true c15
          clear c15
          replace H := Option.bind_eq_some_iff.mp H
          obtain ⟨t163, A160, H⟩ := H
          replace H : ((delta_Num.f k2 t163 (wrap64 (((rd_T44 (rd_L4 l0 x24_1) x34_2).f1) - x157001_2))).bind fun t166 => (delta_Write.l1 k2 l0 (l0.length : Int) x24_1 (rd_L4 l0 x24_1) ((rd_L4 l0 x24_1).length : Int) (wrap64 (x34_2 + 1)) t166 ((rd_T44 (rd_L4 l0 x24_1) x34_2).f0) ((rd_T44 (rd_L4 l0 x24_1) x34_2).f1))) = some (r1, r2) := H
          have A16 := Aside0.mk A160
          clear A160
          replace H := Option.bind_eq_some_iff.mp H
          obtain ⟨t166, A170, H⟩ := H
          replace H : (delta_Write.l1 k2 l0 (l0.length : Int) x24_1 (rd_L4 l0 x24_1) ((rd_L4 l0 x24_1).length : Int) (wrap64 (x34_2 + 1)) t166 ((rd_T44 (rd_L4 l0 x24_1) x34_2).f0) ((rd_T44 (rd_L4 l0 x24_1) x34_2).f1)) = some (r1, r2) := H
          have A17 := Aside0.mk A170
          clear A170
          have H' := Aside0.mk H
          clear H
          have p161 : 0 ≤ (x34_2 : Int) := of_decide_eq_true (by first | (with_reducible assumption) | assumption)
          have q161 : x34_2 < ((rd_L4 l0 x24_1).length : Int) := of_decide_eq_true (by first | (with_reducible assumption) | assumption)
          obtain ⟨ad161, e161, hx161_0, hx161_1⟩ := at_T44 HR157_0.out x34_2 p161 q161
          cases e161
          replace hx161_0 := (HB.out.cell (World.block_lt_of_cell? w _ hx161_0)).trans hx161_0
          replace hx161_1 := (HB.out.cell (World.block_lt_of_cell? w _ hx161_1)).trans hx161_1
          replace p161 := eq_true p161
          replace q161 := eq_true q161
          go_wp2_with (first | ((with_reducible refine gate_dst (N := 10) rfl ?_); refine box_event ?hg (N := 10) ?hd (cs := #[.int .i64 0, .int .i64 0]) (t := 44) ?hr ?_; (case hd => rfl); (case hg => rfl); (case hr => first | (go_simp; done) | (go_simp; rfl)); intro gQ hgQ wQ hbox hb; have hne1 : gL ≠ gQ := (by rw [hgQ]; exact Nat.ne_of_lt (blk_lt (Wr_L HWR.out))); have hne2 : gQ ≠ gL := hne1.symm; have GQ := Aside0.mk ((by rw [hgQ]; exact (Wr_B HWR.out).size) : w.heap.size ≤ gQ); have HWR2 := Aside0.mk (Wr_below HWR.out hb); have BQ := Aside0.mk hbox; clear HWR; have HWR := HWR2; clear HWR2 hb hbox hgQ; have hcq1_0 : wQ.cell? ⟨gQ, 0, none⟩ = some (.int .i64 0) := (blk_cell BQ.out 0).trans rfl; have hcq1_1 : wQ.cell? ⟨gQ, 1, none⟩ = some (.int .i64 0) := (blk_cell BQ.out 1).trans rfl; have hfq1_0 := blk_frozen BQ.out 0; have hfq1_1 := blk_frozen BQ.out 1; have hcl1_0 : wQ.cell? ⟨gL, 0, none⟩ = some (.int .i64 x157000_2) := (blk_cell (Wr_L HWR.out) 0).trans rfl; have hcl1_1 : wQ.cell? ⟨gL, 1, none⟩ = some (.int .i64 x157001_2) := (blk_cell (Wr_L HWR.out) 1).trans rfl; have hfl1_0 := blk_frozen (Wr_L HWR.out) 0; have hfl1_1 := blk_frozen (Wr_L HWR.out) 1) | ((with_reducible refine gate_callee (f := 45) rfl ?_); refine goesL_ (some 44) rfl rfl Try.func45 (by kernel_rfl) rfl #[.pointer (some ⟨gW, 0, none⟩), .int .i64 (wrap64 (((rd_T44 (rd_L4 l0 x24_1) x34_2).f0) - x157000_2))] rfl (by (try simp only [List.map_toArray, List.map_cons, List.map_nil]); first | done | rfl | (simp only [List.length_drop, List.length_take]; rfl)) ?_; (refine (Wr_num (Wr_far (Wr_far HWR.out BQ.out hne1 GQ.out 0 (.int .i64 ((rd_T44 (rd_L4 l0 x24_1) x34_2).f0))) (blk_put BQ.out 0 _ rfl) hne1 GQ.out 1 (.int .i64 ((rd_T44 (rd_L4 l0 x24_1) x34_2).f1))) A16.out).mono ?_); rintro e wE ⟨rfl, q1, q2⟩; refine ⟨_, rfl, ?_⟩; have BQ2 := Aside0.mk (q2 gQ _ (blk_put (cs := #[.int .i64 ((rd_T44 (rd_L4 l0 x24_1) x34_2).f0), .int .i64 0]) (blk_put BQ.out 0 _ rfl) 1 _ rfl)); have HWR2 := Aside0.mk q1; clear HWR BQ; have HWR := HWR2; have BQ := BQ2; clear HWR2 BQ2 q1 q2; clear hcq1_0 hcq1_1 hfq1_0 hfq1_1 hcl1_0 hcl1_1 hfl1_0 hfl1_1; have hcq2_0 : wE.cell? ⟨gQ, 0, none⟩ = some (.int .i64 ((rd_T44 (rd_L4 l0 x24_1) x34_2).f0)) := (blk_cell BQ.out 0).trans rfl; have hcq2_1 : wE.cell? ⟨gQ, 1, none⟩ = some (.int .i64 ((rd_T44 (rd_L4 l0 x24_1) x34_2).f1)) := (blk_cell BQ.out 1).trans rfl; have hfq2_0 := blk_frozen BQ.out 0; have hfq2_1 := blk_frozen BQ.out 1; have hcl2_0 : wE.cell? ⟨gL, 0, none⟩ = some (.int .i64 x157000_2) := (blk_cell (Wr_L HWR.out) 0).trans rfl; have hcl2_1 : wE.cell? ⟨gL, 1, none⟩ = some (.int .i64 x157001_2) := (blk_cell (Wr_L HWR.out) 1).trans rfl; have hfl2_0 := blk_frozen (Wr_L HWR.out) 0; have hfl2_1 := blk_frozen (Wr_L HWR.out) 1) | ((with_reducible refine gate_callee (f := 45) rfl ?_); refine goesL_ (some 51) rfl rfl Try.func45 (by kernel_rfl) rfl #[.pointer (some ⟨gW, 0, none⟩), .int .i64 (wrap64 (((rd_T44 (rd_L4 l0 x24_1) x34_2).f1) - x157001_2))] rfl (by (try simp only [List.map_toArray, List.map_cons, List.map_nil]); first | done | rfl | (simp only [List.length_drop, List.length_take]; rfl)) ?_; (refine (Wr_num HWR.out A17.out).mono ?_); rintro e wF ⟨rfl, q1, q2⟩; refine ⟨_, rfl, ?_⟩; have BQ2 := Aside0.mk (q2 gQ _ BQ.out); have HWR2 := Aside0.mk q1; clear HWR BQ; have HWR := HWR2; have BQ := BQ2; clear HWR2 BQ2 q1 q2; clear hcq2_0 hcq2_1 hfq2_0 hfq2_1 hcl2_0 hcl2_1 hfl2_0 hfl2_1; have hcq3_0 : wF.cell? ⟨gQ, 0, none⟩ = some (.int .i64 ((rd_T44 (rd_L4 l0 x24_1) x34_2).f0)) := (blk_cell BQ.out 0).trans rfl; have hcq3_1 : wF.cell? ⟨gQ, 1, none⟩ = some (.int .i64 ((rd_T44 (rd_L4 l0 x24_1) x34_2).f1)) := (blk_cell BQ.out 1).trans rfl; have hfq3_0 := blk_frozen BQ.out 0; have hfq3_1 := blk_frozen BQ.out 1; have hcl3_0 : wF.cell? ⟨gL, 0, none⟩ = some (.int .i64 x157000_2) := (blk_cell (Wr_L HWR.out) 0).trans rfl; have hcl3_1 : wF.cell? ⟨gL, 1, none⟩ = some (.int .i64 x157001_2) := (blk_cell (Wr_L HWR.out) 1).trans rfl; have hfl3_0 := blk_frozen (Wr_L HWR.out) 0; have hfl3_1 := blk_frozen (Wr_L HWR.out) 1))
          go_roundg k2
          case measure => have := HK1.out; have := HK2.out; omega
          case rel => exact ⟨(wrap64 (x34_2 + 1)), (t166), ((rd_T44 (rd_L4 l0 x24_1) x34_2).f0), ((rd_T44 (rd_L4 l0 x24_1) x34_2).f1), (by first | rfl | (simp; done) | (simp [*]; done)), H', ⟨by have := HK1.out; have := HK2.out; omega⟩, ⟨Wr_put HWR.out ((rd_T44 (rd_L4 l0 x24_1) x34_2).f0) ((rd_T44 (rd_L4 l0 x24_1) x34_2).f1)⟩⟩
end Go.Proofs.Ytjgoehhhjffpmaa.Q

