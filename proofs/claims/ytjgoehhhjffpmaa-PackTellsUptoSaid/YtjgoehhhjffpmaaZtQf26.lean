/- What the Go function pack_Check comes to, and its contract. Condition: its printed twin gives an answer. -/
import Derived.Test.YtjgoehhhjffpmaaZtQf47
import Derived.Test.YtjgoehhhjffpmaaZtQf48
namespace Go.Proofs.Ytjgoehhhjffpmaa.Q
open Go.RowKit Go.Proofs.YtjgoehhhjffpmaaW.PrintWords Go.Proofs.YtjgoehhhjffpmaaW.PrintLast Go.Proofs.YtjgoehhhjffpmaaW.PrintMore
attribute [local go_sem] max2_int min2_int max_two min_two max_three min_three max_four min_four
set_option linter.unusedVariables false
set_option linter.unusedSimpArgs false
/-! ### pack_Check: function 26 -/
mutual
def pack_Check.j0 : Nat → Bool → Int → Int → Int → Int → List (List (S44)) → ByteArray → Option (Int)
  | 0, _, _, _, _, _, _, _ => none
  | k + 1, x14, x222000, x222001, x222002, x222003, x222004, x222005 => if x14 = true then (some 1) else (if (mn (mn x222001 x222002) x222003) < 0 then (pack_Check.j1 k true x222000 x222001 x222002 x222003 x222004 x222005) else (if x222001 > 100 then (pack_Check.j1 k true x222000 x222001 x222002 x222003 x222004 x222005) else (if x222002 > 255 then (pack_Check.j1 k true x222000 x222001 x222002 x222003 x222004 x222005) else (pack_Check.j1 k (decide (x222003 > 64)) x222000 x222001 x222002 x222003 x222004 x222005))))
def pack_Check.j1 : Nat → Bool → Int → Int → Int → Int → List (List (S44)) → ByteArray → Option (Int)
  | 0, _, _, _, _, _, _, _ => none
  | k + 1, x37, x222000, x222001, x222002, x222003, x222004, x222005 => if x37 = true then (some 2) else ((pack_text.f k x222000 x222001 x222002 x222003 x222004 x222005).bind fun t222 => (if t222 = 0 then (if (x222004.length : Int) = 0 then (pack_Check.j2 k true x222000 x222001 x222002 x222003 x222004 x222005) else (if (x222004.length : Int) > 20 then (pack_Check.j2 k true x222000 x222001 x222002 x222003 x222004 x222005) else (if x222000 = 4 then (pack_Check.j2 k ((x222004.length : Int) != 1) x222000 x222001 x222002 x222003 x222004 x222005) else (pack_Check.j2 k false x222000 x222001 x222002 x222003 x222004 x222005)))) else (some t222)))
def pack_Check.j2 : Nat → Bool → Int → Int → Int → Int → List (List (S44)) → ByteArray → Option (Int)
  | 0, _, _, _, _, _, _, _ => none
  | k + 1, x63, x222000, x222001, x222002, x222003, x222004, x222005 => if x63 = true then (some 3) else (pack_Check.l0 k x222004 (x222004.length : Int) 0 x222000 x222001 x222002 x222003 x222004 x222005)
def pack_Check.l0 : Nat → List (List (S44)) → Int → Int → Int → Int → Int → Int → List (List (S44)) → ByteArray → Option (Int)
  | 0, _, _, _, _, _, _, _, _, _ => none
  | k + 1, x65, x66, x67, x222000, x222001, x222002, x222003, x222004, x222005 => if x67 < x66 then (if 0 ≤ x67 then (if x67 < (x65.length : Int) then ((pack_part.f k x222000 (rd_L4 x65 x67)).bind fun t224 => (if t224 = 0 then (pack_Check.l0 k x65 x66 (wrap64 (x67 + 1)) x222000 x222001 x222002 x222003 x222004 x222005) else (some t224))) else (none)) else (none)) else (some 0)
end
def pack_Check.f (k : Nat) (a0_0 : Int) (a0_1 : Int) (a0_2 : Int) (a0_3 : Int) (l0_4 : List (List (S44))) (a0_5 : ByteArray) : Option (Int) := if a0_0 < 1 then (pack_Check.j0 k true a0_0 a0_1 a0_2 a0_3 l0_4 a0_5) else (pack_Check.j0 k (decide (a0_0 > 4)) a0_0 a0_1 a0_2 a0_3 l0_4 a0_5)
set_option maxHeartbeats 8000000 in
set_option maxRecDepth 100000 in
theorem pack_Check.calls (k : Nat) (a0_0 : Int) (a0_1 : Int) (a0_2 : Int) (a0_3 : Int) (A0_4 : Option Addr) (c0_4 : Nat) (l0_4 : List (List (S44))) (a0_5 : ByteArray) (r : Int) (w : World) (hr0_4 : Kd.C (Kd.slice 44 k44) w A0_4 l0_4.length l0_4) (hc0_4 : l0_4.length ≤ c0_4) (h : pack_Check.f k a0_0 a0_1 a0_2 a0_3 l0_4 a0_5 = some r) :
    Calls Try.prog 26 #[.agg #[.int .i64 a0_0, .int .i64 a0_1, .int .i64 a0_2, .int .i64 a0_3, .slice A0_4 l0_4.length c0_4, .string a0_5]] w fun e w' => e = .returned (.int .i64 r) ∧ Below w.heap.size w w' := by
  have hu48 := Try.underlying48
  have HR0_4 := Aside0.mk hr0_4
  have HC0_4 := Aside0.mk hc0_4
  clear hr0_4 hc0_4
  have HB := Aside0.mk (Below.refl w.heap.size w)
  have H : (if a0_0 < 1 then (pack_Check.j0 k true a0_0 a0_1 a0_2 a0_3 l0_4 a0_5) else (pack_Check.j0 k (decide (a0_0 > 4)) a0_0 a0_1 a0_2 a0_3 l0_4 a0_5)) = some r := h
  clear h
  have HC2 := Aside0.mk H
  clear H
  go_enter Try.func26, Try.ntmps26
  go_upto_region 1 with (first | ((with_reducible refine gate_dst (N := 1) rfl ?_); (try (refine gate_guard (by rfl) ?_; dsimp only)); refine box_event ?hg (N := 1) ?hd (cs := #[.int .i64 a0_0, .int .i64 a0_1, .int .i64 a0_2, .int .i64 a0_3, .slice A0_4 l0_4.length c0_4, .string a0_5]) (t := 48) ?hr ?_; (case hd => rfl); (case hg => rfl); (case hr => first | (go_simp; done) | (go_simp; rfl)); intro gb221 hg w3 hbox hb; have BK221 := Aside0.mk (hbox); have GW221 := Aside0.mk ((by rw [hg]; exact (below_size (by repeat (first | (with_reducible first | exact HB.out | apply below_alloc | apply pw_below_drewN | apply below_drew1) | exact HB.out))) : w.heap.size ≤ gb221)); have GE221 := Aside0.mk ((by rw [hg]; exact (below_size (by repeat (first | (with_reducible first | exact HB.out | apply below_alloc | apply pw_below_drewN | apply below_drew1) | exact HB.out))) : w.heap.size ≤ gb221)); replace HB := Aside0.mk (below_step (by repeat (first | (with_reducible first | exact HB.out | apply below_alloc | apply pw_below_drewN | apply below_drew1) | exact HB.out)) hb); clear hb hbox hg))
  (try simp only [Act.put, List.setIfInBounds_toArray, List.set_cons_zero, List.set_cons_succ])
  go_cut [14] (fun v14 wc => ∃ (kq : Nat) (x14_1 : Bool), v14 = .bool x14_1 ∧ Aside0 (pack_Check.j0 kq x14_1 a0_0 a0_1 a0_2 a0_3 l0_4 a0_5 = some r) ∧ Aside0 (kq ≤ k) ∧ Aside0 (wc.heap[gb221]? = some (.cells #[.int .i64 a0_0, .int .i64 a0_1, .int .i64 a0_2, .int .i64 a0_3, (.slice A0_4 l0_4.length c0_4), .string a0_5] 48 (0, 0))) ∧ Aside0 (Below w.heap.size w wc))
  case first =>
    have H := HC2.out
    clear HC2
    by_cases c4 : a0_0 < 1
    · rw [if_pos c4] at H
      have c4b0 : decide (a0_0 < 1) = true := decide_eq_true c4
      clear c4
      (first | rw [c4b0] | (simp only [i64_w, i32_w]; rw [c4b0]) | skip)
      have H' := Aside0.mk H
      clear H
      have hcz5_0 : w3.cell? ⟨gb221, 0, none⟩ = some (.int .i64 a0_0) := (blk_cell BK221.out 0).trans rfl
      have hcz5_1 : w3.cell? ⟨gb221, 1, none⟩ = some (.int .i64 a0_1) := (blk_cell BK221.out 1).trans rfl
      have hcz5_2 : w3.cell? ⟨gb221, 2, none⟩ = some (.int .i64 a0_2) := (blk_cell BK221.out 2).trans rfl
      have hcz5_3 : w3.cell? ⟨gb221, 3, none⟩ = some (.int .i64 a0_3) := (blk_cell BK221.out 3).trans rfl
      have hcz5_4 : w3.cell? ⟨gb221, 4, none⟩ = some (.slice A0_4 l0_4.length c0_4) := (blk_cell BK221.out 4).trans rfl
      have hcz5_5 : w3.cell? ⟨gb221, 5, none⟩ = some (.string a0_5) := (blk_cell BK221.out 5).trans rfl
      have hfz5_0 := blk_frozen BK221.out 0
      have hfz5_1 := blk_frozen BK221.out 1
      have hfz5_2 := blk_frozen BK221.out 2
      have hfz5_3 := blk_frozen BK221.out 3
      have hfz5_4 := blk_frozen BK221.out 4
      have hfz5_5 := blk_frozen BK221.out 5
      go_wp2
      go_meet
      case rel => exact ⟨_, (true), (by first | rfl | (simp; done) | (simp [*]; done)), H', ⟨by first | omega | exact Nat.le_refl _⟩, ⟨by (with_reducible repeat (first | refine blk_drewN ?_ _ | refine blk_drew ?_ | refine blk_alloc ?_ _)); exact BK221.out⟩, ⟨by repeat (first | (with_reducible first | exact HB.out | apply below_alloc | apply pw_below_drewN | apply below_drew1 | refine below_set ?_ GE221.out) | exact HB.out)⟩⟩
    rw [if_neg c4] at H
    have c4b0 : decide (a0_0 < 1) = false := decide_eq_false c4
    clear c4
    (first | rw [c4b0] | (simp only [i64_w, i32_w]; rw [c4b0]) | skip)
    have H' := Aside0.mk H
    clear H
    have hcz6_0 : w3.cell? ⟨gb221, 0, none⟩ = some (.int .i64 a0_0) := (blk_cell BK221.out 0).trans rfl
    have hcz6_1 : w3.cell? ⟨gb221, 1, none⟩ = some (.int .i64 a0_1) := (blk_cell BK221.out 1).trans rfl
    have hcz6_2 : w3.cell? ⟨gb221, 2, none⟩ = some (.int .i64 a0_2) := (blk_cell BK221.out 2).trans rfl
    have hcz6_3 : w3.cell? ⟨gb221, 3, none⟩ = some (.int .i64 a0_3) := (blk_cell BK221.out 3).trans rfl
    have hcz6_4 : w3.cell? ⟨gb221, 4, none⟩ = some (.slice A0_4 l0_4.length c0_4) := (blk_cell BK221.out 4).trans rfl
    have hcz6_5 : w3.cell? ⟨gb221, 5, none⟩ = some (.string a0_5) := (blk_cell BK221.out 5).trans rfl
    have hfz6_0 := blk_frozen BK221.out 0
    have hfz6_1 := blk_frozen BK221.out 1
    have hfz6_2 := blk_frozen BK221.out 2
    have hfz6_3 := blk_frozen BK221.out 3
    have hfz6_4 := blk_frozen BK221.out 4
    have hfz6_5 := blk_frozen BK221.out 5
    go_wp2
    go_meet
    case rel => exact ⟨_, (decide (a0_0 > 4)), (by first | rfl | (simp; done) | (simp [*]; done)), H', ⟨by first | omega | exact Nat.le_refl _⟩, ⟨by (with_reducible repeat (first | refine blk_drewN ?_ _ | refine blk_drew ?_ | refine blk_alloc ?_ _)); exact BK221.out⟩, ⟨by repeat (first | (with_reducible first | exact HB.out | apply below_alloc | apply pw_below_drewN | apply below_drew1 | refine below_set ?_ GE221.out) | exact HB.out)⟩⟩
  case rest =>
    clear HC2
    obtain ⟨kq, x14_1, rfl, HA, HJ1, BK221, HB⟩ := hcut
    cases kq with
    | zero => exact absurd HA.out (by simp [pack_Check.j0])
    | succ kj1 =>
      have H := HA.out
      clear HA
      simp only [pack_Check.j0] at H
      by_cases c7 : x14_1 = true
      · subst c7
        have H1 : (some 1) = some r := by rw [if_pos rfl] at H; exact H
        clear H
        have H := H1
        clear H1
        obtain rfl := Option.some.inj H
        go_wp2
        go_ret
        exact ⟨by first | rfl | (simp [errW_none, errW_some] <;> rfl) | (simp [*, errW_none, errW_some] <;> rfl), by repeat (first | (with_reducible first | exact HB.out | apply below_alloc | apply pw_below_drewN | apply below_drew1 | refine below_set ?_ GE221.out) | exact HB.out)⟩
      replace c7 := Bool.eq_false_iff.mpr c7
      subst c7
      have H1 : (if (mn (mn a0_1 a0_2) a0_3) < 0 then (pack_Check.j1 kj1 true a0_0 a0_1 a0_2 a0_3 l0_4 a0_5) else (if a0_1 > 100 then (pack_Check.j1 kj1 true a0_0 a0_1 a0_2 a0_3 l0_4 a0_5) else (if a0_2 > 255 then (pack_Check.j1 kj1 true a0_0 a0_1 a0_2 a0_3 l0_4 a0_5) else (pack_Check.j1 kj1 (decide (a0_3 > 64)) a0_0 a0_1 a0_2 a0_3 l0_4 a0_5)))) = some r := by rw [if_neg (show ¬ (false = true) by decide)] at H; exact H
      clear H
      have H := H1
      clear H1
      have HC8 := Aside0.mk H
      clear H
      go_upto_region 3 with (fail)
      go_cut [37] (fun v37 wc => ∃ (kq : Nat) (x37_7 : Bool), v37 = .bool x37_7 ∧ Aside0 (pack_Check.j1 kq x37_7 a0_0 a0_1 a0_2 a0_3 l0_4 a0_5 = some r) ∧ Aside0 (kq ≤ kj1) ∧ Aside0 (wc.heap[gb221]? = some (.cells #[.int .i64 a0_0, .int .i64 a0_1, .int .i64 a0_2, .int .i64 a0_3, (.slice A0_4 l0_4.length c0_4), .string a0_5] 48 (0, 0))) ∧ Aside0 (Below w.heap.size w wc))
      case first =>
        have H := HC8.out
        clear HC8
        obtain ⟨ji9, hji9⟩ : ∃ j_ : Int, (mn a0_1 a0_2) = j_ := ⟨_, rfl⟩
        replace H : (if (mn (ji9) a0_3) < 0 then (pack_Check.j1 kj1 true a0_0 a0_1 a0_2 a0_3 l0_4 a0_5) else (if a0_1 > 100 then (pack_Check.j1 kj1 true a0_0 a0_1 a0_2 a0_3 l0_4 a0_5) else (if a0_2 > 255 then (pack_Check.j1 kj1 true a0_0 a0_1 a0_2 a0_3 l0_4 a0_5) else (pack_Check.j1 kj1 (decide (a0_3 > 64)) a0_0 a0_1 a0_2 a0_3 l0_4 a0_5)))) = some r := by first | (rw [hji9] at H; exact H) | (simp only [hji9] at H ⊢; exact H)
        have hji9_ : (if a0_2 < a0_1 then a0_2 else a0_1) = ji9 := hji9
        obtain ⟨ji10, hji10⟩ : ∃ j_ : Int, (mn (ji9) a0_3) = j_ := ⟨_, rfl⟩
        replace H : (if (ji10) < 0 then (pack_Check.j1 kj1 true a0_0 a0_1 a0_2 a0_3 l0_4 a0_5) else (if a0_1 > 100 then (pack_Check.j1 kj1 true a0_0 a0_1 a0_2 a0_3 l0_4 a0_5) else (if a0_2 > 255 then (pack_Check.j1 kj1 true a0_0 a0_1 a0_2 a0_3 l0_4 a0_5) else (pack_Check.j1 kj1 (decide (a0_3 > 64)) a0_0 a0_1 a0_2 a0_3 l0_4 a0_5)))) = some r := by first | (rw [hji10] at H; exact H) | (simp only [hji10] at H ⊢; exact H)
        have hji10_ : (if a0_3 < (ji9) then a0_3 else (ji9)) = ji10 := hji10
        by_cases c11 : (ji10) < 0
        · rw [if_pos c11] at H
          have c11b0 : decide ((ji10) < 0) = true := decide_eq_true c11
          clear c11
          (first | rw [c11b0] | (simp only [i64_w, i32_w]; rw [c11b0]) | skip)
          have H' := Aside0.mk H
          clear H
          have hcz12_0 : wc.cell? ⟨gb221, 0, none⟩ = some (.int .i64 a0_0) := (blk_cell BK221.out 0).trans rfl
          have hcz12_1 : wc.cell? ⟨gb221, 1, none⟩ = some (.int .i64 a0_1) := (blk_cell BK221.out 1).trans rfl
          have hcz12_2 : wc.cell? ⟨gb221, 2, none⟩ = some (.int .i64 a0_2) := (blk_cell BK221.out 2).trans rfl
          have hcz12_3 : wc.cell? ⟨gb221, 3, none⟩ = some (.int .i64 a0_3) := (blk_cell BK221.out 3).trans rfl
          have hcz12_4 : wc.cell? ⟨gb221, 4, none⟩ = some (.slice A0_4 l0_4.length c0_4) := (blk_cell BK221.out 4).trans rfl
          have hcz12_5 : wc.cell? ⟨gb221, 5, none⟩ = some (.string a0_5) := (blk_cell BK221.out 5).trans rfl
          have hfz12_0 := blk_frozen BK221.out 0
          have hfz12_1 := blk_frozen BK221.out 1
          have hfz12_2 := blk_frozen BK221.out 2
          have hfz12_3 := blk_frozen BK221.out 3
          have hfz12_4 := blk_frozen BK221.out 4
          have hfz12_5 := blk_frozen BK221.out 5
          go_wp2
          go_meet
          case rel => exact ⟨_, (true), (by first | rfl | (simp; done) | (simp [*]; done)), H', ⟨by have := HJ1.out; first | omega | exact Nat.le_refl _⟩, ⟨by (with_reducible repeat (first | refine blk_drewN ?_ _ | refine blk_drew ?_ | refine blk_alloc ?_ _)); exact BK221.out⟩, ⟨by repeat (first | (with_reducible first | exact HB.out | apply below_alloc | apply pw_below_drewN | apply below_drew1 | refine below_set ?_ GE221.out) | exact HB.out)⟩⟩
        rw [if_neg c11] at H
        have c11b0 : decide ((ji10) < 0) = false := decide_eq_false c11
        clear c11
        (first | rw [c11b0] | (simp only [i64_w, i32_w]; rw [c11b0]) | skip)
        by_cases c13 : a0_1 > 100
        · rw [if_pos c13] at H
          have c13b0 : decide (100 < a0_1) = true := decide_eq_true c13
          clear c13
          have H' := Aside0.mk H
          clear H
          have hcz14_0 : wc.cell? ⟨gb221, 0, none⟩ = some (.int .i64 a0_0) := (blk_cell BK221.out 0).trans rfl
          have hcz14_1 : wc.cell? ⟨gb221, 1, none⟩ = some (.int .i64 a0_1) := (blk_cell BK221.out 1).trans rfl
          have hcz14_2 : wc.cell? ⟨gb221, 2, none⟩ = some (.int .i64 a0_2) := (blk_cell BK221.out 2).trans rfl
          have hcz14_3 : wc.cell? ⟨gb221, 3, none⟩ = some (.int .i64 a0_3) := (blk_cell BK221.out 3).trans rfl
          have hcz14_4 : wc.cell? ⟨gb221, 4, none⟩ = some (.slice A0_4 l0_4.length c0_4) := (blk_cell BK221.out 4).trans rfl
          have hcz14_5 : wc.cell? ⟨gb221, 5, none⟩ = some (.string a0_5) := (blk_cell BK221.out 5).trans rfl
          have hfz14_0 := blk_frozen BK221.out 0
          have hfz14_1 := blk_frozen BK221.out 1
          have hfz14_2 := blk_frozen BK221.out 2
          have hfz14_3 := blk_frozen BK221.out 3
          have hfz14_4 := blk_frozen BK221.out 4
          have hfz14_5 := blk_frozen BK221.out 5
          go_wp2
          go_meet
          case rel => exact ⟨_, (true), (by first | rfl | (simp; done) | (simp [*]; done)), H', ⟨by have := HJ1.out; first | omega | exact Nat.le_refl _⟩, ⟨by (with_reducible repeat (first | refine blk_drewN ?_ _ | refine blk_drew ?_ | refine blk_alloc ?_ _)); exact BK221.out⟩, ⟨by repeat (first | (with_reducible first | exact HB.out | apply below_alloc | apply pw_below_drewN | apply below_drew1 | refine below_set ?_ GE221.out) | exact HB.out)⟩⟩
        rw [if_neg c13] at H
        have c13b0 : decide (100 < a0_1) = false := decide_eq_false c13
        clear c13
        by_cases c15 : a0_2 > 255
        · rw [if_pos c15] at H
          have c15b0 : decide (255 < a0_2) = true := decide_eq_true c15
          clear c15
          have H' := Aside0.mk H
          clear H
          have hcz16_0 : wc.cell? ⟨gb221, 0, none⟩ = some (.int .i64 a0_0) := (blk_cell BK221.out 0).trans rfl
          have hcz16_1 : wc.cell? ⟨gb221, 1, none⟩ = some (.int .i64 a0_1) := (blk_cell BK221.out 1).trans rfl
          have hcz16_2 : wc.cell? ⟨gb221, 2, none⟩ = some (.int .i64 a0_2) := (blk_cell BK221.out 2).trans rfl
          have hcz16_3 : wc.cell? ⟨gb221, 3, none⟩ = some (.int .i64 a0_3) := (blk_cell BK221.out 3).trans rfl
          have hcz16_4 : wc.cell? ⟨gb221, 4, none⟩ = some (.slice A0_4 l0_4.length c0_4) := (blk_cell BK221.out 4).trans rfl
          have hcz16_5 : wc.cell? ⟨gb221, 5, none⟩ = some (.string a0_5) := (blk_cell BK221.out 5).trans rfl
          have hfz16_0 := blk_frozen BK221.out 0
          have hfz16_1 := blk_frozen BK221.out 1
          have hfz16_2 := blk_frozen BK221.out 2
          have hfz16_3 := blk_frozen BK221.out 3
          have hfz16_4 := blk_frozen BK221.out 4
          have hfz16_5 := blk_frozen BK221.out 5
          go_wp2
          go_meet
          case rel => exact ⟨_, (true), (by first | rfl | (simp; done) | (simp [*]; done)), H', ⟨by have := HJ1.out; first | omega | exact Nat.le_refl _⟩, ⟨by (with_reducible repeat (first | refine blk_drewN ?_ _ | refine blk_drew ?_ | refine blk_alloc ?_ _)); exact BK221.out⟩, ⟨by repeat (first | (with_reducible first | exact HB.out | apply below_alloc | apply pw_below_drewN | apply below_drew1 | refine below_set ?_ GE221.out) | exact HB.out)⟩⟩
        rw [if_neg c15] at H
        have c15b0 : decide (255 < a0_2) = false := decide_eq_false c15
        clear c15
        have H' := Aside0.mk H
        clear H
        have hcz17_0 : wc.cell? ⟨gb221, 0, none⟩ = some (.int .i64 a0_0) := (blk_cell BK221.out 0).trans rfl
        have hcz17_1 : wc.cell? ⟨gb221, 1, none⟩ = some (.int .i64 a0_1) := (blk_cell BK221.out 1).trans rfl
        have hcz17_2 : wc.cell? ⟨gb221, 2, none⟩ = some (.int .i64 a0_2) := (blk_cell BK221.out 2).trans rfl
        have hcz17_3 : wc.cell? ⟨gb221, 3, none⟩ = some (.int .i64 a0_3) := (blk_cell BK221.out 3).trans rfl
        have hcz17_4 : wc.cell? ⟨gb221, 4, none⟩ = some (.slice A0_4 l0_4.length c0_4) := (blk_cell BK221.out 4).trans rfl
        have hcz17_5 : wc.cell? ⟨gb221, 5, none⟩ = some (.string a0_5) := (blk_cell BK221.out 5).trans rfl
        have hfz17_0 := blk_frozen BK221.out 0
        have hfz17_1 := blk_frozen BK221.out 1
        have hfz17_2 := blk_frozen BK221.out 2
        have hfz17_3 := blk_frozen BK221.out 3
        have hfz17_4 := blk_frozen BK221.out 4
        have hfz17_5 := blk_frozen BK221.out 5
        go_wp2
        go_meet
        case rel => exact ⟨_, (decide (a0_3 > 64)), (by first | rfl | (simp; done) | (simp [*]; done)), H', ⟨by have := HJ1.out; first | omega | exact Nat.le_refl _⟩, ⟨by (with_reducible repeat (first | refine blk_drewN ?_ _ | refine blk_drew ?_ | refine blk_alloc ?_ _)); exact BK221.out⟩, ⟨by repeat (first | (with_reducible first | exact HB.out | apply below_alloc | apply pw_below_drewN | apply below_drew1 | refine below_set ?_ GE221.out) | exact HB.out)⟩⟩
      case rest =>
        clear HC8
        try clear c7
        obtain ⟨kq, x37_7, rfl, HA, HJ7, BK221, HB⟩ := hcut
        cases kq with
        | zero => exact absurd HA.out (by simp [pack_Check.j1])
        | succ kj7 =>
          have H := HA.out
          clear HA
          simp only [pack_Check.j1] at H
          by_cases c18 : x37_7 = true
          · subst c18
            have H1 : (some 2) = some r := by rw [if_pos rfl] at H; exact H
            clear H
            have H := H1
            clear H1
            obtain rfl := Option.some.inj H
            go_wp2
            go_ret
            exact ⟨by first | rfl | (simp [errW_none, errW_some] <;> rfl) | (simp [*, errW_none, errW_some] <;> rfl), by repeat (first | (with_reducible first | exact HB.out | apply below_alloc | apply pw_below_drewN | apply below_drew1 | refine below_set ?_ GE221.out) | exact HB.out)⟩
          replace c18 := Bool.eq_false_iff.mpr c18
          subst c18
          have H1 : ((pack_text.f kj7 a0_0 a0_1 a0_2 a0_3 l0_4 a0_5).bind fun t222 => (if t222 = 0 then (if (l0_4.length : Int) = 0 then (pack_Check.j2 kj7 true a0_0 a0_1 a0_2 a0_3 l0_4 a0_5) else (if (l0_4.length : Int) > 20 then (pack_Check.j2 kj7 true a0_0 a0_1 a0_2 a0_3 l0_4 a0_5) else (if a0_0 = 4 then (pack_Check.j2 kj7 ((l0_4.length : Int) != 1) a0_0 a0_1 a0_2 a0_3 l0_4 a0_5) else (pack_Check.j2 kj7 false a0_0 a0_1 a0_2 a0_3 l0_4 a0_5)))) else (some t222))) = some r := by rw [if_neg (show ¬ (false = true) by decide)] at H; exact H
          clear H
          have H := H1
          clear H1
          replace H := Option.bind_eq_some_iff.mp H
          obtain ⟨t222, A190, H⟩ := H
          replace H : (if t222 = 0 then (if (l0_4.length : Int) = 0 then (pack_Check.j2 kj7 true a0_0 a0_1 a0_2 a0_3 l0_4 a0_5) else (if (l0_4.length : Int) > 20 then (pack_Check.j2 kj7 true a0_0 a0_1 a0_2 a0_3 l0_4 a0_5) else (if a0_0 = 4 then (pack_Check.j2 kj7 ((l0_4.length : Int) != 1) a0_0 a0_1 a0_2 a0_3 l0_4 a0_5) else (pack_Check.j2 kj7 false a0_0 a0_1 a0_2 a0_3 l0_4 a0_5)))) else (some t222)) = some r := H
          have A19 := Aside0.mk A190
          clear A190
          by_cases c20 : t222 = 0
          rotate_left
          · rw [if_neg c20] at H
            have c20b0 : (t222 == 0) = false := beq_eq_false_iff_ne.mpr c20
            have c20b1 : (t222 != 0) = true := bne_iff_ne.mpr c20
            obtain rfl := Option.some.inj H
            have hcz42_0 : wc.cell? ⟨gb221, 0, none⟩ = some (.int .i64 a0_0) := (blk_cell BK221.out 0).trans rfl
            have hcz42_1 : wc.cell? ⟨gb221, 1, none⟩ = some (.int .i64 a0_1) := (blk_cell BK221.out 1).trans rfl
            have hcz42_2 : wc.cell? ⟨gb221, 2, none⟩ = some (.int .i64 a0_2) := (blk_cell BK221.out 2).trans rfl
            have hcz42_3 : wc.cell? ⟨gb221, 3, none⟩ = some (.int .i64 a0_3) := (blk_cell BK221.out 3).trans rfl
            have hcz42_4 : wc.cell? ⟨gb221, 4, none⟩ = some (.slice A0_4 l0_4.length c0_4) := (blk_cell BK221.out 4).trans rfl
            have hcz42_5 : wc.cell? ⟨gb221, 5, none⟩ = some (.string a0_5) := (blk_cell BK221.out 5).trans rfl
            have hfz42_0 := blk_frozen BK221.out 0
            have hfz42_1 := blk_frozen BK221.out 1
            have hfz42_2 := blk_frozen BK221.out 2
            have hfz42_3 := blk_frozen BK221.out 3
            have hfz42_4 := blk_frozen BK221.out 4
            have hfz42_5 := blk_frozen BK221.out 5
            go_wp2_with (first | ((with_reducible refine gate_callee (f := 47) rfl ?_); refine goesL_ (some 39) rfl rfl Try.func47 (by kernel_rfl) rfl #[.agg #[.int .i64 a0_0, .int .i64 a0_1, .int .i64 a0_2, .int .i64 a0_3, .slice A0_4 l0_4.length c0_4, .string a0_5]] rfl (by (try simp only [List.map_toArray, List.map_cons, List.map_nil]); first | done | rfl | (simp only [List.length_drop, List.length_take]; rfl)) ?_; (with_reducible refine (pack_text.calls kj7 a0_0 a0_1 a0_2 a0_3 _ _ l0_4 a0_5 t222 _ ?side1 ?side2 A19.out).mono ?_); (case side1 => repeat (first | exact (Kd.C_below HR0_4.out HB.out) | (with_reducible refine Kd.C_alloc ?_ _) | (with_reducible refine Kd.C_drewN ?_ _) | (with_reducible refine Kd.C_drew ?_))); (case side2 => exact HC0_4.out); rintro e w43 ⟨rfl, hb⟩; refine ⟨_, rfl, ?_⟩; replace BK221 := Aside0.mk (blk_below (g := gb221) (o := .cells #[.int .i64 a0_0, .int .i64 a0_1, .int .i64 a0_2, .int .i64 a0_3, .slice A0_4 l0_4.length c0_4, .string a0_5] 48 (0, 0)) (by (with_reducible repeat (first | refine blk_drewN ?_ _ | refine blk_drew ?_ | refine blk_alloc ?_ _)); exact BK221.out) hb); replace HB := Aside0.mk (below_step (by repeat (first | (with_reducible first | exact HB.out | apply below_alloc | apply pw_below_drewN | apply below_drew1 | refine below_set ?_ GE221.out) | exact HB.out)) hb); (try clear hb); (try clear hb2); (try clear hk); (try clear hi)))
            go_ret
            exact ⟨by first | rfl | (simp [errW_none, errW_some] <;> rfl) | (simp [*, errW_none, errW_some] <;> rfl), by repeat (first | (with_reducible first | exact HB.out | apply below_alloc | apply pw_below_drewN | apply below_drew1 | refine below_set ?_ GE221.out) | exact HB.out)⟩
          rw [if_pos c20] at H
          have c20b0 : (t222 == 0) = true := beq_iff_eq.mpr c20
          have c20b1 : (t222 != 0) = false := bne_eq_false_iff_eq.mpr c20
          clear c20
          have HC21 := Aside0.mk H
          clear H
          have hcz22_0 : wc.cell? ⟨gb221, 0, none⟩ = some (.int .i64 a0_0) := (blk_cell BK221.out 0).trans rfl
          have hcz22_1 : wc.cell? ⟨gb221, 1, none⟩ = some (.int .i64 a0_1) := (blk_cell BK221.out 1).trans rfl
          have hcz22_2 : wc.cell? ⟨gb221, 2, none⟩ = some (.int .i64 a0_2) := (blk_cell BK221.out 2).trans rfl
          have hcz22_3 : wc.cell? ⟨gb221, 3, none⟩ = some (.int .i64 a0_3) := (blk_cell BK221.out 3).trans rfl
          have hcz22_4 : wc.cell? ⟨gb221, 4, none⟩ = some (.slice A0_4 l0_4.length c0_4) := (blk_cell BK221.out 4).trans rfl
          have hcz22_5 : wc.cell? ⟨gb221, 5, none⟩ = some (.string a0_5) := (blk_cell BK221.out 5).trans rfl
          have hfz22_0 := blk_frozen BK221.out 0
          have hfz22_1 := blk_frozen BK221.out 1
          have hfz22_2 := blk_frozen BK221.out 2
          have hfz22_3 := blk_frozen BK221.out 3
          have hfz22_4 := blk_frozen BK221.out 4
          have hfz22_5 := blk_frozen BK221.out 5
          go_upto_region 8 with (first | ((with_reducible refine gate_callee (f := 47) rfl ?_); refine goesL_ (some 39) rfl rfl Try.func47 (by kernel_rfl) rfl #[.agg #[.int .i64 a0_0, .int .i64 a0_1, .int .i64 a0_2, .int .i64 a0_3, .slice A0_4 l0_4.length c0_4, .string a0_5]] rfl (by (try simp only [List.map_toArray, List.map_cons, List.map_nil]); first | done | rfl | (simp only [List.length_drop, List.length_take]; rfl)) ?_; (with_reducible refine (pack_text.calls kj7 a0_0 a0_1 a0_2 a0_3 _ _ l0_4 a0_5 t222 _ ?side1 ?side2 A19.out).mono ?_); (case side1 => repeat (first | exact (Kd.C_below HR0_4.out HB.out) | (with_reducible refine Kd.C_alloc ?_ _) | (with_reducible refine Kd.C_drewN ?_ _) | (with_reducible refine Kd.C_drew ?_))); (case side2 => exact HC0_4.out); rintro e w23 ⟨rfl, hb⟩; refine ⟨_, rfl, ?_⟩; replace BK221 := Aside0.mk (blk_below (g := gb221) (o := .cells #[.int .i64 a0_0, .int .i64 a0_1, .int .i64 a0_2, .int .i64 a0_3, .slice A0_4 l0_4.length c0_4, .string a0_5] 48 (0, 0)) (by (with_reducible repeat (first | refine blk_drewN ?_ _ | refine blk_drew ?_ | refine blk_alloc ?_ _)); exact BK221.out) hb); replace HB := Aside0.mk (below_step (by repeat (first | (with_reducible first | exact HB.out | apply below_alloc | apply pw_below_drewN | apply below_drew1 | refine below_set ?_ GE221.out) | exact HB.out)) hb); (try clear hb); (try clear hb2); (try clear hk); (try clear hi)))
          (try simp only [Act.put, List.setIfInBounds_toArray, List.set_cons_zero, List.set_cons_succ])
          go_cut [63] (fun v63 wc => ∃ (kq : Nat) (x63_20 : Bool), v63 = .bool x63_20 ∧ Aside0 (pack_Check.j2 kq x63_20 a0_0 a0_1 a0_2 a0_3 l0_4 a0_5 = some r) ∧ Aside0 (kq ≤ kj7) ∧ Aside0 (wc.heap[gb221]? = some (.cells #[.int .i64 a0_0, .int .i64 a0_1, .int .i64 a0_2, .int .i64 a0_3, (.slice A0_4 l0_4.length c0_4), .string a0_5] 48 (0, 0))) ∧ Aside0 (Below w.heap.size w wc))
          case first =>
            have H := HC21.out
            clear HC21
            by_cases c24 : (l0_4.length : Int) = 0
            · rw [if_pos c24] at H
              have c24b0 : ((l0_4.length : Int) == 0) = true := beq_iff_eq.mpr c24
              have c24b1 : ((l0_4.length : Int) != 0) = false := bne_eq_false_iff_eq.mpr c24
              clear c24
              (first | rw [c24b0] | (simp only [i64_w, i32_w]; rw [c24b0]) | skip)
              have H' := Aside0.mk H
              clear H
              have hcz25_0 : w23.cell? ⟨gb221, 0, none⟩ = some (.int .i64 a0_0) := (blk_cell BK221.out 0).trans rfl
              have hcz25_1 : w23.cell? ⟨gb221, 1, none⟩ = some (.int .i64 a0_1) := (blk_cell BK221.out 1).trans rfl
              have hcz25_2 : w23.cell? ⟨gb221, 2, none⟩ = some (.int .i64 a0_2) := (blk_cell BK221.out 2).trans rfl
              have hcz25_3 : w23.cell? ⟨gb221, 3, none⟩ = some (.int .i64 a0_3) := (blk_cell BK221.out 3).trans rfl
              have hcz25_4 : w23.cell? ⟨gb221, 4, none⟩ = some (.slice A0_4 l0_4.length c0_4) := (blk_cell BK221.out 4).trans rfl
              have hcz25_5 : w23.cell? ⟨gb221, 5, none⟩ = some (.string a0_5) := (blk_cell BK221.out 5).trans rfl
              have hfz25_0 := blk_frozen BK221.out 0
              have hfz25_1 := blk_frozen BK221.out 1
              have hfz25_2 := blk_frozen BK221.out 2
              have hfz25_3 := blk_frozen BK221.out 3
              have hfz25_4 := blk_frozen BK221.out 4
              have hfz25_5 := blk_frozen BK221.out 5
              go_wp2
              go_meet
              case rel => exact ⟨_, (true), (by first | rfl | (simp; done) | (simp [*]; done)), H', ⟨by have := HJ1.out; have := HJ7.out; first | omega | exact Nat.le_refl _⟩, ⟨by (with_reducible repeat (first | refine blk_drewN ?_ _ | refine blk_drew ?_ | refine blk_alloc ?_ _)); exact BK221.out⟩, ⟨by repeat (first | (with_reducible first | exact HB.out | apply below_alloc | apply pw_below_drewN | apply below_drew1 | refine below_set ?_ GE221.out) | exact HB.out)⟩⟩
            rw [if_neg c24] at H
            have c24b0 : ((l0_4.length : Int) == 0) = false := beq_eq_false_iff_ne.mpr c24
            have c24b1 : ((l0_4.length : Int) != 0) = true := bne_iff_ne.mpr c24
            have c24b2 : ¬ (l0_4 = []) := fun h_ => c24 (by rw [h_]; rfl)
            (first | rw [c24b0] | (simp only [i64_w, i32_w]; rw [c24b0]) | skip)
            by_cases c26 : (l0_4.length : Int) > 20
            · rw [if_pos c26] at H
              have c26b0 : decide (20 < (l0_4.length : Int)) = true := decide_eq_true c26
              have c26b1 : decide (20 < l0_4.length) = true := decide_eq_true (by omega)
              clear c26
              have H' := Aside0.mk H
              clear H
              have hcz27_0 : w23.cell? ⟨gb221, 0, none⟩ = some (.int .i64 a0_0) := (blk_cell BK221.out 0).trans rfl
              have hcz27_1 : w23.cell? ⟨gb221, 1, none⟩ = some (.int .i64 a0_1) := (blk_cell BK221.out 1).trans rfl
              have hcz27_2 : w23.cell? ⟨gb221, 2, none⟩ = some (.int .i64 a0_2) := (blk_cell BK221.out 2).trans rfl
              have hcz27_3 : w23.cell? ⟨gb221, 3, none⟩ = some (.int .i64 a0_3) := (blk_cell BK221.out 3).trans rfl
              have hcz27_4 : w23.cell? ⟨gb221, 4, none⟩ = some (.slice A0_4 l0_4.length c0_4) := (blk_cell BK221.out 4).trans rfl
              have hcz27_5 : w23.cell? ⟨gb221, 5, none⟩ = some (.string a0_5) := (blk_cell BK221.out 5).trans rfl
              have hfz27_0 := blk_frozen BK221.out 0
              have hfz27_1 := blk_frozen BK221.out 1
              have hfz27_2 := blk_frozen BK221.out 2
              have hfz27_3 := blk_frozen BK221.out 3
              have hfz27_4 := blk_frozen BK221.out 4
              have hfz27_5 := blk_frozen BK221.out 5
              go_wp2
              go_meet
              case rel => exact ⟨_, (true), (by first | rfl | (simp; done) | (simp [*]; done)), H', ⟨by have := HJ1.out; have := HJ7.out; first | omega | exact Nat.le_refl _⟩, ⟨by (with_reducible repeat (first | refine blk_drewN ?_ _ | refine blk_drew ?_ | refine blk_alloc ?_ _)); exact BK221.out⟩, ⟨by repeat (first | (with_reducible first | exact HB.out | apply below_alloc | apply pw_below_drewN | apply below_drew1 | refine below_set ?_ GE221.out) | exact HB.out)⟩⟩
            rw [if_neg c26] at H
            have c26b0 : decide (20 < (l0_4.length : Int)) = false := decide_eq_false c26
            have c26b1 : decide (20 < l0_4.length) = false := decide_eq_false (by omega)
            clear c26
            by_cases c28 : a0_0 = 4
            rotate_left
            · rw [if_neg c28] at H
              have c28b0 : (a0_0 == 4) = false := beq_eq_false_iff_ne.mpr c28
              have c28b1 : (a0_0 != 4) = true := bne_iff_ne.mpr c28
              have H' := Aside0.mk H
              clear H
              have hcz30_0 : w23.cell? ⟨gb221, 0, none⟩ = some (.int .i64 a0_0) := (blk_cell BK221.out 0).trans rfl
              have hcz30_1 : w23.cell? ⟨gb221, 1, none⟩ = some (.int .i64 a0_1) := (blk_cell BK221.out 1).trans rfl
              have hcz30_2 : w23.cell? ⟨gb221, 2, none⟩ = some (.int .i64 a0_2) := (blk_cell BK221.out 2).trans rfl
              have hcz30_3 : w23.cell? ⟨gb221, 3, none⟩ = some (.int .i64 a0_3) := (blk_cell BK221.out 3).trans rfl
              have hcz30_4 : w23.cell? ⟨gb221, 4, none⟩ = some (.slice A0_4 l0_4.length c0_4) := (blk_cell BK221.out 4).trans rfl
              have hcz30_5 : w23.cell? ⟨gb221, 5, none⟩ = some (.string a0_5) := (blk_cell BK221.out 5).trans rfl
              have hfz30_0 := blk_frozen BK221.out 0
              have hfz30_1 := blk_frozen BK221.out 1
              have hfz30_2 := blk_frozen BK221.out 2
              have hfz30_3 := blk_frozen BK221.out 3
              have hfz30_4 := blk_frozen BK221.out 4
              have hfz30_5 := blk_frozen BK221.out 5
              go_wp2
              go_meet
              case rel => exact ⟨_, (false), (by first | rfl | (simp; done) | (simp [*]; done)), H', ⟨by have := HJ1.out; have := HJ7.out; first | omega | exact Nat.le_refl _⟩, ⟨by (with_reducible repeat (first | refine blk_drewN ?_ _ | refine blk_drew ?_ | refine blk_alloc ?_ _)); exact BK221.out⟩, ⟨by repeat (first | (with_reducible first | exact HB.out | apply below_alloc | apply pw_below_drewN | apply below_drew1 | refine below_set ?_ GE221.out) | exact HB.out)⟩⟩
            rw [if_pos c28] at H
            have c28b0 : (a0_0 == 4) = true := beq_iff_eq.mpr c28
            have c28b1 : (a0_0 != 4) = false := bne_eq_false_iff_eq.mpr c28
            clear c28
            have H' := Aside0.mk H
            clear H
            have hcz29_0 : w23.cell? ⟨gb221, 0, none⟩ = some (.int .i64 a0_0) := (blk_cell BK221.out 0).trans rfl
            have hcz29_1 : w23.cell? ⟨gb221, 1, none⟩ = some (.int .i64 a0_1) := (blk_cell BK221.out 1).trans rfl
            have hcz29_2 : w23.cell? ⟨gb221, 2, none⟩ = some (.int .i64 a0_2) := (blk_cell BK221.out 2).trans rfl
            have hcz29_3 : w23.cell? ⟨gb221, 3, none⟩ = some (.int .i64 a0_3) := (blk_cell BK221.out 3).trans rfl
            have hcz29_4 : w23.cell? ⟨gb221, 4, none⟩ = some (.slice A0_4 l0_4.length c0_4) := (blk_cell BK221.out 4).trans rfl
            have hcz29_5 : w23.cell? ⟨gb221, 5, none⟩ = some (.string a0_5) := (blk_cell BK221.out 5).trans rfl
            have hfz29_0 := blk_frozen BK221.out 0
            have hfz29_1 := blk_frozen BK221.out 1
            have hfz29_2 := blk_frozen BK221.out 2
            have hfz29_3 := blk_frozen BK221.out 3
            have hfz29_4 := blk_frozen BK221.out 4
            have hfz29_5 := blk_frozen BK221.out 5
            go_wp2
            go_meet
            case rel => exact ⟨_, (((l0_4.length : Int) != 1)), (by first | rfl | (simp; done) | (simp [*]; done)), H', ⟨by have := HJ1.out; have := HJ7.out; first | omega | exact Nat.le_refl _⟩, ⟨by (with_reducible repeat (first | refine blk_drewN ?_ _ | refine blk_drew ?_ | refine blk_alloc ?_ _)); exact BK221.out⟩, ⟨by repeat (first | (with_reducible first | exact HB.out | apply below_alloc | apply pw_below_drewN | apply below_drew1 | refine below_set ?_ GE221.out) | exact HB.out)⟩⟩
          case rest =>
            clear HC21
            try clear c18
            try clear c20
            try clear c20b0
            try clear c20b1
            try clear hcz22_0
            try clear hcz22_1
            try clear hcz22_2
            try clear hcz22_3
            try clear hcz22_4
            try clear hcz22_5
            try clear hfz22_0
            try clear hfz22_1
            try clear hfz22_2
            try clear hfz22_3
            try clear hfz22_4
            try clear hfz22_5
            obtain ⟨kq, x63_20, rfl, HA, HJ20, BK221, HB⟩ := hcut
            cases kq with
            | zero => exact absurd HA.out (by simp [pack_Check.j2])
            | succ kj20 =>
              have H := HA.out
              clear HA
              simp only [pack_Check.j2] at H
              by_cases c31 : x63_20 = true
              · subst c31
                have H1 : (some 3) = some r := by rw [if_pos rfl] at H; exact H
                clear H
                have H := H1
                clear H1
                obtain rfl := Option.some.inj H
                go_wp2
                go_ret
                exact ⟨by first | rfl | (simp [errW_none, errW_some] <;> rfl) | (simp [*, errW_none, errW_some] <;> rfl), by repeat (first | (with_reducible first | exact HB.out | apply below_alloc | apply pw_below_drewN | apply below_drew1 | refine below_set ?_ GE221.out) | exact HB.out)⟩
              replace c31 := Bool.eq_false_iff.mpr c31
              subst c31
              have H1 : (pack_Check.l0 kj20 l0_4 (l0_4.length : Int) 0 a0_0 a0_1 a0_2 a0_3 l0_4 a0_5) = some r := by rw [if_neg (show ¬ (false = true) by decide)] at H; exact H
              clear H
              have H := H1
              clear H1
              have H' := Aside0.mk H
              clear H
              have hcz32_0 : wc.cell? ⟨gb221, 0, none⟩ = some (.int .i64 a0_0) := (blk_cell BK221.out 0).trans rfl
              have hcz32_1 : wc.cell? ⟨gb221, 1, none⟩ = some (.int .i64 a0_1) := (blk_cell BK221.out 1).trans rfl
              have hcz32_2 : wc.cell? ⟨gb221, 2, none⟩ = some (.int .i64 a0_2) := (blk_cell BK221.out 2).trans rfl
              have hcz32_3 : wc.cell? ⟨gb221, 3, none⟩ = some (.int .i64 a0_3) := (blk_cell BK221.out 3).trans rfl
              have hcz32_4 : wc.cell? ⟨gb221, 4, none⟩ = some (.slice A0_4 l0_4.length c0_4) := (blk_cell BK221.out 4).trans rfl
              have hcz32_5 : wc.cell? ⟨gb221, 5, none⟩ = some (.string a0_5) := (blk_cell BK221.out 5).trans rfl
              have hfz32_0 := blk_frozen BK221.out 0
              have hfz32_1 := blk_frozen BK221.out 1
              have hfz32_2 := blk_frozen BK221.out 2
              have hfz32_3 := blk_frozen BK221.out 3
              have hfz32_4 := blk_frozen BK221.out 4
              have hfz32_5 := blk_frozen BK221.out 5
              go_wp2
              go_loopg [67] kj20 (fun kq v67 w' => ∃ (x67_4 : Int), v67 = .int .i64 x67_4 ∧ Aside0 (pack_Check.l0 kq l0_4 (l0_4.length : Int) x67_4 a0_0 a0_1 a0_2 a0_3 l0_4 a0_5 = some r) ∧ Aside0 (kq ≤ kj20) ∧ Aside0 (w'.heap[gb221]? = some (.cells #[.int .i64 a0_0, .int .i64 a0_1, .int .i64 a0_2, .int .i64 a0_3, (.slice A0_4 l0_4.length c0_4), .string a0_5] 48 (0, 0))) ∧ Aside0 (Below w.heap.size w w'))
              case atStart => exact ⟨(0), (by first | rfl | (simp; done) | (simp [*]; done)), H', ⟨Nat.le_refl _⟩, ⟨by (with_reducible repeat (first | refine blk_drewN ?_ _ | refine blk_drew ?_ | refine blk_alloc ?_ _)); exact BK221.out⟩, ⟨by repeat (first | (with_reducible first | exact HB.out | apply below_alloc | apply pw_below_drewN | apply below_drew1 | refine below_set ?_ GE221.out) | exact HB.out)⟩⟩
              case round =>
                clear H'
                try clear c31
                try clear hcz32_0
                try clear hcz32_1
                try clear hcz32_2
                try clear hcz32_3
                try clear hcz32_4
                try clear hcz32_5
                try clear hfz32_0
                try clear hfz32_1
                try clear hfz32_2
                try clear hfz32_3
                try clear hfz32_4
                try clear hfz32_5
                obtain ⟨x67_4, rfl, HA, HK4, BK221, HB⟩ := hrel
                cases gk with
                | zero => exact absurd HA.out (by simp [pack_Check.l0])
                | succ k4 =>
                  have H := HA.out
                  clear HA
                  simp only [pack_Check.l0] at H
                  by_cases c33 : x67_4 < (l0_4.length : Int)
                  rotate_left
                  · rw [if_neg c33] at H
                    have c33b0 : decide (x67_4 < (l0_4.length : Int)) = false := decide_eq_false c33
                    clear c33
                    obtain rfl := Option.some.inj H
                    go_wp2
                    go_ret
                    exact ⟨by first | rfl | (simp [errW_none, errW_some] <;> rfl) | (simp [*, errW_none, errW_some] <;> rfl), by repeat (first | (with_reducible first | exact HB.out | apply below_alloc | apply pw_below_drewN | apply below_drew1 | refine below_set ?_ GE221.out) | exact HB.out)⟩
                  rw [if_pos c33] at H
                  have c33b0 : decide (x67_4 < (l0_4.length : Int)) = true := decide_eq_true c33
                  clear c33
                  by_cases c34 : 0 ≤ x67_4
                  rotate_left
                  · rw [if_neg c34] at H
                    exact absurd H (by simp)
                  rw [if_pos c34] at H
                  have c34b0 : decide (0 ≤ x67_4) = true := decide_eq_true c34
                  clear c34
                  by_cases c35 : x67_4 < (l0_4.length : Int)
                  rotate_left
                  · rw [if_neg c35] at H
                    exact absurd H (by simp)
                  rw [if_pos c35] at H
                  have c35b0 : decide (x67_4 < (l0_4.length : Int)) = true := decide_eq_true c35
                  clear c35
                  replace H := Option.bind_eq_some_iff.mp H
                  obtain ⟨t224, A360, H⟩ := H
                  replace H : (if t224 = 0 then (pack_Check.l0 k4 l0_4 (l0_4.length : Int) (wrap64 (x67_4 + 1)) a0_0 a0_1 a0_2 a0_3 l0_4 a0_5) else (some t224)) = some r := H
                  have A36 := Aside0.mk A360
                  clear A360
                  by_cases c37 : t224 = 0
                  rotate_left
                  · rw [if_neg c37] at H
                    have c37b0 : (t224 == 0) = false := beq_eq_false_iff_ne.mpr c37
                    have c37b1 : (t224 != 0) = true := bne_iff_ne.mpr c37
                    obtain rfl := Option.some.inj H
                    have p223 : 0 ≤ (x67_4 : Int) := of_decide_eq_true (by first | (with_reducible assumption) | assumption)
                    have q223 : x67_4 < (l0_4.length : Int) := of_decide_eq_true (by first | (with_reducible assumption) | assumption)
                    obtain ⟨ad223, A223_0, c223_0, e223, hx223_0, hl223_0, hi223_0⟩ := at_L4 HR0_4.out x67_4 p223 q223
                    cases e223
                    replace hx223_0 := (HB.out.cell (World.block_lt_of_cell? w _ hx223_0)).trans hx223_0
                    have HR223_0 := Aside0.mk hi223_0
                    have HC223_0 := Aside0.mk hl223_0
                    clear hi223_0 hl223_0
                    replace p223 := eq_true p223
                    replace q223 := eq_true q223
                    have hcz40_0 : wr.cell? ⟨gb221, 0, none⟩ = some (.int .i64 a0_0) := (blk_cell BK221.out 0).trans rfl
                    have hcz40_1 : wr.cell? ⟨gb221, 1, none⟩ = some (.int .i64 a0_1) := (blk_cell BK221.out 1).trans rfl
                    have hcz40_2 : wr.cell? ⟨gb221, 2, none⟩ = some (.int .i64 a0_2) := (blk_cell BK221.out 2).trans rfl
                    have hcz40_3 : wr.cell? ⟨gb221, 3, none⟩ = some (.int .i64 a0_3) := (blk_cell BK221.out 3).trans rfl
                    have hcz40_4 : wr.cell? ⟨gb221, 4, none⟩ = some (.slice (some ad223) l0_4.length c0_4) := (blk_cell BK221.out 4).trans rfl
                    have hcz40_5 : wr.cell? ⟨gb221, 5, none⟩ = some (.string a0_5) := (blk_cell BK221.out 5).trans rfl
                    have hfz40_0 := blk_frozen BK221.out 0
                    have hfz40_1 := blk_frozen BK221.out 1
                    have hfz40_2 := blk_frozen BK221.out 2
                    have hfz40_3 := blk_frozen BK221.out 3
                    have hfz40_4 := blk_frozen BK221.out 4
                    have hfz40_5 := blk_frozen BK221.out 5
                    go_wp2_with (first | ((with_reducible refine gate_callee (f := 48) rfl ?_); refine goesL_ (some 74) rfl rfl Try.func48 (by kernel_rfl) rfl #[.int .i64 a0_0, .slice A223_0 (rd_L4 l0_4 x67_4).length c223_0] rfl (by (try simp only [List.map_toArray, List.map_cons, List.map_nil]); first | done | rfl | (simp only [List.length_drop, List.length_take]; rfl)) ?_; (with_reducible refine (pack_part.calls k4 a0_0 _ _ (rd_L4 l0_4 x67_4) t224 _ ?side1 ?side2 A36.out).mono ?_); (case side1 => repeat (first | exact (Kd.C_below HR223_0.out HB.out) | (with_reducible refine Kd.C_alloc ?_ _) | (with_reducible refine Kd.C_drewN ?_ _) | (with_reducible refine Kd.C_drew ?_))); (case side2 => exact HC223_0.out); rintro e w41 ⟨rfl, hb⟩; refine ⟨_, rfl, ?_⟩; replace BK221 := Aside0.mk (blk_below (g := gb221) (o := .cells #[.int .i64 a0_0, .int .i64 a0_1, .int .i64 a0_2, .int .i64 a0_3, .slice (some ad223) l0_4.length c0_4, .string a0_5] 48 (0, 0)) (by (with_reducible repeat (first | refine blk_drewN ?_ _ | refine blk_drew ?_ | refine blk_alloc ?_ _)); exact BK221.out) hb); replace HB := Aside0.mk (below_step (by repeat (first | (with_reducible first | exact HB.out | apply below_alloc | apply pw_below_drewN | apply below_drew1 | refine below_set ?_ GE221.out) | exact HB.out)) hb); (try clear hb); (try clear hb2); (try clear hk); (try clear hi)))
                    go_ret
                    exact ⟨by first | rfl | (simp [errW_none, errW_some] <;> rfl) | (simp [*, errW_none, errW_some] <;> rfl), by repeat (first | (with_reducible first | exact HB.out | apply below_alloc | apply pw_below_drewN | apply below_drew1 | refine below_set ?_ GE221.out) | exact HB.out)⟩
                  rw [if_pos c37] at H
                  have c37b0 : (t224 == 0) = true := beq_iff_eq.mpr c37
                  have c37b1 : (t224 != 0) = false := bne_eq_false_iff_eq.mpr c37
                  clear c37
                  have H' := Aside0.mk H
                  clear H
                  have p223 : 0 ≤ (x67_4 : Int) := of_decide_eq_true (by first | (with_reducible assumption) | assumption)
                  have q223 : x67_4 < (l0_4.length : Int) := of_decide_eq_true (by first | (with_reducible assumption) | assumption)
                  obtain ⟨ad223, A223_0, c223_0, e223, hx223_0, hl223_0, hi223_0⟩ := at_L4 HR0_4.out x67_4 p223 q223
                  cases e223
                  replace hx223_0 := (HB.out.cell (World.block_lt_of_cell? w _ hx223_0)).trans hx223_0
                  have HR223_0 := Aside0.mk hi223_0
                  have HC223_0 := Aside0.mk hl223_0
                  clear hi223_0 hl223_0
                  replace p223 := eq_true p223
                  replace q223 := eq_true q223
                  have hcz38_0 : wr.cell? ⟨gb221, 0, none⟩ = some (.int .i64 a0_0) := (blk_cell BK221.out 0).trans rfl
                  have hcz38_1 : wr.cell? ⟨gb221, 1, none⟩ = some (.int .i64 a0_1) := (blk_cell BK221.out 1).trans rfl
                  have hcz38_2 : wr.cell? ⟨gb221, 2, none⟩ = some (.int .i64 a0_2) := (blk_cell BK221.out 2).trans rfl
                  have hcz38_3 : wr.cell? ⟨gb221, 3, none⟩ = some (.int .i64 a0_3) := (blk_cell BK221.out 3).trans rfl
                  have hcz38_4 : wr.cell? ⟨gb221, 4, none⟩ = some (.slice (some ad223) l0_4.length c0_4) := (blk_cell BK221.out 4).trans rfl
                  have hcz38_5 : wr.cell? ⟨gb221, 5, none⟩ = some (.string a0_5) := (blk_cell BK221.out 5).trans rfl
                  have hfz38_0 := blk_frozen BK221.out 0
                  have hfz38_1 := blk_frozen BK221.out 1
                  have hfz38_2 := blk_frozen BK221.out 2
                  have hfz38_3 := blk_frozen BK221.out 3
                  have hfz38_4 := blk_frozen BK221.out 4
                  have hfz38_5 := blk_frozen BK221.out 5
                  go_wp2_with (first | ((with_reducible refine gate_callee (f := 48) rfl ?_); refine goesL_ (some 74) rfl rfl Try.func48 (by kernel_rfl) rfl #[.int .i64 a0_0, .slice A223_0 (rd_L4 l0_4 x67_4).length c223_0] rfl (by (try simp only [List.map_toArray, List.map_cons, List.map_nil]); first | done | rfl | (simp only [List.length_drop, List.length_take]; rfl)) ?_; (with_reducible refine (pack_part.calls k4 a0_0 _ _ (rd_L4 l0_4 x67_4) t224 _ ?side1 ?side2 A36.out).mono ?_); (case side1 => repeat (first | exact (Kd.C_below HR223_0.out HB.out) | (with_reducible refine Kd.C_alloc ?_ _) | (with_reducible refine Kd.C_drewN ?_ _) | (with_reducible refine Kd.C_drew ?_))); (case side2 => exact HC223_0.out); rintro e w39 ⟨rfl, hb⟩; refine ⟨_, rfl, ?_⟩; replace BK221 := Aside0.mk (blk_below (g := gb221) (o := .cells #[.int .i64 a0_0, .int .i64 a0_1, .int .i64 a0_2, .int .i64 a0_3, .slice (some ad223) l0_4.length c0_4, .string a0_5] 48 (0, 0)) (by (with_reducible repeat (first | refine blk_drewN ?_ _ | refine blk_drew ?_ | refine blk_alloc ?_ _)); exact BK221.out) hb); replace HB := Aside0.mk (below_step (by repeat (first | (with_reducible first | exact HB.out | apply below_alloc | apply pw_below_drewN | apply below_drew1 | refine below_set ?_ GE221.out) | exact HB.out)) hb); (try clear hb); (try clear hb2); (try clear hk); (try clear hi)))
                  go_roundg k4
                  case measure => have := HJ1.out; have := HJ7.out; have := HJ20.out; have := HK4.out; omega
                  case rel => exact ⟨(wrap64 (x67_4 + 1)), (by first | rfl | (simp; done) | (simp [*]; done)), H', ⟨by have := HJ1.out; have := HJ7.out; have := HJ20.out; have := HK4.out; omega⟩, ⟨by (with_reducible repeat (first | refine blk_drewN ?_ _ | refine blk_drew ?_ | refine blk_alloc ?_ _)); exact BK221.out⟩, ⟨by repeat (first | (with_reducible first | exact HB.out | apply below_alloc | apply pw_below_drewN | apply below_drew1 | refine below_set ?_ GE221.out) | exact HB.out)⟩⟩
end Go.Proofs.Ytjgoehhhjffpmaa.Q

