/- What the Go function terrref5_DrawFault comes to, and its contract. Condition: its printed twin gives an answer. -/
import Derived.Test.YtjgoehhhjffpmaaZtQ0
namespace Go.Proofs.Ytjgoehhhjffpmaa.Q
open Go.RowKit Go.Proofs.YtjgoehhhjffpmaaW.PrintWords Go.Proofs.YtjgoehhhjffpmaaW.PrintLast Go.Proofs.YtjgoehhhjffpmaaW.PrintMore
attribute [local go_sem] max2_int min2_int max_two min_two max_three min_three max_four min_four
set_option linter.unusedVariables false
set_option linter.unusedSimpArgs false
/-- A block that holds a string's bytes. -/
def CB (w : World) (g : Nat) (s : ByteArray) : Prop := g < w.heap.size ∧ ∀ j : Nat, j < s.size → w.cell? ⟨g, j, none⟩ = some (.int .u8 (bt s (j : Int)))
theorem CB_at {w : World} {g : Nat} {s : ByteArray} (h : CB w g s) (i : Int) (h0 : 0 ≤ i) (h1 : i < (s.size : Int)) : w.cell? ⟨g, i.toNat, none⟩ = some (.int .u8 (bt s i)) := by
  have e := h.2 i.toNat (by omega)
  rw [show ((i.toNat : Nat) : Int) = i by omega] at e
  exact e
theorem CB_add {w : World} {g : Nat} {s : ByteArray} (h : CB w g s) (i : Int) (h0 : 0 ≤ i) (h1 : i < (s.size : Int)) : w.cell? ((⟨g, 0, none⟩ : Addr).add i.toNat) = some (.int .u8 (bt s i)) := by
  have e := CB_at h i h0 h1
  unfold Addr.add
  by_cases c : i.toNat = 0
  · rw [if_pos c]; rw [c] at e; exact e
  · rw [if_neg c]; simpa using e
theorem bytes_below (w : World) (e : TypeId) (s : ByteArray) : Below w.heap.size w (Lib.bytesWorld w e s) :=
  ⟨rfl, rfl, rfl, by rw [Lib.bytesWorld_size]; omega, fun k hk => Lib.bytesWorld_at_old w e s k hk⟩
/-- '[]byte(s)'. -/
theorem conv_str {ops : Array Oper} {rest : List Oper} {o : Oper} {a : Act} {Q : Exit → Act → World → Prop} {W : World} (hgd : o.guard = none) {N : Tmp} (_hd : o.dst = some N) (x : Operand) (ho : o.op = .convert 9 22 x) (s : ByteArray) (hx : a.eval x = .string s)
    (h : ∀ g c w1, CB w1 g s → Below W.heap.size W w1 → wpList Try.prog ops Q rest (a.put o.dst (.slice (some ⟨g, 0, none⟩) s.size c)) w1) : wpList Try.prog ops Q (o :: rest) a W := by
  have hr := Lib.run_convert_string_bytes (P := Try.prog) W 9 22 5 s Try.underlying9 Try.underlying22 Try.underlying5
  refine Kd.event_run hgd (w1 := Lib.bytesWorld W 5 s) (v := .slice (some ⟨W.heap.size, 0, none⟩) s.size (grownCap W s.size 0 5)) ?_ (h _ _ _ ⟨?_, fun j hj => ?_⟩ (bytes_below W 5 s))
  · simp [execOp, ho, hx, hr]
  · rw [Lib.bytesWorld_size]; omega
  · rw [Lib.bytesWorld_cell W 5 s j hj]
    have hj2 : j < s.data.size := hj
    have e1 : s.data.toList.getD j 0 = s.data[j] := by rw [List.getD_eq_getElem?_getD, Array.getElem?_toList, Array.getElem?_eq_getElem hj2]; rfl
    have e2 : ((s.data[j].toNat : Nat) : Int) = bt s (j : Int) := bt_at s (j : Int) hj
    rw [e1, e2]
/-! ### terrref5_DrawFault: function 27 -/
mutual
def terrref5_DrawFault.j0 : Nat → Bool → Int → Int → Int → Int → List (List (S44)) → ByteArray → Option (Int)
  | 0, _, _, _, _, _, _, _ => none
  | k + 1, x27, x329000, x329001, x329002, x329003, x329004, x329005 => if x27 = true then (some 1) else (if x329001 < 0 then (terrref5_DrawFault.j1 k true x329000 x329001 x329002 x329003 x329004 x329005) else (if x329001 > 100 then (terrref5_DrawFault.j1 k true x329000 x329001 x329002 x329003 x329004 x329005) else (if x329002 < 0 then (terrref5_DrawFault.j1 k true x329000 x329001 x329002 x329003 x329004 x329005) else (if x329002 > 255 then (terrref5_DrawFault.j1 k true x329000 x329001 x329002 x329003 x329004 x329005) else (if x329003 < 0 then (terrref5_DrawFault.j1 k true x329000 x329001 x329002 x329003 x329004 x329005) else (terrref5_DrawFault.j1 k (decide (x329003 > 64)) x329000 x329001 x329002 x329003 x329004 x329005))))))
def terrref5_DrawFault.j1 : Nat → Bool → Int → Int → Int → Int → List (List (S44)) → ByteArray → Option (Int)
  | 0, _, _, _, _, _, _, _ => none
  | k + 1, x55, x329000, x329001, x329002, x329003, x329004, x329005 => if x55 = true then (some 2) else (if x329000 = 4 then (if x329005.toList = ([] : List UInt8) then (terrref5_DrawFault.j2 k true x329000 x329001 x329002 x329003 x329004 x329005) else (terrref5_DrawFault.j2 k false x329000 x329001 x329002 x329003 x329004 x329005)) else (terrref5_DrawFault.j2 k (x329005.toList != ([] : List UInt8)) x329000 x329001 x329002 x329003 x329004 x329005))
def terrref5_DrawFault.j2 : Nat → Bool → Int → Int → Int → Int → List (List (S44)) → ByteArray → Option (Int)
  | 0, _, _, _, _, _, _, _ => none
  | k + 1, x73, x329000, x329001, x329002, x329003, x329004, x329005 => if x73 = true then (some 3) else (if (x329005.size : Int) > 40 then (some 2) else (terrref5_DrawFault.l0 k x329005 (x329005.size : Int) 0 x329000 x329001 x329002 x329003 x329004 x329005))
def terrref5_DrawFault.l0 : Nat → ByteArray → Int → Int → Int → Int → Int → Int → List (List (S44)) → ByteArray → Option (Int)
  | 0, _, _, _, _, _, _, _, _, _ => none
  | k + 1, x80, x81, x82, x329000, x329001, x329002, x329003, x329004, x329005 => if x82 < x81 then (if 0 ≤ x82 then (if x82 < (x80.size : Int) then (if (bt x80 x82) < 32 then (some 3) else (if (bt x80 x82) > 126 then (some 3) else (terrref5_DrawFault.l0 k x80 x81 (wrap64 (x82 + 1)) x329000 x329001 x329002 x329003 x329004 x329005))) else (none)) else (none)) else (if (x329004.length : Int) < 1 then (terrref5_DrawFault.j4 k true x329000 x329001 x329002 x329003 x329004 x329005) else (if (x329004.length : Int) > 20 then (terrref5_DrawFault.j4 k true x329000 x329001 x329002 x329003 x329004 x329005) else (if x329000 = 4 then (terrref5_DrawFault.j4 k (decide ((x329004.length : Int) > 1)) x329000 x329001 x329002 x329003 x329004 x329005) else (terrref5_DrawFault.j4 k false x329000 x329001 x329002 x329003 x329004 x329005))))
def terrref5_DrawFault.j4 : Nat → Bool → Int → Int → Int → Int → List (List (S44)) → ByteArray → Option (Int)
  | 0, _, _, _, _, _, _, _ => none
  | k + 1, x113, x329000, x329001, x329002, x329003, x329004, x329005 => if x113 = true then (some 3) else ((some (([0, 1, 2, 3, 1] : List Int) : List Int)).bind fun y329 => (if 0 ≤ x329000 then (if x329000 < (y329.length : Int) then (terrref5_DrawFault.l1 k (rd y329 x329000) x329004 (x329004.length : Int) 0 x329000 x329001 x329002 x329003 x329004 x329005) else (none)) else (none)))
def terrref5_DrawFault.l1 : Nat → Int → List (List (S44)) → Int → Int → Int → Int → Int → Int → List (List (S44)) → ByteArray → Option (Int)
  | 0, _, _, _, _, _, _, _, _, _, _ => none
  | k + 1, x5, x120, x121, x122, x329000, x329001, x329002, x329003, x329004, x329005 => if x122 < x121 then (if 0 ≤ x122 then (if x122 < (x120.length : Int) then (if ((rd_L4 x120 x122).length : Int) > 400 then (some 2) else (if ((rd_L4 x120 x122).length : Int) < x5 then (terrref5_DrawFault.j6 k x5 (rd_L4 x120 x122) x120 x121 x122 true x329000 x329001 x329002 x329003 x329004 x329005) else (if ((rd_L4 x120 x122).length : Int) > 1 then (terrref5_DrawFault.j6 k x5 (rd_L4 x120 x122) x120 x121 x122 ((Int.tmod x329000 3) == 1) x329000 x329001 x329002 x329003 x329004 x329005) else (terrref5_DrawFault.j6 k x5 (rd_L4 x120 x122) x120 x121 x122 false x329000 x329001 x329002 x329003 x329004 x329005)))) else (none)) else (none)) else (some 0)
def terrref5_DrawFault.j6 : Nat → Int → List (S44) → List (List (S44)) → Int → Int → Bool → Int → Int → Int → Int → List (List (S44)) → ByteArray → Option (Int)
  | 0, _, _, _, _, _, _, _, _, _, _, _, _ => none
  | k + 1, x5, x7, x120, x121, x122, x143, x329000, x329001, x329002, x329003, x329004, x329005 => if x143 = true then (some 3) else (terrref5_DrawFault.l2 k x5 x120 x121 x122 x7 (x7.length : Int) 0 x329000 x329001 x329002 x329003 x329004 x329005)
def terrref5_DrawFault.l2 : Nat → Int → List (List (S44)) → Int → Int → List (S44) → Int → Int → Int → Int → Int → Int → List (List (S44)) → ByteArray → Option (Int)
  | 0, _, _, _, _, _, _, _, _, _, _, _, _, _ => none
  | k + 1, x5, x120, x121, x122, x144, x145, x146, x329000, x329001, x329002, x329003, x329004, x329005 => if x146 < x145 then (if 0 ≤ x146 then (if x146 < (x144.length : Int) then (if ((rd_T44 x144 x146).f0) < (-4096) then (some 1) else (if ((rd_T44 x144 x146).f0) > 4096 then (some 1) else (if ((rd_T44 x144 x146).f1) < (-4096) then (some 1) else (if ((rd_T44 x144 x146).f1) > 4096 then (some 1) else (terrref5_DrawFault.l2 k x5 x120 x121 x122 x144 x145 (wrap64 (x146 + 1)) x329000 x329001 x329002 x329003 x329004 x329005))))) else (none)) else (none)) else (terrref5_DrawFault.l1 k x5 x120 x121 (wrap64 (x122 + 1)) x329000 x329001 x329002 x329003 x329004 x329005)
end
def terrref5_DrawFault.f (k : Nat) (a0_0 : Int) (a0_1 : Int) (a0_2 : Int) (a0_3 : Int) (l0_4 : List (List (S44))) (a0_5 : ByteArray) : Option (Int) := if a0_0 = 1 then (terrref5_DrawFault.j0 k false a0_0 a0_1 a0_2 a0_3 l0_4 a0_5) else (if a0_0 = 2 then (terrref5_DrawFault.j0 k false a0_0 a0_1 a0_2 a0_3 l0_4 a0_5) else (if a0_0 = 3 then (terrref5_DrawFault.j0 k false a0_0 a0_1 a0_2 a0_3 l0_4 a0_5) else (terrref5_DrawFault.j0 k (a0_0 != 4) a0_0 a0_1 a0_2 a0_3 l0_4 a0_5)))
set_option maxHeartbeats 8000000 in
set_option maxRecDepth 100000 in
theorem terrref5_DrawFault.calls (k : Nat) (a0_0 : Int) (a0_1 : Int) (a0_2 : Int) (a0_3 : Int) (A0_4 : Option Addr) (c0_4 : Nat) (l0_4 : List (List (S44))) (a0_5 : ByteArray) (r : Int) (w : World) (hr0_4 : Kd.C (Kd.slice 44 k44) w A0_4 l0_4.length l0_4) (hc0_4 : l0_4.length ≤ c0_4) (h : terrref5_DrawFault.f k a0_0 a0_1 a0_2 a0_3 l0_4 a0_5 = some r) :
    Calls Try.prog 27 #[.agg #[.int .i64 a0_0, .int .i64 a0_1, .int .i64 a0_2, .int .i64 a0_3, .slice A0_4 l0_4.length c0_4, .string a0_5]] w fun e w' => e = .returned (.int .i64 r) ∧ Below w.heap.size w w' := by
  have hu48 := Try.underlying48
  have hu44 := Try.underlying44
  have HR0_4 := Aside0.mk hr0_4
  have HC0_4 := Aside0.mk hc0_4
  clear hr0_4 hc0_4
  have HB := Aside0.mk (Below.refl w.heap.size w)
  have H : (if a0_0 = 1 then (terrref5_DrawFault.j0 k false a0_0 a0_1 a0_2 a0_3 l0_4 a0_5) else (if a0_0 = 2 then (terrref5_DrawFault.j0 k false a0_0 a0_1 a0_2 a0_3 l0_4 a0_5) else (if a0_0 = 3 then (terrref5_DrawFault.j0 k false a0_0 a0_1 a0_2 a0_3 l0_4 a0_5) else (terrref5_DrawFault.j0 k (a0_0 != 4) a0_0 a0_1 a0_2 a0_3 l0_4 a0_5)))) = some r := h
  clear h
  have HC2 := Aside0.mk H
  clear H
  go_enter Try.func27, Try.ntmps27
  go_upto_region 1 with (first | ((with_reducible refine gate_dst (N := 1) rfl ?_); (try (refine gate_guard (by rfl) ?_; dsimp only)); refine box_event ?hg (N := 1) ?hd (cs := #[.int .i64 a0_0, .int .i64 a0_1, .int .i64 a0_2, .int .i64 a0_3, .slice A0_4 l0_4.length c0_4, .string a0_5]) (t := 48) ?hr ?_; (case hd => rfl); (case hg => rfl); (case hr => first | (go_simp; done) | (go_simp; rfl)); intro gb328 hg w3 hbox hb; have BK328 := Aside0.mk (hbox); have GW328 := Aside0.mk ((by rw [hg]; exact (below_size (by repeat (first | (with_reducible first | exact HB.out | apply below_alloc | apply pw_below_drewN | apply below_drew1) | exact HB.out))) : w.heap.size ≤ gb328)); have GE328 := Aside0.mk ((by rw [hg]; exact (below_size (by repeat (first | (with_reducible first | exact HB.out | apply below_alloc | apply pw_below_drewN | apply below_drew1) | exact HB.out))) : w.heap.size ≤ gb328)); replace HB := Aside0.mk (below_step (by repeat (first | (with_reducible first | exact HB.out | apply below_alloc | apply pw_below_drewN | apply below_drew1) | exact HB.out)) hb); clear hb hbox hg))
  (try simp only [Act.put, List.setIfInBounds_toArray, List.set_cons_zero, List.set_cons_succ])
  go_cut [27] (fun v27 wc => ∃ (kq : Nat) (x27_1 : Bool), v27 = .bool x27_1 ∧ Aside0 (terrref5_DrawFault.j0 kq x27_1 a0_0 a0_1 a0_2 a0_3 l0_4 a0_5 = some r) ∧ Aside0 (kq ≤ k) ∧ Aside0 (wc.heap[gb328]? = some (.cells #[.int .i64 a0_0, .int .i64 a0_1, .int .i64 a0_2, .int .i64 a0_3, (.slice A0_4 l0_4.length c0_4), .string a0_5] 48 (0, 0))) ∧ Aside0 (Below w.heap.size w wc))
  case first =>
    have H := HC2.out
    clear HC2
    by_cases c4 : a0_0 = 1
    · rw [if_pos c4] at H
      have c4b0 : (a0_0 == 1) = true := beq_iff_eq.mpr c4
      have c4b1 : (a0_0 != 1) = false := bne_eq_false_iff_eq.mpr c4
      clear c4
      (first | rw [c4b0] | (simp only [i64_w, i32_w]; rw [c4b0]) | skip)
      have H' := Aside0.mk H
      clear H
      have hcz5_0 : w3.cell? ⟨gb328, 0, none⟩ = some (.int .i64 a0_0) := (blk_cell BK328.out 0).trans rfl
      have hcz5_1 : w3.cell? ⟨gb328, 1, none⟩ = some (.int .i64 a0_1) := (blk_cell BK328.out 1).trans rfl
      have hcz5_2 : w3.cell? ⟨gb328, 2, none⟩ = some (.int .i64 a0_2) := (blk_cell BK328.out 2).trans rfl
      have hcz5_3 : w3.cell? ⟨gb328, 3, none⟩ = some (.int .i64 a0_3) := (blk_cell BK328.out 3).trans rfl
      have hcz5_4 : w3.cell? ⟨gb328, 4, none⟩ = some (.slice A0_4 l0_4.length c0_4) := (blk_cell BK328.out 4).trans rfl
      have hcz5_5 : w3.cell? ⟨gb328, 5, none⟩ = some (.string a0_5) := (blk_cell BK328.out 5).trans rfl
      have hfz5_0 := blk_frozen BK328.out 0
      have hfz5_1 := blk_frozen BK328.out 1
      have hfz5_2 := blk_frozen BK328.out 2
      have hfz5_3 := blk_frozen BK328.out 3
      have hfz5_4 := blk_frozen BK328.out 4
      have hfz5_5 := blk_frozen BK328.out 5
      go_wp2
      go_meet
      case rel => exact ⟨_, (false), (by first | rfl | (simp; done) | (simp [*]; done)), H', ⟨by first | omega | exact Nat.le_refl _⟩, ⟨by (with_reducible repeat (first | refine blk_drewN ?_ _ | refine blk_drew ?_ | refine blk_alloc ?_ _)); exact BK328.out⟩, ⟨by repeat (first | (with_reducible first | exact HB.out | apply below_alloc | apply pw_below_drewN | apply below_drew1 | refine below_set ?_ GE328.out) | exact HB.out)⟩⟩
    rw [if_neg c4] at H
    have c4b0 : (a0_0 == 1) = false := beq_eq_false_iff_ne.mpr c4
    have c4b1 : (a0_0 != 1) = true := bne_iff_ne.mpr c4
    (first | rw [c4b0] | (simp only [i64_w, i32_w]; rw [c4b0]) | skip)
    by_cases c6 : a0_0 = 2
    · rw [if_pos c6] at H
      have c6b0 : (a0_0 == 2) = true := beq_iff_eq.mpr c6
      have c6b1 : (a0_0 != 2) = false := bne_eq_false_iff_eq.mpr c6
      clear c6
      have H' := Aside0.mk H
      clear H
      have hcz7_0 : w3.cell? ⟨gb328, 0, none⟩ = some (.int .i64 a0_0) := (blk_cell BK328.out 0).trans rfl
      have hcz7_1 : w3.cell? ⟨gb328, 1, none⟩ = some (.int .i64 a0_1) := (blk_cell BK328.out 1).trans rfl
      have hcz7_2 : w3.cell? ⟨gb328, 2, none⟩ = some (.int .i64 a0_2) := (blk_cell BK328.out 2).trans rfl
      have hcz7_3 : w3.cell? ⟨gb328, 3, none⟩ = some (.int .i64 a0_3) := (blk_cell BK328.out 3).trans rfl
      have hcz7_4 : w3.cell? ⟨gb328, 4, none⟩ = some (.slice A0_4 l0_4.length c0_4) := (blk_cell BK328.out 4).trans rfl
      have hcz7_5 : w3.cell? ⟨gb328, 5, none⟩ = some (.string a0_5) := (blk_cell BK328.out 5).trans rfl
      have hfz7_0 := blk_frozen BK328.out 0
      have hfz7_1 := blk_frozen BK328.out 1
      have hfz7_2 := blk_frozen BK328.out 2
      have hfz7_3 := blk_frozen BK328.out 3
      have hfz7_4 := blk_frozen BK328.out 4
      have hfz7_5 := blk_frozen BK328.out 5
      go_wp2
      go_meet
      case rel => exact ⟨_, (false), (by first | rfl | (simp; done) | (simp [*]; done)), H', ⟨by first | omega | exact Nat.le_refl _⟩, ⟨by (with_reducible repeat (first | refine blk_drewN ?_ _ | refine blk_drew ?_ | refine blk_alloc ?_ _)); exact BK328.out⟩, ⟨by repeat (first | (with_reducible first | exact HB.out | apply below_alloc | apply pw_below_drewN | apply below_drew1 | refine below_set ?_ GE328.out) | exact HB.out)⟩⟩
    rw [if_neg c6] at H
    have c6b0 : (a0_0 == 2) = false := beq_eq_false_iff_ne.mpr c6
    have c6b1 : (a0_0 != 2) = true := bne_iff_ne.mpr c6
    by_cases c8 : a0_0 = 3
    · rw [if_pos c8] at H
      have c8b0 : (a0_0 == 3) = true := beq_iff_eq.mpr c8
      have c8b1 : (a0_0 != 3) = false := bne_eq_false_iff_eq.mpr c8
      clear c8
      have H' := Aside0.mk H
      clear H
      have hcz9_0 : w3.cell? ⟨gb328, 0, none⟩ = some (.int .i64 a0_0) := (blk_cell BK328.out 0).trans rfl
      have hcz9_1 : w3.cell? ⟨gb328, 1, none⟩ = some (.int .i64 a0_1) := (blk_cell BK328.out 1).trans rfl
      have hcz9_2 : w3.cell? ⟨gb328, 2, none⟩ = some (.int .i64 a0_2) := (blk_cell BK328.out 2).trans rfl
      have hcz9_3 : w3.cell? ⟨gb328, 3, none⟩ = some (.int .i64 a0_3) := (blk_cell BK328.out 3).trans rfl
      have hcz9_4 : w3.cell? ⟨gb328, 4, none⟩ = some (.slice A0_4 l0_4.length c0_4) := (blk_cell BK328.out 4).trans rfl
      have hcz9_5 : w3.cell? ⟨gb328, 5, none⟩ = some (.string a0_5) := (blk_cell BK328.out 5).trans rfl
      have hfz9_0 := blk_frozen BK328.out 0
      have hfz9_1 := blk_frozen BK328.out 1
      have hfz9_2 := blk_frozen BK328.out 2
      have hfz9_3 := blk_frozen BK328.out 3
      have hfz9_4 := blk_frozen BK328.out 4
      have hfz9_5 := blk_frozen BK328.out 5
      go_wp2
      go_meet
      case rel => exact ⟨_, (false), (by first | rfl | (simp; done) | (simp [*]; done)), H', ⟨by first | omega | exact Nat.le_refl _⟩, ⟨by (with_reducible repeat (first | refine blk_drewN ?_ _ | refine blk_drew ?_ | refine blk_alloc ?_ _)); exact BK328.out⟩, ⟨by repeat (first | (with_reducible first | exact HB.out | apply below_alloc | apply pw_below_drewN | apply below_drew1 | refine below_set ?_ GE328.out) | exact HB.out)⟩⟩
    rw [if_neg c8] at H
    have c8b0 : (a0_0 == 3) = false := beq_eq_false_iff_ne.mpr c8
    have c8b1 : (a0_0 != 3) = true := bne_iff_ne.mpr c8
    have H' := Aside0.mk H
    clear H
    have hcz10_0 : w3.cell? ⟨gb328, 0, none⟩ = some (.int .i64 a0_0) := (blk_cell BK328.out 0).trans rfl
    have hcz10_1 : w3.cell? ⟨gb328, 1, none⟩ = some (.int .i64 a0_1) := (blk_cell BK328.out 1).trans rfl
    have hcz10_2 : w3.cell? ⟨gb328, 2, none⟩ = some (.int .i64 a0_2) := (blk_cell BK328.out 2).trans rfl
    have hcz10_3 : w3.cell? ⟨gb328, 3, none⟩ = some (.int .i64 a0_3) := (blk_cell BK328.out 3).trans rfl
    have hcz10_4 : w3.cell? ⟨gb328, 4, none⟩ = some (.slice A0_4 l0_4.length c0_4) := (blk_cell BK328.out 4).trans rfl
    have hcz10_5 : w3.cell? ⟨gb328, 5, none⟩ = some (.string a0_5) := (blk_cell BK328.out 5).trans rfl
    have hfz10_0 := blk_frozen BK328.out 0
    have hfz10_1 := blk_frozen BK328.out 1
    have hfz10_2 := blk_frozen BK328.out 2
    have hfz10_3 := blk_frozen BK328.out 3
    have hfz10_4 := blk_frozen BK328.out 4
    have hfz10_5 := blk_frozen BK328.out 5
    go_wp2
    go_meet
    case rel => exact ⟨_, ((a0_0 != 4)), (by first | rfl | (simp; done) | (simp [*]; done)), H', ⟨by first | omega | exact Nat.le_refl _⟩, ⟨by (with_reducible repeat (first | refine blk_drewN ?_ _ | refine blk_drew ?_ | refine blk_alloc ?_ _)); exact BK328.out⟩, ⟨by repeat (first | (with_reducible first | exact HB.out | apply below_alloc | apply pw_below_drewN | apply below_drew1 | refine below_set ?_ GE328.out) | exact HB.out)⟩⟩
  case rest =>
    clear HC2
    obtain ⟨kq, x27_1, rfl, HA, HJ1, BK328, HB⟩ := hcut
    cases kq with
    | zero => exact absurd HA.out (by simp [terrref5_DrawFault.j0])
    | succ kj1 =>
      have H := HA.out
      clear HA
      simp only [terrref5_DrawFault.j0] at H
      by_cases c11 : x27_1 = true
      · subst c11
        have H1 : (some 1) = some r := by rw [if_pos rfl] at H; exact H
        clear H
        have H := H1
        clear H1
        obtain rfl := Option.some.inj H
        go_wp2
        go_ret
        exact ⟨by first | rfl | (simp [errW_none, errW_some] <;> rfl) | (simp [*, errW_none, errW_some] <;> rfl), by repeat (first | (with_reducible first | exact HB.out | apply below_alloc | apply pw_below_drewN | apply below_drew1 | refine below_set ?_ GE328.out) | exact HB.out)⟩
      replace c11 := Bool.eq_false_iff.mpr c11
      subst c11
      have H1 : (if a0_1 < 0 then (terrref5_DrawFault.j1 kj1 true a0_0 a0_1 a0_2 a0_3 l0_4 a0_5) else (if a0_1 > 100 then (terrref5_DrawFault.j1 kj1 true a0_0 a0_1 a0_2 a0_3 l0_4 a0_5) else (if a0_2 < 0 then (terrref5_DrawFault.j1 kj1 true a0_0 a0_1 a0_2 a0_3 l0_4 a0_5) else (if a0_2 > 255 then (terrref5_DrawFault.j1 kj1 true a0_0 a0_1 a0_2 a0_3 l0_4 a0_5) else (if a0_3 < 0 then (terrref5_DrawFault.j1 kj1 true a0_0 a0_1 a0_2 a0_3 l0_4 a0_5) else (terrref5_DrawFault.j1 kj1 (decide (a0_3 > 64)) a0_0 a0_1 a0_2 a0_3 l0_4 a0_5)))))) = some r := by rw [if_neg (show ¬ (false = true) by decide)] at H; exact H
      clear H
      have H := H1
      clear H1
      have HC12 := Aside0.mk H
      clear H
      go_upto_region 3 with (fail)
      go_cut [55] (fun v55 wc => ∃ (kq : Nat) (x55_11 : Bool), v55 = .bool x55_11 ∧ Aside0 (terrref5_DrawFault.j1 kq x55_11 a0_0 a0_1 a0_2 a0_3 l0_4 a0_5 = some r) ∧ Aside0 (kq ≤ kj1) ∧ Aside0 (wc.heap[gb328]? = some (.cells #[.int .i64 a0_0, .int .i64 a0_1, .int .i64 a0_2, .int .i64 a0_3, (.slice A0_4 l0_4.length c0_4), .string a0_5] 48 (0, 0))) ∧ Aside0 (Below w.heap.size w wc))
      case first =>
        have H := HC12.out
        clear HC12
        by_cases c13 : a0_1 < 0
        · rw [if_pos c13] at H
          have c13b0 : decide (a0_1 < 0) = true := decide_eq_true c13
          clear c13
          (first | rw [c13b0] | (simp only [i64_w, i32_w]; rw [c13b0]) | skip)
          have H' := Aside0.mk H
          clear H
          have hcz14_0 : wc.cell? ⟨gb328, 0, none⟩ = some (.int .i64 a0_0) := (blk_cell BK328.out 0).trans rfl
          have hcz14_1 : wc.cell? ⟨gb328, 1, none⟩ = some (.int .i64 a0_1) := (blk_cell BK328.out 1).trans rfl
          have hcz14_2 : wc.cell? ⟨gb328, 2, none⟩ = some (.int .i64 a0_2) := (blk_cell BK328.out 2).trans rfl
          have hcz14_3 : wc.cell? ⟨gb328, 3, none⟩ = some (.int .i64 a0_3) := (blk_cell BK328.out 3).trans rfl
          have hcz14_4 : wc.cell? ⟨gb328, 4, none⟩ = some (.slice A0_4 l0_4.length c0_4) := (blk_cell BK328.out 4).trans rfl
          have hcz14_5 : wc.cell? ⟨gb328, 5, none⟩ = some (.string a0_5) := (blk_cell BK328.out 5).trans rfl
          have hfz14_0 := blk_frozen BK328.out 0
          have hfz14_1 := blk_frozen BK328.out 1
          have hfz14_2 := blk_frozen BK328.out 2
          have hfz14_3 := blk_frozen BK328.out 3
          have hfz14_4 := blk_frozen BK328.out 4
          have hfz14_5 := blk_frozen BK328.out 5
          go_wp2
          go_meet
          case rel => exact ⟨_, (true), (by first | rfl | (simp; done) | (simp [*]; done)), H', ⟨by have := HJ1.out; first | omega | exact Nat.le_refl _⟩, ⟨by (with_reducible repeat (first | refine blk_drewN ?_ _ | refine blk_drew ?_ | refine blk_alloc ?_ _)); exact BK328.out⟩, ⟨by repeat (first | (with_reducible first | exact HB.out | apply below_alloc | apply pw_below_drewN | apply below_drew1 | refine below_set ?_ GE328.out) | exact HB.out)⟩⟩
        rw [if_neg c13] at H
        have c13b0 : decide (a0_1 < 0) = false := decide_eq_false c13
        clear c13
        (first | rw [c13b0] | (simp only [i64_w, i32_w]; rw [c13b0]) | skip)
        by_cases c15 : a0_1 > 100
        · rw [if_pos c15] at H
          have c15b0 : decide (100 < a0_1) = true := decide_eq_true c15
          clear c15
          have H' := Aside0.mk H
          clear H
          have hcz16_0 : wc.cell? ⟨gb328, 0, none⟩ = some (.int .i64 a0_0) := (blk_cell BK328.out 0).trans rfl
          have hcz16_1 : wc.cell? ⟨gb328, 1, none⟩ = some (.int .i64 a0_1) := (blk_cell BK328.out 1).trans rfl
          have hcz16_2 : wc.cell? ⟨gb328, 2, none⟩ = some (.int .i64 a0_2) := (blk_cell BK328.out 2).trans rfl
          have hcz16_3 : wc.cell? ⟨gb328, 3, none⟩ = some (.int .i64 a0_3) := (blk_cell BK328.out 3).trans rfl
          have hcz16_4 : wc.cell? ⟨gb328, 4, none⟩ = some (.slice A0_4 l0_4.length c0_4) := (blk_cell BK328.out 4).trans rfl
          have hcz16_5 : wc.cell? ⟨gb328, 5, none⟩ = some (.string a0_5) := (blk_cell BK328.out 5).trans rfl
          have hfz16_0 := blk_frozen BK328.out 0
          have hfz16_1 := blk_frozen BK328.out 1
          have hfz16_2 := blk_frozen BK328.out 2
          have hfz16_3 := blk_frozen BK328.out 3
          have hfz16_4 := blk_frozen BK328.out 4
          have hfz16_5 := blk_frozen BK328.out 5
          go_wp2
          go_meet
          case rel => exact ⟨_, (true), (by first | rfl | (simp; done) | (simp [*]; done)), H', ⟨by have := HJ1.out; first | omega | exact Nat.le_refl _⟩, ⟨by (with_reducible repeat (first | refine blk_drewN ?_ _ | refine blk_drew ?_ | refine blk_alloc ?_ _)); exact BK328.out⟩, ⟨by repeat (first | (with_reducible first | exact HB.out | apply below_alloc | apply pw_below_drewN | apply below_drew1 | refine below_set ?_ GE328.out) | exact HB.out)⟩⟩
        rw [if_neg c15] at H
        have c15b0 : decide (100 < a0_1) = false := decide_eq_false c15
        clear c15
        by_cases c17 : a0_2 < 0
        · rw [if_pos c17] at H
          have c17b0 : decide (a0_2 < 0) = true := decide_eq_true c17
          clear c17
          have H' := Aside0.mk H
          clear H
          have hcz18_0 : wc.cell? ⟨gb328, 0, none⟩ = some (.int .i64 a0_0) := (blk_cell BK328.out 0).trans rfl
          have hcz18_1 : wc.cell? ⟨gb328, 1, none⟩ = some (.int .i64 a0_1) := (blk_cell BK328.out 1).trans rfl
          have hcz18_2 : wc.cell? ⟨gb328, 2, none⟩ = some (.int .i64 a0_2) := (blk_cell BK328.out 2).trans rfl
          have hcz18_3 : wc.cell? ⟨gb328, 3, none⟩ = some (.int .i64 a0_3) := (blk_cell BK328.out 3).trans rfl
          have hcz18_4 : wc.cell? ⟨gb328, 4, none⟩ = some (.slice A0_4 l0_4.length c0_4) := (blk_cell BK328.out 4).trans rfl
          have hcz18_5 : wc.cell? ⟨gb328, 5, none⟩ = some (.string a0_5) := (blk_cell BK328.out 5).trans rfl
          have hfz18_0 := blk_frozen BK328.out 0
          have hfz18_1 := blk_frozen BK328.out 1
          have hfz18_2 := blk_frozen BK328.out 2
          have hfz18_3 := blk_frozen BK328.out 3
          have hfz18_4 := blk_frozen BK328.out 4
          have hfz18_5 := blk_frozen BK328.out 5
          go_wp2
          go_meet
          case rel => exact ⟨_, (true), (by first | rfl | (simp; done) | (simp [*]; done)), H', ⟨by have := HJ1.out; first | omega | exact Nat.le_refl _⟩, ⟨by (with_reducible repeat (first | refine blk_drewN ?_ _ | refine blk_drew ?_ | refine blk_alloc ?_ _)); exact BK328.out⟩, ⟨by repeat (first | (with_reducible first | exact HB.out | apply below_alloc | apply pw_below_drewN | apply below_drew1 | refine below_set ?_ GE328.out) | exact HB.out)⟩⟩
        rw [if_neg c17] at H
        have c17b0 : decide (a0_2 < 0) = false := decide_eq_false c17
        clear c17
        by_cases c19 : a0_2 > 255
        · rw [if_pos c19] at H
          have c19b0 : decide (255 < a0_2) = true := decide_eq_true c19
          clear c19
          have H' := Aside0.mk H
          clear H
          have hcz20_0 : wc.cell? ⟨gb328, 0, none⟩ = some (.int .i64 a0_0) := (blk_cell BK328.out 0).trans rfl
          have hcz20_1 : wc.cell? ⟨gb328, 1, none⟩ = some (.int .i64 a0_1) := (blk_cell BK328.out 1).trans rfl
          have hcz20_2 : wc.cell? ⟨gb328, 2, none⟩ = some (.int .i64 a0_2) := (blk_cell BK328.out 2).trans rfl
          have hcz20_3 : wc.cell? ⟨gb328, 3, none⟩ = some (.int .i64 a0_3) := (blk_cell BK328.out 3).trans rfl
          have hcz20_4 : wc.cell? ⟨gb328, 4, none⟩ = some (.slice A0_4 l0_4.length c0_4) := (blk_cell BK328.out 4).trans rfl
          have hcz20_5 : wc.cell? ⟨gb328, 5, none⟩ = some (.string a0_5) := (blk_cell BK328.out 5).trans rfl
          have hfz20_0 := blk_frozen BK328.out 0
          have hfz20_1 := blk_frozen BK328.out 1
          have hfz20_2 := blk_frozen BK328.out 2
          have hfz20_3 := blk_frozen BK328.out 3
          have hfz20_4 := blk_frozen BK328.out 4
          have hfz20_5 := blk_frozen BK328.out 5
          go_wp2
          go_meet
          case rel => exact ⟨_, (true), (by first | rfl | (simp; done) | (simp [*]; done)), H', ⟨by have := HJ1.out; first | omega | exact Nat.le_refl _⟩, ⟨by (with_reducible repeat (first | refine blk_drewN ?_ _ | refine blk_drew ?_ | refine blk_alloc ?_ _)); exact BK328.out⟩, ⟨by repeat (first | (with_reducible first | exact HB.out | apply below_alloc | apply pw_below_drewN | apply below_drew1 | refine below_set ?_ GE328.out) | exact HB.out)⟩⟩
        rw [if_neg c19] at H
        have c19b0 : decide (255 < a0_2) = false := decide_eq_false c19
        clear c19
        by_cases c21 : a0_3 < 0
        · rw [if_pos c21] at H
          have c21b0 : decide (a0_3 < 0) = true := decide_eq_true c21
          clear c21
          have H' := Aside0.mk H
          clear H
          have hcz22_0 : wc.cell? ⟨gb328, 0, none⟩ = some (.int .i64 a0_0) := (blk_cell BK328.out 0).trans rfl
          have hcz22_1 : wc.cell? ⟨gb328, 1, none⟩ = some (.int .i64 a0_1) := (blk_cell BK328.out 1).trans rfl
          have hcz22_2 : wc.cell? ⟨gb328, 2, none⟩ = some (.int .i64 a0_2) := (blk_cell BK328.out 2).trans rfl
          have hcz22_3 : wc.cell? ⟨gb328, 3, none⟩ = some (.int .i64 a0_3) := (blk_cell BK328.out 3).trans rfl
          have hcz22_4 : wc.cell? ⟨gb328, 4, none⟩ = some (.slice A0_4 l0_4.length c0_4) := (blk_cell BK328.out 4).trans rfl
          have hcz22_5 : wc.cell? ⟨gb328, 5, none⟩ = some (.string a0_5) := (blk_cell BK328.out 5).trans rfl
          have hfz22_0 := blk_frozen BK328.out 0
          have hfz22_1 := blk_frozen BK328.out 1
          have hfz22_2 := blk_frozen BK328.out 2
          have hfz22_3 := blk_frozen BK328.out 3
          have hfz22_4 := blk_frozen BK328.out 4
          have hfz22_5 := blk_frozen BK328.out 5
          go_wp2
          go_meet
          case rel => exact ⟨_, (true), (by first | rfl | (simp; done) | (simp [*]; done)), H', ⟨by have := HJ1.out; first | omega | exact Nat.le_refl _⟩, ⟨by (with_reducible repeat (first | refine blk_drewN ?_ _ | refine blk_drew ?_ | refine blk_alloc ?_ _)); exact BK328.out⟩, ⟨by repeat (first | (with_reducible first | exact HB.out | apply below_alloc | apply pw_below_drewN | apply below_drew1 | refine below_set ?_ GE328.out) | exact HB.out)⟩⟩
        rw [if_neg c21] at H
        have c21b0 : decide (a0_3 < 0) = false := decide_eq_false c21
        clear c21
        have H' := Aside0.mk H
        clear H
        have hcz23_0 : wc.cell? ⟨gb328, 0, none⟩ = some (.int .i64 a0_0) := (blk_cell BK328.out 0).trans rfl
        have hcz23_1 : wc.cell? ⟨gb328, 1, none⟩ = some (.int .i64 a0_1) := (blk_cell BK328.out 1).trans rfl
        have hcz23_2 : wc.cell? ⟨gb328, 2, none⟩ = some (.int .i64 a0_2) := (blk_cell BK328.out 2).trans rfl
        have hcz23_3 : wc.cell? ⟨gb328, 3, none⟩ = some (.int .i64 a0_3) := (blk_cell BK328.out 3).trans rfl
        have hcz23_4 : wc.cell? ⟨gb328, 4, none⟩ = some (.slice A0_4 l0_4.length c0_4) := (blk_cell BK328.out 4).trans rfl
        have hcz23_5 : wc.cell? ⟨gb328, 5, none⟩ = some (.string a0_5) := (blk_cell BK328.out 5).trans rfl
        have hfz23_0 := blk_frozen BK328.out 0
        have hfz23_1 := blk_frozen BK328.out 1
        have hfz23_2 := blk_frozen BK328.out 2
        have hfz23_3 := blk_frozen BK328.out 3
        have hfz23_4 := blk_frozen BK328.out 4
        have hfz23_5 := blk_frozen BK328.out 5
        go_wp2
        go_meet
        case rel => exact ⟨_, (decide (a0_3 > 64)), (by first | rfl | (simp; done) | (simp [*]; done)), H', ⟨by have := HJ1.out; first | omega | exact Nat.le_refl _⟩, ⟨by (with_reducible repeat (first | refine blk_drewN ?_ _ | refine blk_drew ?_ | refine blk_alloc ?_ _)); exact BK328.out⟩, ⟨by repeat (first | (with_reducible first | exact HB.out | apply below_alloc | apply pw_below_drewN | apply below_drew1 | refine below_set ?_ GE328.out) | exact HB.out)⟩⟩
      case rest =>
        clear HC12
        try clear c11
        obtain ⟨kq, x55_11, rfl, HA, HJ11, BK328, HB⟩ := hcut
        cases kq with
        | zero => exact absurd HA.out (by simp [terrref5_DrawFault.j1])
        | succ kj11 =>
          have H := HA.out
          clear HA
          simp only [terrref5_DrawFault.j1] at H
          by_cases c24 : x55_11 = true
          · subst c24
            have H1 : (some 2) = some r := by rw [if_pos rfl] at H; exact H
            clear H
            have H := H1
            clear H1
            obtain rfl := Option.some.inj H
            go_wp2
            go_ret
            exact ⟨by first | rfl | (simp [errW_none, errW_some] <;> rfl) | (simp [*, errW_none, errW_some] <;> rfl), by repeat (first | (with_reducible first | exact HB.out | apply below_alloc | apply pw_below_drewN | apply below_drew1 | refine below_set ?_ GE328.out) | exact HB.out)⟩
          replace c24 := Bool.eq_false_iff.mpr c24
          subst c24
          have H1 : (if a0_0 = 4 then (if a0_5.toList = ([] : List UInt8) then (terrref5_DrawFault.j2 kj11 true a0_0 a0_1 a0_2 a0_3 l0_4 a0_5) else (terrref5_DrawFault.j2 kj11 false a0_0 a0_1 a0_2 a0_3 l0_4 a0_5)) else (terrref5_DrawFault.j2 kj11 (a0_5.toList != ([] : List UInt8)) a0_0 a0_1 a0_2 a0_3 l0_4 a0_5)) = some r := by rw [if_neg (show ¬ (false = true) by decide)] at H; exact H
          clear H
          have H := H1
          clear H1
          have HC25 := Aside0.mk H
          clear H
          go_upto_region 5 with (fail)
          go_cut [73] (fun v73 wc => ∃ (kq : Nat) (x73_24 : Bool), v73 = .bool x73_24 ∧ Aside0 (terrref5_DrawFault.j2 kq x73_24 a0_0 a0_1 a0_2 a0_3 l0_4 a0_5 = some r) ∧ Aside0 (kq ≤ kj11) ∧ Aside0 (wc.heap[gb328]? = some (.cells #[.int .i64 a0_0, .int .i64 a0_1, .int .i64 a0_2, .int .i64 a0_3, (.slice A0_4 l0_4.length c0_4), .string a0_5] 48 (0, 0))) ∧ Aside0 (Below w.heap.size w wc))
          case first =>
            have H := HC25.out
            clear HC25
            by_cases c26 : a0_0 = 4
            rotate_left
            · rw [if_neg c26] at H
              have c26b0 : (a0_0 == 4) = false := beq_eq_false_iff_ne.mpr c26
              have c26b1 : (a0_0 != 4) = true := bne_iff_ne.mpr c26
              (first | rw [c26b0] | (simp only [i64_w, i32_w]; rw [c26b0]) | skip)
              have H' := Aside0.mk H
              clear H
              have hcz30_0 : wc.cell? ⟨gb328, 0, none⟩ = some (.int .i64 a0_0) := (blk_cell BK328.out 0).trans rfl
              have hcz30_1 : wc.cell? ⟨gb328, 1, none⟩ = some (.int .i64 a0_1) := (blk_cell BK328.out 1).trans rfl
              have hcz30_2 : wc.cell? ⟨gb328, 2, none⟩ = some (.int .i64 a0_2) := (blk_cell BK328.out 2).trans rfl
              have hcz30_3 : wc.cell? ⟨gb328, 3, none⟩ = some (.int .i64 a0_3) := (blk_cell BK328.out 3).trans rfl
              have hcz30_4 : wc.cell? ⟨gb328, 4, none⟩ = some (.slice A0_4 l0_4.length c0_4) := (blk_cell BK328.out 4).trans rfl
              have hcz30_5 : wc.cell? ⟨gb328, 5, none⟩ = some (.string a0_5) := (blk_cell BK328.out 5).trans rfl
              have hfz30_0 := blk_frozen BK328.out 0
              have hfz30_1 := blk_frozen BK328.out 1
              have hfz30_2 := blk_frozen BK328.out 2
              have hfz30_3 := blk_frozen BK328.out 3
              have hfz30_4 := blk_frozen BK328.out 4
              have hfz30_5 := blk_frozen BK328.out 5
              go_wp2
              go_meet
              case rel => exact ⟨_, ((a0_5.toList != ([] : List UInt8))), (by first | rfl | (simp; done) | (simp [*]; done) | (simp; cases a0_5.toList <;> rfl)), H', ⟨by have := HJ1.out; have := HJ11.out; first | omega | exact Nat.le_refl _⟩, ⟨by (with_reducible repeat (first | refine blk_drewN ?_ _ | refine blk_drew ?_ | refine blk_alloc ?_ _)); exact BK328.out⟩, ⟨by repeat (first | (with_reducible first | exact HB.out | apply below_alloc | apply pw_below_drewN | apply below_drew1 | refine below_set ?_ GE328.out) | exact HB.out)⟩⟩
            rw [if_pos c26] at H
            have c26b0 : (a0_0 == 4) = true := beq_iff_eq.mpr c26
            have c26b1 : (a0_0 != 4) = false := bne_eq_false_iff_eq.mpr c26
            clear c26
            (first | rw [c26b0] | (simp only [i64_w, i32_w]; rw [c26b0]) | skip)
            by_cases c27 : a0_5.toList = ([] : List UInt8)
            rotate_left
            · rw [if_neg c27] at H
              have c27b0 : (a0_5.toList == ([] : List UInt8)) = false := beq_eq_false_iff_ne.mpr c27
              have c27b1 : (a0_5.toList != ([] : List UInt8)) = true := bne_iff_ne.mpr c27
              have H' := Aside0.mk H
              clear H
              have hcz29_0 : wc.cell? ⟨gb328, 0, none⟩ = some (.int .i64 a0_0) := (blk_cell BK328.out 0).trans rfl
              have hcz29_1 : wc.cell? ⟨gb328, 1, none⟩ = some (.int .i64 a0_1) := (blk_cell BK328.out 1).trans rfl
              have hcz29_2 : wc.cell? ⟨gb328, 2, none⟩ = some (.int .i64 a0_2) := (blk_cell BK328.out 2).trans rfl
              have hcz29_3 : wc.cell? ⟨gb328, 3, none⟩ = some (.int .i64 a0_3) := (blk_cell BK328.out 3).trans rfl
              have hcz29_4 : wc.cell? ⟨gb328, 4, none⟩ = some (.slice A0_4 l0_4.length c0_4) := (blk_cell BK328.out 4).trans rfl
              have hcz29_5 : wc.cell? ⟨gb328, 5, none⟩ = some (.string a0_5) := (blk_cell BK328.out 5).trans rfl
              have hfz29_0 := blk_frozen BK328.out 0
              have hfz29_1 := blk_frozen BK328.out 1
              have hfz29_2 := blk_frozen BK328.out 2
              have hfz29_3 := blk_frozen BK328.out 3
              have hfz29_4 := blk_frozen BK328.out 4
              have hfz29_5 := blk_frozen BK328.out 5
              go_wp2
              go_meet
              case rel => exact ⟨_, (false), (by first | rfl | (simp; done) | (simp [*]; done)), H', ⟨by have := HJ1.out; have := HJ11.out; first | omega | exact Nat.le_refl _⟩, ⟨by (with_reducible repeat (first | refine blk_drewN ?_ _ | refine blk_drew ?_ | refine blk_alloc ?_ _)); exact BK328.out⟩, ⟨by repeat (first | (with_reducible first | exact HB.out | apply below_alloc | apply pw_below_drewN | apply below_drew1 | refine below_set ?_ GE328.out) | exact HB.out)⟩⟩
            rw [if_pos c27] at H
            have c27b0 : (a0_5.toList == ([] : List UInt8)) = true := beq_iff_eq.mpr c27
            have c27b1 : (a0_5.toList != ([] : List UInt8)) = false := bne_eq_false_iff_eq.mpr c27
            clear c27
            have H' := Aside0.mk H
            clear H
            have hcz28_0 : wc.cell? ⟨gb328, 0, none⟩ = some (.int .i64 a0_0) := (blk_cell BK328.out 0).trans rfl
            have hcz28_1 : wc.cell? ⟨gb328, 1, none⟩ = some (.int .i64 a0_1) := (blk_cell BK328.out 1).trans rfl
            have hcz28_2 : wc.cell? ⟨gb328, 2, none⟩ = some (.int .i64 a0_2) := (blk_cell BK328.out 2).trans rfl
            have hcz28_3 : wc.cell? ⟨gb328, 3, none⟩ = some (.int .i64 a0_3) := (blk_cell BK328.out 3).trans rfl
            have hcz28_4 : wc.cell? ⟨gb328, 4, none⟩ = some (.slice A0_4 l0_4.length c0_4) := (blk_cell BK328.out 4).trans rfl
            have hcz28_5 : wc.cell? ⟨gb328, 5, none⟩ = some (.string a0_5) := (blk_cell BK328.out 5).trans rfl
            have hfz28_0 := blk_frozen BK328.out 0
            have hfz28_1 := blk_frozen BK328.out 1
            have hfz28_2 := blk_frozen BK328.out 2
            have hfz28_3 := blk_frozen BK328.out 3
            have hfz28_4 := blk_frozen BK328.out 4
            have hfz28_5 := blk_frozen BK328.out 5
            go_wp2
            go_meet
            case rel => exact ⟨_, (true), (by first | rfl | (simp; done) | (simp [*]; done)), H', ⟨by have := HJ1.out; have := HJ11.out; first | omega | exact Nat.le_refl _⟩, ⟨by (with_reducible repeat (first | refine blk_drewN ?_ _ | refine blk_drew ?_ | refine blk_alloc ?_ _)); exact BK328.out⟩, ⟨by repeat (first | (with_reducible first | exact HB.out | apply below_alloc | apply pw_below_drewN | apply below_drew1 | refine below_set ?_ GE328.out) | exact HB.out)⟩⟩
          case rest =>
            clear HC25
            try clear c24
            obtain ⟨kq, x73_24, rfl, HA, HJ24, BK328, HB⟩ := hcut
            cases kq with
            | zero => exact absurd HA.out (by simp [terrref5_DrawFault.j2])
            | succ kj24 =>
              have H := HA.out
              clear HA
              simp only [terrref5_DrawFault.j2] at H
              by_cases c31 : x73_24 = true
              · subst c31
                have H1 : (some 3) = some r := by rw [if_pos rfl] at H; exact H
                clear H
                have H := H1
                clear H1
                obtain rfl := Option.some.inj H
                go_wp2
                go_ret
                exact ⟨by first | rfl | (simp [errW_none, errW_some] <;> rfl) | (simp [*, errW_none, errW_some] <;> rfl), by repeat (first | (with_reducible first | exact HB.out | apply below_alloc | apply pw_below_drewN | apply below_drew1 | refine below_set ?_ GE328.out) | exact HB.out)⟩
              replace c31 := Bool.eq_false_iff.mpr c31
              subst c31
              have H1 : (if (a0_5.size : Int) > 40 then (some 2) else (terrref5_DrawFault.l0 kj24 a0_5 (a0_5.size : Int) 0 a0_0 a0_1 a0_2 a0_3 l0_4 a0_5)) = some r := by rw [if_neg (show ¬ (false = true) by decide)] at H; exact H
              clear H
              have H := H1
              clear H1
              by_cases c32 : (a0_5.size : Int) > 40
              · rw [if_pos c32] at H
                have c32b0 : decide (40 < (a0_5.size : Int)) = true := decide_eq_true c32
                have c32b1 : decide (40 < a0_5.size) = true := decide_eq_true (by omega)
                clear c32
                obtain rfl := Option.some.inj H
                have hcz33_0 : wc.cell? ⟨gb328, 0, none⟩ = some (.int .i64 a0_0) := (blk_cell BK328.out 0).trans rfl
                have hcz33_1 : wc.cell? ⟨gb328, 1, none⟩ = some (.int .i64 a0_1) := (blk_cell BK328.out 1).trans rfl
                have hcz33_2 : wc.cell? ⟨gb328, 2, none⟩ = some (.int .i64 a0_2) := (blk_cell BK328.out 2).trans rfl
                have hcz33_3 : wc.cell? ⟨gb328, 3, none⟩ = some (.int .i64 a0_3) := (blk_cell BK328.out 3).trans rfl
                have hcz33_4 : wc.cell? ⟨gb328, 4, none⟩ = some (.slice A0_4 l0_4.length c0_4) := (blk_cell BK328.out 4).trans rfl
                have hcz33_5 : wc.cell? ⟨gb328, 5, none⟩ = some (.string a0_5) := (blk_cell BK328.out 5).trans rfl
                have hfz33_0 := blk_frozen BK328.out 0
                have hfz33_1 := blk_frozen BK328.out 1
                have hfz33_2 := blk_frozen BK328.out 2
                have hfz33_3 := blk_frozen BK328.out 3
                have hfz33_4 := blk_frozen BK328.out 4
                have hfz33_5 := blk_frozen BK328.out 5
                go_wp2
                go_ret
                exact ⟨by first | rfl | (simp [errW_none, errW_some] <;> rfl) | (simp [*, errW_none, errW_some] <;> rfl), by repeat (first | (with_reducible first | exact HB.out | apply below_alloc | apply pw_below_drewN | apply below_drew1 | refine below_set ?_ GE328.out) | exact HB.out)⟩
              rw [if_neg c32] at H
              have c32b0 : decide (40 < (a0_5.size : Int)) = false := decide_eq_false c32
              have c32b1 : decide (40 < a0_5.size) = false := decide_eq_false (by omega)
              clear c32
              have H' := Aside0.mk H
              clear H
              have hcz34_0 : wc.cell? ⟨gb328, 0, none⟩ = some (.int .i64 a0_0) := (blk_cell BK328.out 0).trans rfl
              have hcz34_1 : wc.cell? ⟨gb328, 1, none⟩ = some (.int .i64 a0_1) := (blk_cell BK328.out 1).trans rfl
              have hcz34_2 : wc.cell? ⟨gb328, 2, none⟩ = some (.int .i64 a0_2) := (blk_cell BK328.out 2).trans rfl
              have hcz34_3 : wc.cell? ⟨gb328, 3, none⟩ = some (.int .i64 a0_3) := (blk_cell BK328.out 3).trans rfl
              have hcz34_4 : wc.cell? ⟨gb328, 4, none⟩ = some (.slice A0_4 l0_4.length c0_4) := (blk_cell BK328.out 4).trans rfl
              have hcz34_5 : wc.cell? ⟨gb328, 5, none⟩ = some (.string a0_5) := (blk_cell BK328.out 5).trans rfl
              have hfz34_0 := blk_frozen BK328.out 0
              have hfz34_1 := blk_frozen BK328.out 1
              have hfz34_2 := blk_frozen BK328.out 2
              have hfz34_3 := blk_frozen BK328.out 3
              have hfz34_4 := blk_frozen BK328.out 4
              have hfz34_5 := blk_frozen BK328.out 5
              go_wp2_with (first | ((with_reducible refine gate_dst (N := 80) rfl ?_); refine conv_str rfl (N := 80) rfl (.tmp 79) rfl a0_5 rfl ?_; intro gB cB wB hcb hb; have nk_ := Aside0.mk (blk_below BK328.out hb); have n1_ := Aside0.mk (below_step (by repeat (first | (with_reducible first | exact HB.out | apply below_alloc | apply pw_below_drewN | apply below_drew1) | exact HB.out)) hb); have HCB := Aside0.mk hcb; clear HB BK328; have HB := n1_; have BK328 := nk_; clear n1_ nk_; clear hb hcb))
              go_loopg [82] kj24 (fun kq v82 w' => ∃ (x82_4 : Int), v82 = .int .i64 x82_4 ∧ Aside0 (terrref5_DrawFault.l0 kq a0_5 (a0_5.size : Int) x82_4 a0_0 a0_1 a0_2 a0_3 l0_4 a0_5 = some r) ∧ Aside0 (kq ≤ kj24) ∧ Aside0 (w'.heap[gb328]? = some (.cells #[.int .i64 a0_0, .int .i64 a0_1, .int .i64 a0_2, .int .i64 a0_3, (.slice A0_4 l0_4.length c0_4), .string a0_5] 48 (0, 0))) ∧ Aside0 (Below w.heap.size w w') ∧ Aside0 (CB w' gB a0_5))
              case atStart => exact ⟨(0), (by first | rfl | (simp; done) | (simp [*]; done)), H', ⟨Nat.le_refl _⟩, ⟨by (with_reducible repeat (first | refine blk_drewN ?_ _ | refine blk_drew ?_ | refine blk_alloc ?_ _)); exact BK328.out⟩, ⟨by repeat (first | (with_reducible first | exact HB.out | apply below_alloc | apply pw_below_drewN | apply below_drew1 | refine below_set ?_ GE328.out) | exact HB.out)⟩, ⟨HCB.out⟩⟩
              case round =>
                clear H'
                try clear c31
                try clear c32
                try clear c32b0
                try clear c32b1
                try clear hcz34_0
                try clear hcz34_1
                try clear hcz34_2
                try clear hcz34_3
                try clear hcz34_4
                try clear hcz34_5
                try clear hfz34_0
                try clear hfz34_1
                try clear hfz34_2
                try clear hfz34_3
                try clear hfz34_4
                try clear hfz34_5
                obtain ⟨x82_4, rfl, HA, HK4, BK328, HB, HCB⟩ := hrel
                cases gk with
                | zero => exact absurd HA.out (by simp [terrref5_DrawFault.l0])
                | succ k4 =>
                  have H := HA.out
                  clear HA
                  simp only [terrref5_DrawFault.l0] at H
                  by_cases c35 : x82_4 < (a0_5.size : Int)
                  · rw [if_pos c35] at H
                    have c35b0 : decide (x82_4 < (a0_5.size : Int)) = true := decide_eq_true c35
                    clear c35
                    by_cases c36 : 0 ≤ x82_4
                    rotate_left
                    · rw [if_neg c36] at H
                      exact absurd H (by simp)
                    rw [if_pos c36] at H
                    have c36b0 : decide (0 ≤ x82_4) = true := decide_eq_true c36
                    clear c36
                    by_cases c37 : x82_4 < (a0_5.size : Int)
                    rotate_left
                    · rw [if_neg c37] at H
                      exact absurd H (by simp)
                    rw [if_pos c37] at H
                    have c37b0 : decide (x82_4 < (a0_5.size : Int)) = true := decide_eq_true c37
                    clear c37
                    by_cases c39 : (bt a0_5 x82_4) < 32
                    · rw [if_pos c39] at H
                      have c39b0 : decide ((bt a0_5 x82_4) < 32) = true := decide_eq_true c39
                      clear c39
                      obtain rfl := Option.some.inj H
                      have p38 : 0 ≤ (x82_4 : Int) := of_decide_eq_true (by first | (with_reducible assumption) | assumption)
                      have q38 : x82_4 < (a0_5.size : Int) := of_decide_eq_true (by first | (with_reducible assumption) | assumption)
                      have hx38 := CB_at HCB.out x82_4 p38 q38; have hy38 := CB_add HCB.out x82_4 p38 q38
                      replace p38 := eq_true p38
                      replace q38 := eq_true q38
                      go_wp2
                      go_ret
                      exact ⟨by first | rfl | (simp [errW_none, errW_some] <;> rfl) | (simp [*, errW_none, errW_some] <;> rfl), by repeat (first | (with_reducible first | exact HB.out | apply below_alloc | apply pw_below_drewN | apply below_drew1 | refine below_set ?_ GE328.out) | exact HB.out)⟩
                    rw [if_neg c39] at H
                    have c39b0 : decide ((bt a0_5 x82_4) < 32) = false := decide_eq_false c39
                    clear c39
                    by_cases c40 : (bt a0_5 x82_4) > 126
                    · rw [if_pos c40] at H
                      have c40b0 : decide (126 < (bt a0_5 x82_4)) = true := decide_eq_true c40
                      clear c40
                      obtain rfl := Option.some.inj H
                      have p38 : 0 ≤ (x82_4 : Int) := of_decide_eq_true (by first | (with_reducible assumption) | assumption)
                      have q38 : x82_4 < (a0_5.size : Int) := of_decide_eq_true (by first | (with_reducible assumption) | assumption)
                      have hx38 := CB_at HCB.out x82_4 p38 q38; have hy38 := CB_add HCB.out x82_4 p38 q38
                      replace p38 := eq_true p38
                      replace q38 := eq_true q38
                      go_wp2
                      go_ret
                      exact ⟨by first | rfl | (simp [errW_none, errW_some] <;> rfl) | (simp [*, errW_none, errW_some] <;> rfl), by repeat (first | (with_reducible first | exact HB.out | apply below_alloc | apply pw_below_drewN | apply below_drew1 | refine below_set ?_ GE328.out) | exact HB.out)⟩
                    rw [if_neg c40] at H
                    have c40b0 : decide (126 < (bt a0_5 x82_4)) = false := decide_eq_false c40
                    clear c40
                    have H' := Aside0.mk H
                    clear H
                    have p38 : 0 ≤ (x82_4 : Int) := of_decide_eq_true (by first | (with_reducible assumption) | assumption)
                    have q38 : x82_4 < (a0_5.size : Int) := of_decide_eq_true (by first | (with_reducible assumption) | assumption)
                    have hx38 := CB_at HCB.out x82_4 p38 q38; have hy38 := CB_add HCB.out x82_4 p38 q38
                    replace p38 := eq_true p38
                    replace q38 := eq_true q38
                    go_wp2
                    go_roundg k4
                    case measure => have := HJ1.out; have := HJ11.out; have := HJ24.out; have := HK4.out; omega
                    case rel => exact ⟨(wrap64 (x82_4 + 1)), (by first | rfl | (simp; done) | (simp [*]; done)), H', ⟨by have := HJ1.out; have := HJ11.out; have := HJ24.out; have := HK4.out; omega⟩, ⟨by (with_reducible repeat (first | refine blk_drewN ?_ _ | refine blk_drew ?_ | refine blk_alloc ?_ _)); exact BK328.out⟩, ⟨by repeat (first | (with_reducible first | exact HB.out | apply below_alloc | apply pw_below_drewN | apply below_drew1 | refine below_set ?_ GE328.out) | exact HB.out)⟩, ⟨HCB.out⟩⟩
                  rw [if_neg c35] at H
                  have c35b0 : decide (x82_4 < (a0_5.size : Int)) = false := decide_eq_false c35
                  clear c35
                  have HC41 := Aside0.mk H
                  clear H
                  go_upto_region 15 with (fail)
                  go_cut [113] (fun v113 wc => ∃ (kq : Nat) (x113_40 : Bool), v113 = .bool x113_40 ∧ Aside0 (terrref5_DrawFault.j4 kq x113_40 a0_0 a0_1 a0_2 a0_3 l0_4 a0_5 = some r) ∧ Aside0 (kq ≤ k4) ∧ Aside0 (wc.heap[gb328]? = some (.cells #[.int .i64 a0_0, .int .i64 a0_1, .int .i64 a0_2, .int .i64 a0_3, (.slice A0_4 l0_4.length c0_4), .string a0_5] 48 (0, 0))) ∧ Aside0 (Below w.heap.size w wc))
                  case first =>
                    have H := HC41.out
                    clear HC41
                    by_cases c42 : (l0_4.length : Int) < 1
                    · rw [if_pos c42] at H
                      have c42b0 : decide ((l0_4.length : Int) < 1) = true := decide_eq_true c42
                      have c42b1 : decide (l0_4.length < 1) = true := decide_eq_true (by omega)
                      clear c42
                      (first | rw [c42b0] | (simp only [i64_w, i32_w]; rw [c42b0]) | skip)
                      have H' := Aside0.mk H
                      clear H
                      have hcz43_0 : wr.cell? ⟨gb328, 0, none⟩ = some (.int .i64 a0_0) := (blk_cell BK328.out 0).trans rfl
                      have hcz43_1 : wr.cell? ⟨gb328, 1, none⟩ = some (.int .i64 a0_1) := (blk_cell BK328.out 1).trans rfl
                      have hcz43_2 : wr.cell? ⟨gb328, 2, none⟩ = some (.int .i64 a0_2) := (blk_cell BK328.out 2).trans rfl
                      have hcz43_3 : wr.cell? ⟨gb328, 3, none⟩ = some (.int .i64 a0_3) := (blk_cell BK328.out 3).trans rfl
                      have hcz43_4 : wr.cell? ⟨gb328, 4, none⟩ = some (.slice A0_4 l0_4.length c0_4) := (blk_cell BK328.out 4).trans rfl
                      have hcz43_5 : wr.cell? ⟨gb328, 5, none⟩ = some (.string a0_5) := (blk_cell BK328.out 5).trans rfl
                      have hfz43_0 := blk_frozen BK328.out 0
                      have hfz43_1 := blk_frozen BK328.out 1
                      have hfz43_2 := blk_frozen BK328.out 2
                      have hfz43_3 := blk_frozen BK328.out 3
                      have hfz43_4 := blk_frozen BK328.out 4
                      have hfz43_5 := blk_frozen BK328.out 5
                      go_wp2
                      go_meet
                      case rel => exact ⟨_, (true), (by first | rfl | (simp; done) | (simp [*]; done)), H', ⟨by have := HJ1.out; have := HJ11.out; have := HJ24.out; have := HK4.out; first | omega | exact Nat.le_refl _⟩, ⟨by (with_reducible repeat (first | refine blk_drewN ?_ _ | refine blk_drew ?_ | refine blk_alloc ?_ _)); exact BK328.out⟩, ⟨by repeat (first | (with_reducible first | exact HB.out | apply below_alloc | apply pw_below_drewN | apply below_drew1 | refine below_set ?_ GE328.out) | exact HB.out)⟩⟩
                    rw [if_neg c42] at H
                    have c42b0 : decide ((l0_4.length : Int) < 1) = false := decide_eq_false c42
                    have c42b1 : decide (l0_4.length < 1) = false := decide_eq_false (by omega)
                    clear c42
                    (first | rw [c42b0] | (simp only [i64_w, i32_w]; rw [c42b0]) | skip)
                    by_cases c44 : (l0_4.length : Int) > 20
                    · rw [if_pos c44] at H
                      have c44b0 : decide (20 < (l0_4.length : Int)) = true := decide_eq_true c44
                      have c44b1 : decide (20 < l0_4.length) = true := decide_eq_true (by omega)
                      clear c44
                      have H' := Aside0.mk H
                      clear H
                      have hcz45_0 : wr.cell? ⟨gb328, 0, none⟩ = some (.int .i64 a0_0) := (blk_cell BK328.out 0).trans rfl
                      have hcz45_1 : wr.cell? ⟨gb328, 1, none⟩ = some (.int .i64 a0_1) := (blk_cell BK328.out 1).trans rfl
                      have hcz45_2 : wr.cell? ⟨gb328, 2, none⟩ = some (.int .i64 a0_2) := (blk_cell BK328.out 2).trans rfl
                      have hcz45_3 : wr.cell? ⟨gb328, 3, none⟩ = some (.int .i64 a0_3) := (blk_cell BK328.out 3).trans rfl
                      have hcz45_4 : wr.cell? ⟨gb328, 4, none⟩ = some (.slice A0_4 l0_4.length c0_4) := (blk_cell BK328.out 4).trans rfl
                      have hcz45_5 : wr.cell? ⟨gb328, 5, none⟩ = some (.string a0_5) := (blk_cell BK328.out 5).trans rfl
                      have hfz45_0 := blk_frozen BK328.out 0
                      have hfz45_1 := blk_frozen BK328.out 1
                      have hfz45_2 := blk_frozen BK328.out 2
                      have hfz45_3 := blk_frozen BK328.out 3
                      have hfz45_4 := blk_frozen BK328.out 4
                      have hfz45_5 := blk_frozen BK328.out 5
                      go_wp2
                      go_meet
                      case rel => exact ⟨_, (true), (by first | rfl | (simp; done) | (simp [*]; done)), H', ⟨by have := HJ1.out; have := HJ11.out; have := HJ24.out; have := HK4.out; first | omega | exact Nat.le_refl _⟩, ⟨by (with_reducible repeat (first | refine blk_drewN ?_ _ | refine blk_drew ?_ | refine blk_alloc ?_ _)); exact BK328.out⟩, ⟨by repeat (first | (with_reducible first | exact HB.out | apply below_alloc | apply pw_below_drewN | apply below_drew1 | refine below_set ?_ GE328.out) | exact HB.out)⟩⟩
                    rw [if_neg c44] at H
                    have c44b0 : decide (20 < (l0_4.length : Int)) = false := decide_eq_false c44
                    have c44b1 : decide (20 < l0_4.length) = false := decide_eq_false (by omega)
                    clear c44
                    by_cases c46 : a0_0 = 4
                    rotate_left
                    · rw [if_neg c46] at H
                      have c46b0 : (a0_0 == 4) = false := beq_eq_false_iff_ne.mpr c46
                      have c46b1 : (a0_0 != 4) = true := bne_iff_ne.mpr c46
                      have H' := Aside0.mk H
                      clear H
                      have hcz48_0 : wr.cell? ⟨gb328, 0, none⟩ = some (.int .i64 a0_0) := (blk_cell BK328.out 0).trans rfl
                      have hcz48_1 : wr.cell? ⟨gb328, 1, none⟩ = some (.int .i64 a0_1) := (blk_cell BK328.out 1).trans rfl
                      have hcz48_2 : wr.cell? ⟨gb328, 2, none⟩ = some (.int .i64 a0_2) := (blk_cell BK328.out 2).trans rfl
                      have hcz48_3 : wr.cell? ⟨gb328, 3, none⟩ = some (.int .i64 a0_3) := (blk_cell BK328.out 3).trans rfl
                      have hcz48_4 : wr.cell? ⟨gb328, 4, none⟩ = some (.slice A0_4 l0_4.length c0_4) := (blk_cell BK328.out 4).trans rfl
                      have hcz48_5 : wr.cell? ⟨gb328, 5, none⟩ = some (.string a0_5) := (blk_cell BK328.out 5).trans rfl
                      have hfz48_0 := blk_frozen BK328.out 0
                      have hfz48_1 := blk_frozen BK328.out 1
                      have hfz48_2 := blk_frozen BK328.out 2
                      have hfz48_3 := blk_frozen BK328.out 3
                      have hfz48_4 := blk_frozen BK328.out 4
                      have hfz48_5 := blk_frozen BK328.out 5
                      go_wp2
                      go_meet
                      case rel => exact ⟨_, (false), (by first | rfl | (simp; done) | (simp [*]; done)), H', ⟨by have := HJ1.out; have := HJ11.out; have := HJ24.out; have := HK4.out; first | omega | exact Nat.le_refl _⟩, ⟨by (with_reducible repeat (first | refine blk_drewN ?_ _ | refine blk_drew ?_ | refine blk_alloc ?_ _)); exact BK328.out⟩, ⟨by repeat (first | (with_reducible first | exact HB.out | apply below_alloc | apply pw_below_drewN | apply below_drew1 | refine below_set ?_ GE328.out) | exact HB.out)⟩⟩
                    rw [if_pos c46] at H
                    have c46b0 : (a0_0 == 4) = true := beq_iff_eq.mpr c46
                    have c46b1 : (a0_0 != 4) = false := bne_eq_false_iff_eq.mpr c46
                    clear c46
                    have H' := Aside0.mk H
                    clear H
                    have hcz47_0 : wr.cell? ⟨gb328, 0, none⟩ = some (.int .i64 a0_0) := (blk_cell BK328.out 0).trans rfl
                    have hcz47_1 : wr.cell? ⟨gb328, 1, none⟩ = some (.int .i64 a0_1) := (blk_cell BK328.out 1).trans rfl
                    have hcz47_2 : wr.cell? ⟨gb328, 2, none⟩ = some (.int .i64 a0_2) := (blk_cell BK328.out 2).trans rfl
                    have hcz47_3 : wr.cell? ⟨gb328, 3, none⟩ = some (.int .i64 a0_3) := (blk_cell BK328.out 3).trans rfl
                    have hcz47_4 : wr.cell? ⟨gb328, 4, none⟩ = some (.slice A0_4 l0_4.length c0_4) := (blk_cell BK328.out 4).trans rfl
                    have hcz47_5 : wr.cell? ⟨gb328, 5, none⟩ = some (.string a0_5) := (blk_cell BK328.out 5).trans rfl
                    have hfz47_0 := blk_frozen BK328.out 0
                    have hfz47_1 := blk_frozen BK328.out 1
                    have hfz47_2 := blk_frozen BK328.out 2
                    have hfz47_3 := blk_frozen BK328.out 3
                    have hfz47_4 := blk_frozen BK328.out 4
                    have hfz47_5 := blk_frozen BK328.out 5
                    go_wp2
                    go_meet
                    case rel => exact ⟨_, (decide ((l0_4.length : Int) > 1)), (by first | rfl | (simp; done) | (simp [*]; done)), H', ⟨by have := HJ1.out; have := HJ11.out; have := HJ24.out; have := HK4.out; first | omega | exact Nat.le_refl _⟩, ⟨by (with_reducible repeat (first | refine blk_drewN ?_ _ | refine blk_drew ?_ | refine blk_alloc ?_ _)); exact BK328.out⟩, ⟨by repeat (first | (with_reducible first | exact HB.out | apply below_alloc | apply pw_below_drewN | apply below_drew1 | refine below_set ?_ GE328.out) | exact HB.out)⟩⟩
                  case rest =>
                    clear HC41
                    try clear c35
                    try clear c35b0
                    obtain ⟨kq, x113_40, rfl, HA, HJ40, BK328, HB⟩ := hcut
                    cases kq with
                    | zero => exact absurd HA.out (by simp [terrref5_DrawFault.j4])
                    | succ kj40 =>
                      have H := HA.out
                      clear HA
                      simp only [terrref5_DrawFault.j4] at H
                      by_cases c49 : x113_40 = true
                      · subst c49
                        have H1 : (some 3) = some r := by rw [if_pos rfl] at H; exact H
                        clear H
                        have H := H1
                        clear H1
                        obtain rfl := Option.some.inj H
                        go_wp2
                        go_ret
                        exact ⟨by first | rfl | (simp [errW_none, errW_some] <;> rfl) | (simp [*, errW_none, errW_some] <;> rfl), by repeat (first | (with_reducible first | exact HB.out | apply below_alloc | apply pw_below_drewN | apply below_drew1 | refine below_set ?_ GE328.out) | exact HB.out)⟩
                      replace c49 := Bool.eq_false_iff.mpr c49
                      subst c49
                      have H1 : ((some (([0, 1, 2, 3, 1] : List Int) : List Int)).bind fun y329 => (if 0 ≤ a0_0 then (if a0_0 < (y329.length : Int) then (terrref5_DrawFault.l1 kj40 (rd y329 a0_0) l0_4 (l0_4.length : Int) 0 a0_0 a0_1 a0_2 a0_3 l0_4 a0_5) else (none)) else (none))) = some r := by rw [if_neg (show ¬ (false = true) by decide)] at H; exact H
                      clear H
                      have H := H1
                      clear H1
                      obtain ⟨y329, hy329⟩ : ∃ y_ : List Int, y_ = (([0, 1, 2, 3, 1] : List Int)) := ⟨_, rfl⟩
                      replace H : (if 0 ≤ a0_0 then (if a0_0 < (y329.length : Int) then (terrref5_DrawFault.l1 kj40 (rd y329 a0_0) l0_4 (l0_4.length : Int) 0 a0_0 a0_1 a0_2 a0_3 l0_4 a0_5) else (none)) else (none)) = some r := by first | (rw [hy329]; with_reducible exact H) | (have H2_ := (Option.bind_some _ _).symm.trans H; rw [hy329]; with_reducible exact H2_) | (have H2_ := (Option.bind_some _ _).symm.trans H; with_reducible exact H2_) | with_reducible exact H | (rw [hy329]; exact H) | exact H
                      have Ny329 := Aside0.mk hy329
                      clear hy329
                      by_cases c50 : 0 ≤ a0_0
                      rotate_left
                      · rw [if_neg c50] at H
                        exact absurd H (by simp)
                      rw [if_pos c50] at H
                      have c50b0 : decide (0 ≤ a0_0) = true := decide_eq_true c50
                      clear c50
                      by_cases c51 : a0_0 < (y329.length : Int)
                      rotate_left
                      · rw [if_neg c51] at H
                        exact absurd H (by simp)
                      rw [if_pos c51] at H
                      have c51b0 : decide (a0_0 < (y329.length : Int)) = true := decide_eq_true c51
                      clear c51
                      have H' := Aside0.mk H
                      clear H
                      go_wp2_with (first | ((with_reducible refine gate_dst (N := 114) rfl ?_); (try (refine gate_guard (by rfl) ?_; dsimp only)); refine Kd.R_lit (Kd.int .i64) _ 3 ?hg (N := 114) ?hd (xs := ([0, 1, 2, 3, 1] : List Int)) (inner := [.int .i64 0, .int .i64 1, .int .i64 2, .int .i64 3, .int .i64 1]) (ok := fun _ => True) (okp := fun _ => True) ?hr ?hp (fun _ hk => hk) trivial (Below.refl _ _) (Nat.le_refl _) (by simp) ?_; (case hd => rfl); (case hg => rfl); (case hr => first | (go_simp; done) | (go_simp; rfl)); (case hp => exact (Reps.one (show Kd.M (Kd.int .i64) _ _ _ 0 [.int .i64 0] from rfl) (Reps.one (show Kd.M (Kd.int .i64) _ _ _ 1 [.int .i64 1] from rfl) (Reps.one (show Kd.M (Kd.int .i64) _ _ _ 2 [.int .i64 2] from rfl) (Reps.one (show Kd.M (Kd.int .i64) _ _ _ 3 [.int .i64 3] from rfl) (Reps.one (show Kd.M (Kd.int .i64) _ _ _ 1 [.int .i64 1] from rfl) (Reps.none _ _))))))); intro v330 w52 ho53 hb hg_ hnew_; clear hg_ hnew_; (first | rw [← Ny329.out] at ho53 | (simp only [Int.reduceToNat] at ho53; rw [← Ny329.out] at ho53)); have HO331 := Aside0.mk (Kd.R_lower ho53 (below_size (by repeat (first | (with_reducible first | exact HB.out | apply below_alloc | apply pw_below_drewN | apply below_drew1 | refine below_set ?_ GE328.out) | exact HB.out)))); replace BK328 := Aside0.mk (blk_below (g := gb328) (o := .cells #[.int .i64 a0_0, .int .i64 a0_1, .int .i64 a0_2, .int .i64 a0_3, .slice A0_4 l0_4.length c0_4, .string a0_5] 48 (0, 0)) (by (with_reducible repeat (first | refine blk_drewN ?_ _ | refine blk_drew ?_ | refine blk_alloc ?_ _)); exact BK328.out) hb); replace HB := Aside0.mk (below_step (by repeat (first | (with_reducible first | exact HB.out | apply below_alloc | apply pw_below_drewN | apply below_drew1 | refine below_set ?_ GE328.out) | exact HB.out)) hb); clear hb ho53; have hcz54_0 : w52.cell? ⟨gb328, 0, none⟩ = some (.int .i64 a0_0) := (blk_cell BK328.out 0).trans rfl; have hcz54_1 : w52.cell? ⟨gb328, 1, none⟩ = some (.int .i64 a0_1) := (blk_cell BK328.out 1).trans rfl; have hcz54_2 : w52.cell? ⟨gb328, 2, none⟩ = some (.int .i64 a0_2) := (blk_cell BK328.out 2).trans rfl; have hcz54_3 : w52.cell? ⟨gb328, 3, none⟩ = some (.int .i64 a0_3) := (blk_cell BK328.out 3).trans rfl; have hcz54_4 : w52.cell? ⟨gb328, 4, none⟩ = some (.slice A0_4 l0_4.length c0_4) := (blk_cell BK328.out 4).trans rfl; have hcz54_5 : w52.cell? ⟨gb328, 5, none⟩ = some (.string a0_5) := (blk_cell BK328.out 5).trans rfl; have hfz54_0 := blk_frozen BK328.out 0; have hfz54_1 := blk_frozen BK328.out 1; have hfz54_2 := blk_frozen BK328.out 2; have hfz54_3 := blk_frozen BK328.out 3; have hfz54_4 := blk_frozen BK328.out 4; have hfz54_5 := blk_frozen BK328.out 5; obtain ⟨Ao55, co55, eo55⟩ := Kd.R_slice HO331.out; subst eo55; have p332 : 0 ≤ (a0_0 : Int) := of_decide_eq_true (by first | (with_reducible assumption) | assumption); have q332 : a0_0 < (y329.length : Int) := of_decide_eq_true (by first | (with_reducible assumption) | assumption); obtain ⟨ad332, e332, hx332_0⟩ := Kd.at_int (Kd.R_reads' HO331.out).2.2 a0_0 p332 q332; cases e332; replace p332 := eq_true p332; replace q332 := eq_true q332))
                      go_loopg [122] kj40 (fun kq v122 w' => ∃ (x122_6 : Int), v122 = .int .i64 x122_6 ∧ Aside0 (terrref5_DrawFault.l1 kq (rd y329 a0_0) l0_4 (l0_4.length : Int) x122_6 a0_0 a0_1 a0_2 a0_3 l0_4 a0_5 = some r) ∧ Aside0 (kq ≤ kj40) ∧ Aside0 (w'.heap[gb328]? = some (.cells #[.int .i64 a0_0, .int .i64 a0_1, .int .i64 a0_2, .int .i64 a0_3, (.slice A0_4 l0_4.length c0_4), .string a0_5] 48 (0, 0))) ∧ Aside0 (Below w.heap.size w w'))
                      case atStart => exact ⟨(0), (by first | rfl | (simp; done) | (simp [*]; done)), H', ⟨Nat.le_refl _⟩, ⟨by (with_reducible repeat (first | refine blk_drewN ?_ _ | refine blk_drew ?_ | refine blk_alloc ?_ _)); exact BK328.out⟩, ⟨by repeat (first | (with_reducible first | exact HB.out | apply below_alloc | apply pw_below_drewN | apply below_drew1 | refine below_set ?_ GE328.out) | exact HB.out)⟩⟩
                      case round =>
                        clear H'
                        try clear c49
                        try clear c50
                        try clear c50b0
                        try clear c51
                        try clear c51b0
                        try clear hcz54_0
                        try clear hcz54_1
                        try clear hcz54_2
                        try clear hcz54_3
                        try clear hcz54_4
                        try clear hcz54_5
                        try clear hfz54_0
                        try clear hfz54_1
                        try clear hfz54_2
                        try clear hfz54_3
                        try clear hfz54_4
                        try clear hfz54_5
                        try clear hx332_0
                        try clear p332
                        try clear q332
                        obtain ⟨x122_6, rfl, HA, HK6, BK328, HB⟩ := hrel
                        cases gk with
                        | zero => exact absurd HA.out (by simp [terrref5_DrawFault.l1])
                        | succ k6 =>
                          have H := HA.out
                          clear HA
                          simp only [terrref5_DrawFault.l1] at H
                          by_cases c56 : x122_6 < (l0_4.length : Int)
                          rotate_left
                          · rw [if_neg c56] at H
                            have c56b0 : decide (x122_6 < (l0_4.length : Int)) = false := decide_eq_false c56
                            clear c56
                            obtain rfl := Option.some.inj H
                            go_wp2
                            go_ret
                            exact ⟨by first | rfl | (simp [errW_none, errW_some] <;> rfl) | (simp [*, errW_none, errW_some] <;> rfl), by repeat (first | (with_reducible first | exact HB.out | apply below_alloc | apply pw_below_drewN | apply below_drew1 | refine below_set ?_ GE328.out) | exact HB.out)⟩
                          rw [if_pos c56] at H
                          have c56b0 : decide (x122_6 < (l0_4.length : Int)) = true := decide_eq_true c56
                          clear c56
                          by_cases c57 : 0 ≤ x122_6
                          rotate_left
                          · rw [if_neg c57] at H
                            exact absurd H (by simp)
                          rw [if_pos c57] at H
                          have c57b0 : decide (0 ≤ x122_6) = true := decide_eq_true c57
                          clear c57
                          by_cases c58 : x122_6 < (l0_4.length : Int)
                          rotate_left
                          · rw [if_neg c58] at H
                            exact absurd H (by simp)
                          rw [if_pos c58] at H
                          have c58b0 : decide (x122_6 < (l0_4.length : Int)) = true := decide_eq_true c58
                          clear c58
                          by_cases c59 : ((rd_L4 l0_4 x122_6).length : Int) > 400
                          · rw [if_pos c59] at H
                            have c59b0 : decide (400 < ((rd_L4 l0_4 x122_6).length : Int)) = true := decide_eq_true c59
                            have c59b1 : decide (400 < (rd_L4 l0_4 x122_6).length) = true := decide_eq_true (by omega)
                            clear c59
                            obtain rfl := Option.some.inj H
                            have p333 : 0 ≤ (x122_6 : Int) := of_decide_eq_true (by first | (with_reducible assumption) | assumption)
                            have q333 : x122_6 < (l0_4.length : Int) := of_decide_eq_true (by first | (with_reducible assumption) | assumption)
                            obtain ⟨ad333, A333_0, c333_0, e333, hx333_0, hl333_0, hi333_0⟩ := at_L4 HR0_4.out x122_6 p333 q333
                            cases e333
                            replace hx333_0 := (HB.out.cell (World.block_lt_of_cell? w _ hx333_0)).trans hx333_0
                            have HR333_0 := Aside0.mk hi333_0
                            have HC333_0 := Aside0.mk hl333_0
                            clear hi333_0 hl333_0
                            replace p333 := eq_true p333
                            replace q333 := eq_true q333
                            go_wp2
                            go_ret
                            exact ⟨by first | rfl | (simp [errW_none, errW_some] <;> rfl) | (simp [*, errW_none, errW_some] <;> rfl), by repeat (first | (with_reducible first | exact HB.out | apply below_alloc | apply pw_below_drewN | apply below_drew1 | refine below_set ?_ GE328.out) | exact HB.out)⟩
                          rw [if_neg c59] at H
                          have c59b0 : decide (400 < ((rd_L4 l0_4 x122_6).length : Int)) = false := decide_eq_false c59
                          have c59b1 : decide (400 < (rd_L4 l0_4 x122_6).length) = false := decide_eq_false (by omega)
                          clear c59
                          have HC60 := Aside0.mk H
                          clear H
                          have p333 : 0 ≤ (x122_6 : Int) := of_decide_eq_true (by first | (with_reducible assumption) | assumption)
                          have q333 : x122_6 < (l0_4.length : Int) := of_decide_eq_true (by first | (with_reducible assumption) | assumption)
                          obtain ⟨ad333, A333_0, c333_0, e333, hx333_0, hl333_0, hi333_0⟩ := at_L4 HR0_4.out x122_6 p333 q333
                          cases e333
                          replace hx333_0 := (HB.out.cell (World.block_lt_of_cell? w _ hx333_0)).trans hx333_0
                          have HR333_0 := Aside0.mk hi333_0
                          have HC333_0 := Aside0.mk hl333_0
                          clear hi333_0 hl333_0
                          replace p333 := eq_true p333
                          replace q333 := eq_true q333
                          go_upto_region 23 with (fail)
                          go_cut [143] (fun v143 wc => ∃ (kq : Nat) (x143_59 : Bool), v143 = .bool x143_59 ∧ Aside0 (terrref5_DrawFault.j6 kq (rd y329 a0_0) (rd_L4 l0_4 x122_6) l0_4 (l0_4.length : Int) x122_6 x143_59 a0_0 a0_1 a0_2 a0_3 l0_4 a0_5 = some r) ∧ Aside0 (kq ≤ k6) ∧ Aside0 (wc.heap[gb328]? = some (.cells #[.int .i64 a0_0, .int .i64 a0_1, .int .i64 a0_2, .int .i64 a0_3, (.slice (some ad333) l0_4.length c0_4), .string a0_5] 48 (0, 0))) ∧ Aside0 (Below w.heap.size w wc))
                          case first =>
                            have H := HC60.out
                            clear HC60
                            by_cases c61 : ((rd_L4 l0_4 x122_6).length : Int) < (rd y329 a0_0)
                            · rw [if_pos c61] at H
                              have c61b0 : decide (((rd_L4 l0_4 x122_6).length : Int) < (rd y329 a0_0)) = true := decide_eq_true c61
                              clear c61
                              (first | rw [c61b0] | (simp only [i64_w, i32_w]; rw [c61b0]) | skip)
                              have H' := Aside0.mk H
                              clear H
                              go_wp2
                              go_meet
                              case rel => exact ⟨_, (true), (by first | rfl | (simp; done) | (simp [*]; done)), H', ⟨by have := HJ1.out; have := HJ11.out; have := HJ24.out; have := HK4.out; have := HJ40.out; have := HK6.out; first | omega | exact Nat.le_refl _⟩, ⟨by (with_reducible repeat (first | refine blk_drewN ?_ _ | refine blk_drew ?_ | refine blk_alloc ?_ _)); exact BK328.out⟩, ⟨by repeat (first | (with_reducible first | exact HB.out | apply below_alloc | apply pw_below_drewN | apply below_drew1 | refine below_set ?_ GE328.out) | exact HB.out)⟩⟩
                            rw [if_neg c61] at H
                            have c61b0 : decide (((rd_L4 l0_4 x122_6).length : Int) < (rd y329 a0_0)) = false := decide_eq_false c61
                            clear c61
                            (first | rw [c61b0] | (simp only [i64_w, i32_w]; rw [c61b0]) | skip)
                            by_cases c62 : ((rd_L4 l0_4 x122_6).length : Int) > 1
                            rotate_left
                            · rw [if_neg c62] at H
                              have c62b0 : decide (1 < ((rd_L4 l0_4 x122_6).length : Int)) = false := decide_eq_false c62
                              have c62b1 : decide (1 < (rd_L4 l0_4 x122_6).length) = false := decide_eq_false (by omega)
                              clear c62
                              have H' := Aside0.mk H
                              clear H
                              go_wp2
                              go_meet
                              case rel => exact ⟨_, (false), (by first | rfl | (simp; done) | (simp [*]; done)), H', ⟨by have := HJ1.out; have := HJ11.out; have := HJ24.out; have := HK4.out; have := HJ40.out; have := HK6.out; first | omega | exact Nat.le_refl _⟩, ⟨by (with_reducible repeat (first | refine blk_drewN ?_ _ | refine blk_drew ?_ | refine blk_alloc ?_ _)); exact BK328.out⟩, ⟨by repeat (first | (with_reducible first | exact HB.out | apply below_alloc | apply pw_below_drewN | apply below_drew1 | refine below_set ?_ GE328.out) | exact HB.out)⟩⟩
                            rw [if_pos c62] at H
                            have c62b0 : decide (1 < ((rd_L4 l0_4 x122_6).length : Int)) = true := decide_eq_true c62
                            have c62b1 : decide (1 < (rd_L4 l0_4 x122_6).length) = true := decide_eq_true (by omega)
                            clear c62
                            have H' := Aside0.mk H
                            clear H
                            have hcz63_0 : wr.cell? ⟨gb328, 0, none⟩ = some (.int .i64 a0_0) := (blk_cell BK328.out 0).trans rfl
                            have hcz63_1 : wr.cell? ⟨gb328, 1, none⟩ = some (.int .i64 a0_1) := (blk_cell BK328.out 1).trans rfl
                            have hcz63_2 : wr.cell? ⟨gb328, 2, none⟩ = some (.int .i64 a0_2) := (blk_cell BK328.out 2).trans rfl
                            have hcz63_3 : wr.cell? ⟨gb328, 3, none⟩ = some (.int .i64 a0_3) := (blk_cell BK328.out 3).trans rfl
                            have hcz63_4 : wr.cell? ⟨gb328, 4, none⟩ = some (.slice (some ad333) l0_4.length c0_4) := (blk_cell BK328.out 4).trans rfl
                            have hcz63_5 : wr.cell? ⟨gb328, 5, none⟩ = some (.string a0_5) := (blk_cell BK328.out 5).trans rfl
                            have hfz63_0 := blk_frozen BK328.out 0
                            have hfz63_1 := blk_frozen BK328.out 1
                            have hfz63_2 := blk_frozen BK328.out 2
                            have hfz63_3 := blk_frozen BK328.out 3
                            have hfz63_4 := blk_frozen BK328.out 4
                            have hfz63_5 := blk_frozen BK328.out 5
                            go_wp2
                            go_meet
                            case rel => exact ⟨_, (((Int.tmod a0_0 3) == 1)), (by first | rfl | (simp; done) | (simp [*]; done)), H', ⟨by have := HJ1.out; have := HJ11.out; have := HJ24.out; have := HK4.out; have := HJ40.out; have := HK6.out; first | omega | exact Nat.le_refl _⟩, ⟨by (with_reducible repeat (first | refine blk_drewN ?_ _ | refine blk_drew ?_ | refine blk_alloc ?_ _)); exact BK328.out⟩, ⟨by repeat (first | (with_reducible first | exact HB.out | apply below_alloc | apply pw_below_drewN | apply below_drew1 | refine below_set ?_ GE328.out) | exact HB.out)⟩⟩
                          case rest =>
                            clear HC60
                            try clear c56
                            try clear c56b0
                            try clear c57
                            try clear c57b0
                            try clear c58
                            try clear c58b0
                            try clear c59
                            try clear c59b0
                            try clear c59b1
                            try clear hx333_0
                            try clear p333
                            try clear q333
                            obtain ⟨kq, x143_59, rfl, HA, HJ59, BK328, HB⟩ := hcut
                            cases kq with
                            | zero => exact absurd HA.out (by simp [terrref5_DrawFault.j6])
                            | succ kj59 =>
                              have H := HA.out
                              clear HA
                              simp only [terrref5_DrawFault.j6] at H
                              by_cases c64 : x143_59 = true
                              · subst c64
                                have H1 : (some 3) = some r := by rw [if_pos rfl] at H; exact H
                                clear H
                                have H := H1
                                clear H1
                                obtain rfl := Option.some.inj H
                                go_wp2
                                go_ret
                                exact ⟨by first | rfl | (simp [errW_none, errW_some] <;> rfl) | (simp [*, errW_none, errW_some] <;> rfl), by repeat (first | (with_reducible first | exact HB.out | apply below_alloc | apply pw_below_drewN | apply below_drew1 | refine below_set ?_ GE328.out) | exact HB.out)⟩
                              replace c64 := Bool.eq_false_iff.mpr c64
                              subst c64
                              have H1 : (terrref5_DrawFault.l2 kj59 (rd y329 a0_0) l0_4 (l0_4.length : Int) x122_6 (rd_L4 l0_4 x122_6) ((rd_L4 l0_4 x122_6).length : Int) 0 a0_0 a0_1 a0_2 a0_3 l0_4 a0_5) = some r := by rw [if_neg (show ¬ (false = true) by decide)] at H; exact H
                              clear H
                              have H := H1
                              clear H1
                              have H' := Aside0.mk H
                              clear H
                              go_wp2
                              go_loopg [146] kj59 (fun kq v146 w' => ∃ (x146_8 : Int), v146 = .int .i64 x146_8 ∧ Aside0 (terrref5_DrawFault.l2 kq (rd y329 a0_0) l0_4 (l0_4.length : Int) x122_6 (rd_L4 l0_4 x122_6) ((rd_L4 l0_4 x122_6).length : Int) x146_8 a0_0 a0_1 a0_2 a0_3 l0_4 a0_5 = some r) ∧ Aside0 (kq ≤ kj59) ∧ Aside0 (w'.heap[gb328]? = some (.cells #[.int .i64 a0_0, .int .i64 a0_1, .int .i64 a0_2, .int .i64 a0_3, (.slice (some ad333) l0_4.length c0_4), .string a0_5] 48 (0, 0))) ∧ Aside0 (Below w.heap.size w w'))
                              case atStart => exact ⟨(0), (by first | rfl | (simp; done) | (simp [*]; done)), H', ⟨Nat.le_refl _⟩, ⟨by (with_reducible repeat (first | refine blk_drewN ?_ _ | refine blk_drew ?_ | refine blk_alloc ?_ _)); exact BK328.out⟩, ⟨by repeat (first | (with_reducible first | exact HB.out | apply below_alloc | apply pw_below_drewN | apply below_drew1 | refine below_set ?_ GE328.out) | exact HB.out)⟩⟩
                              case round =>
                                clear H'
                                try clear c64
                                obtain ⟨x146_8, rfl, HA, HK8, BK328, HB⟩ := hrel
                                cases gk with
                                | zero => exact absurd HA.out (by simp [terrref5_DrawFault.l2])
                                | succ k8 =>
                                  have H := HA.out
                                  clear HA
                                  simp only [terrref5_DrawFault.l2] at H
                                  by_cases c65 : x146_8 < ((rd_L4 l0_4 x122_6).length : Int)
                                  rotate_left
                                  · rw [if_neg c65] at H
                                    have c65b0 : decide (x146_8 < ((rd_L4 l0_4 x122_6).length : Int)) = false := decide_eq_false c65
                                    clear c65
                                    have H' := Aside0.mk H
                                    clear H
                                    go_wp2
                                    go_roundg k8
                                    case measure => have := HJ1.out; have := HJ11.out; have := HJ24.out; have := HK4.out; have := HJ40.out; have := HK6.out; have := HJ59.out; have := HK8.out; omega
                                    case rel => exact ⟨(wrap64 (x122_6 + 1)), (by first | rfl | (simp; done) | (simp [*]; done)), H', ⟨by have := HJ1.out; have := HJ11.out; have := HJ24.out; have := HK4.out; have := HJ40.out; have := HK6.out; have := HJ59.out; have := HK8.out; omega⟩, ⟨by (with_reducible repeat (first | refine blk_drewN ?_ _ | refine blk_drew ?_ | refine blk_alloc ?_ _)); exact BK328.out⟩, ⟨by repeat (first | (with_reducible first | exact HB.out | apply below_alloc | apply pw_below_drewN | apply below_drew1 | refine below_set ?_ GE328.out) | exact HB.out)⟩⟩
                                  rw [if_pos c65] at H
                                  have c65b0 : decide (x146_8 < ((rd_L4 l0_4 x122_6).length : Int)) = true := decide_eq_true c65
                                  clear c65
                                  by_cases c66 : 0 ≤ x146_8
                                  rotate_left
                                  · rw [if_neg c66] at H
                                    exact absurd H (by simp)
                                  rw [if_pos c66] at H
                                  have c66b0 : decide (0 ≤ x146_8) = true := decide_eq_true c66
                                  clear c66
                                  by_cases c67 : x146_8 < ((rd_L4 l0_4 x122_6).length : Int)
                                  rotate_left
                                  · rw [if_neg c67] at H
                                    exact absurd H (by simp)
                                  rw [if_pos c67] at H
                                  have c67b0 : decide (x146_8 < ((rd_L4 l0_4 x122_6).length : Int)) = true := decide_eq_true c67
                                  clear c67
                                  by_cases c68 : ((rd_T44 (rd_L4 l0_4 x122_6) x146_8).f0) < (-4096)
                                  · rw [if_pos c68] at H
                                    have c68b0 : decide (((rd_T44 (rd_L4 l0_4 x122_6) x146_8).f0) < (-4096)) = true := decide_eq_true c68
                                    clear c68
                                    obtain rfl := Option.some.inj H
                                    have p334 : 0 ≤ (x146_8 : Int) := of_decide_eq_true (by first | (with_reducible assumption) | assumption)
                                    have q334 : x146_8 < ((rd_L4 l0_4 x122_6).length : Int) := of_decide_eq_true (by first | (with_reducible assumption) | assumption)
                                    obtain ⟨ad334, e334, hx334_0, hx334_1⟩ := at_T44 HR333_0.out x146_8 p334 q334
                                    cases e334
                                    replace hx334_0 := (HB.out.cell (World.block_lt_of_cell? w _ hx334_0)).trans hx334_0
                                    replace hx334_1 := (HB.out.cell (World.block_lt_of_cell? w _ hx334_1)).trans hx334_1
                                    replace p334 := eq_true p334
                                    replace q334 := eq_true q334
                                    go_wp2_with (first | ((with_reducible refine gate_dst (N := 9) rfl ?_); (try (refine gate_guard (by rfl) ?_; dsimp only)); refine box_event ?hg (N := 9) ?hd (cs := #[.int .i64 0, .int .i64 0]) (t := 44) ?hr ?_; (case hd => rfl); (case hg => rfl); (case hr => first | (go_simp; done) | (go_simp; rfl)); intro gb335 hg w69 hbox hb; have BK335 := Aside0.mk (hbox); have GW335 := Aside0.mk ((by rw [hg]; exact (below_size (by repeat (first | (with_reducible first | exact HB.out | apply below_alloc | apply pw_below_drewN | apply below_drew1 | refine below_set ?_ GE328.out) | exact HB.out))) : w.heap.size ≤ gb335)); have GE335 := Aside0.mk ((by rw [hg]; exact (below_size (by repeat (first | (with_reducible first | exact HB.out | apply below_alloc | apply pw_below_drewN | apply below_drew1 | refine below_set ?_ GE328.out) | exact HB.out))) : w.heap.size ≤ gb335)); have NB328_335 := Aside0.mk ((by rw [hg]; exact Nat.ne_of_lt (blk_lt (g := gb328) (o := .cells #[.int .i64 a0_0, .int .i64 a0_1, .int .i64 a0_2, .int .i64 a0_3, .slice (some ad333) l0_4.length c0_4, .string a0_5] 48 (0, 0)) (by (with_reducible repeat (first | refine blk_drewN ?_ _ | refine blk_drew ?_ | refine blk_alloc ?_ _)); exact BK328.out)) : gb328 ≠ gb335)); have NB335_328 := Aside0.mk ((by rw [hg]; exact Nat.ne_of_gt (blk_lt (g := gb328) (o := .cells #[.int .i64 a0_0, .int .i64 a0_1, .int .i64 a0_2, .int .i64 a0_3, .slice (some ad333) l0_4.length c0_4, .string a0_5] 48 (0, 0)) (by (with_reducible repeat (first | refine blk_drewN ?_ _ | refine blk_drew ?_ | refine blk_alloc ?_ _)); exact BK328.out)) : gb335 ≠ gb328)); replace BK328 := Aside0.mk (blk_below (g := gb328) (o := .cells #[.int .i64 a0_0, .int .i64 a0_1, .int .i64 a0_2, .int .i64 a0_3, .slice (some ad333) l0_4.length c0_4, .string a0_5] 48 (0, 0)) (by (with_reducible repeat (first | refine blk_drewN ?_ _ | refine blk_drew ?_ | refine blk_alloc ?_ _)); exact BK328.out) hb); replace HB := Aside0.mk (below_step (by repeat (first | (with_reducible first | exact HB.out | apply below_alloc | apply pw_below_drewN | apply below_drew1 | refine below_set ?_ GE328.out) | exact HB.out)) hb); clear hb hbox hg; have hnb70 := NB335_328.out; have hnc70 := NB328_335.out; have hcz71_0 : w69.cell? ⟨gb335, 0, none⟩ = some (.int .i64 0) := (blk_cell BK335.out 0).trans rfl; have hcz71_1 : w69.cell? ⟨gb335, 1, none⟩ = some (.int .i64 0) := (blk_cell BK335.out 1).trans rfl; have hfz71_0 := blk_frozen BK335.out 0; have hfz71_1 := blk_frozen BK335.out 1))
                                    go_ret
                                    exact ⟨by first | rfl | (simp [errW_none, errW_some] <;> rfl) | (simp [*, errW_none, errW_some] <;> rfl), by repeat (first | (with_reducible first | exact HB.out | apply below_alloc | apply pw_below_drewN | apply below_drew1 | refine below_set ?_ GE328.out | refine below_set ?_ GE335.out) | exact HB.out)⟩
                                  rw [if_neg c68] at H
                                  have c68b0 : decide (((rd_T44 (rd_L4 l0_4 x122_6) x146_8).f0) < (-4096)) = false := decide_eq_false c68
                                  clear c68
                                  by_cases c72 : ((rd_T44 (rd_L4 l0_4 x122_6) x146_8).f0) > 4096
                                  · rw [if_pos c72] at H
                                    have c72b0 : decide (4096 < ((rd_T44 (rd_L4 l0_4 x122_6) x146_8).f0)) = true := decide_eq_true c72
                                    clear c72
                                    obtain rfl := Option.some.inj H
                                    have p334 : 0 ≤ (x146_8 : Int) := of_decide_eq_true (by first | (with_reducible assumption) | assumption)
                                    have q334 : x146_8 < ((rd_L4 l0_4 x122_6).length : Int) := of_decide_eq_true (by first | (with_reducible assumption) | assumption)
                                    obtain ⟨ad334, e334, hx334_0, hx334_1⟩ := at_T44 HR333_0.out x146_8 p334 q334
                                    cases e334
                                    replace hx334_0 := (HB.out.cell (World.block_lt_of_cell? w _ hx334_0)).trans hx334_0
                                    replace hx334_1 := (HB.out.cell (World.block_lt_of_cell? w _ hx334_1)).trans hx334_1
                                    replace p334 := eq_true p334
                                    replace q334 := eq_true q334
                                    go_wp2_with (first | ((with_reducible refine gate_dst (N := 9) rfl ?_); (try (refine gate_guard (by rfl) ?_; dsimp only)); refine box_event ?hg (N := 9) ?hd (cs := #[.int .i64 0, .int .i64 0]) (t := 44) ?hr ?_; (case hd => rfl); (case hg => rfl); (case hr => first | (go_simp; done) | (go_simp; rfl)); intro gb335 hg w73 hbox hb; have BK335 := Aside0.mk (hbox); have GW335 := Aside0.mk ((by rw [hg]; exact (below_size (by repeat (first | (with_reducible first | exact HB.out | apply below_alloc | apply pw_below_drewN | apply below_drew1 | refine below_set ?_ GE328.out) | exact HB.out))) : w.heap.size ≤ gb335)); have GE335 := Aside0.mk ((by rw [hg]; exact (below_size (by repeat (first | (with_reducible first | exact HB.out | apply below_alloc | apply pw_below_drewN | apply below_drew1 | refine below_set ?_ GE328.out) | exact HB.out))) : w.heap.size ≤ gb335)); have NB328_335 := Aside0.mk ((by rw [hg]; exact Nat.ne_of_lt (blk_lt (g := gb328) (o := .cells #[.int .i64 a0_0, .int .i64 a0_1, .int .i64 a0_2, .int .i64 a0_3, .slice (some ad333) l0_4.length c0_4, .string a0_5] 48 (0, 0)) (by (with_reducible repeat (first | refine blk_drewN ?_ _ | refine blk_drew ?_ | refine blk_alloc ?_ _)); exact BK328.out)) : gb328 ≠ gb335)); have NB335_328 := Aside0.mk ((by rw [hg]; exact Nat.ne_of_gt (blk_lt (g := gb328) (o := .cells #[.int .i64 a0_0, .int .i64 a0_1, .int .i64 a0_2, .int .i64 a0_3, .slice (some ad333) l0_4.length c0_4, .string a0_5] 48 (0, 0)) (by (with_reducible repeat (first | refine blk_drewN ?_ _ | refine blk_drew ?_ | refine blk_alloc ?_ _)); exact BK328.out)) : gb335 ≠ gb328)); replace BK328 := Aside0.mk (blk_below (g := gb328) (o := .cells #[.int .i64 a0_0, .int .i64 a0_1, .int .i64 a0_2, .int .i64 a0_3, .slice (some ad333) l0_4.length c0_4, .string a0_5] 48 (0, 0)) (by (with_reducible repeat (first | refine blk_drewN ?_ _ | refine blk_drew ?_ | refine blk_alloc ?_ _)); exact BK328.out) hb); replace HB := Aside0.mk (below_step (by repeat (first | (with_reducible first | exact HB.out | apply below_alloc | apply pw_below_drewN | apply below_drew1 | refine below_set ?_ GE328.out) | exact HB.out)) hb); clear hb hbox hg; have hnb74 := NB335_328.out; have hnc74 := NB328_335.out; have hcz75_0 : w73.cell? ⟨gb335, 0, none⟩ = some (.int .i64 0) := (blk_cell BK335.out 0).trans rfl; have hcz75_1 : w73.cell? ⟨gb335, 1, none⟩ = some (.int .i64 0) := (blk_cell BK335.out 1).trans rfl; have hfz75_0 := blk_frozen BK335.out 0; have hfz75_1 := blk_frozen BK335.out 1))
                                    go_ret
                                    exact ⟨by first | rfl | (simp [errW_none, errW_some] <;> rfl) | (simp [*, errW_none, errW_some] <;> rfl), by repeat (first | (with_reducible first | exact HB.out | apply below_alloc | apply pw_below_drewN | apply below_drew1 | refine below_set ?_ GE328.out | refine below_set ?_ GE335.out) | exact HB.out)⟩
                                  rw [if_neg c72] at H
                                  have c72b0 : decide (4096 < ((rd_T44 (rd_L4 l0_4 x122_6) x146_8).f0)) = false := decide_eq_false c72
                                  clear c72
                                  by_cases c76 : ((rd_T44 (rd_L4 l0_4 x122_6) x146_8).f1) < (-4096)
                                  · rw [if_pos c76] at H
                                    have c76b0 : decide (((rd_T44 (rd_L4 l0_4 x122_6) x146_8).f1) < (-4096)) = true := decide_eq_true c76
                                    clear c76
                                    obtain rfl := Option.some.inj H
                                    have p334 : 0 ≤ (x146_8 : Int) := of_decide_eq_true (by first | (with_reducible assumption) | assumption)
                                    have q334 : x146_8 < ((rd_L4 l0_4 x122_6).length : Int) := of_decide_eq_true (by first | (with_reducible assumption) | assumption)
                                    obtain ⟨ad334, e334, hx334_0, hx334_1⟩ := at_T44 HR333_0.out x146_8 p334 q334
                                    cases e334
                                    replace hx334_0 := (HB.out.cell (World.block_lt_of_cell? w _ hx334_0)).trans hx334_0
                                    replace hx334_1 := (HB.out.cell (World.block_lt_of_cell? w _ hx334_1)).trans hx334_1
                                    replace p334 := eq_true p334
                                    replace q334 := eq_true q334
                                    go_wp2_with (first | ((with_reducible refine gate_dst (N := 9) rfl ?_); (try (refine gate_guard (by rfl) ?_; dsimp only)); refine box_event ?hg (N := 9) ?hd (cs := #[.int .i64 0, .int .i64 0]) (t := 44) ?hr ?_; (case hd => rfl); (case hg => rfl); (case hr => first | (go_simp; done) | (go_simp; rfl)); intro gb335 hg w77 hbox hb; have BK335 := Aside0.mk (hbox); have GW335 := Aside0.mk ((by rw [hg]; exact (below_size (by repeat (first | (with_reducible first | exact HB.out | apply below_alloc | apply pw_below_drewN | apply below_drew1 | refine below_set ?_ GE328.out) | exact HB.out))) : w.heap.size ≤ gb335)); have GE335 := Aside0.mk ((by rw [hg]; exact (below_size (by repeat (first | (with_reducible first | exact HB.out | apply below_alloc | apply pw_below_drewN | apply below_drew1 | refine below_set ?_ GE328.out) | exact HB.out))) : w.heap.size ≤ gb335)); have NB328_335 := Aside0.mk ((by rw [hg]; exact Nat.ne_of_lt (blk_lt (g := gb328) (o := .cells #[.int .i64 a0_0, .int .i64 a0_1, .int .i64 a0_2, .int .i64 a0_3, .slice (some ad333) l0_4.length c0_4, .string a0_5] 48 (0, 0)) (by (with_reducible repeat (first | refine blk_drewN ?_ _ | refine blk_drew ?_ | refine blk_alloc ?_ _)); exact BK328.out)) : gb328 ≠ gb335)); have NB335_328 := Aside0.mk ((by rw [hg]; exact Nat.ne_of_gt (blk_lt (g := gb328) (o := .cells #[.int .i64 a0_0, .int .i64 a0_1, .int .i64 a0_2, .int .i64 a0_3, .slice (some ad333) l0_4.length c0_4, .string a0_5] 48 (0, 0)) (by (with_reducible repeat (first | refine blk_drewN ?_ _ | refine blk_drew ?_ | refine blk_alloc ?_ _)); exact BK328.out)) : gb335 ≠ gb328)); replace BK328 := Aside0.mk (blk_below (g := gb328) (o := .cells #[.int .i64 a0_0, .int .i64 a0_1, .int .i64 a0_2, .int .i64 a0_3, .slice (some ad333) l0_4.length c0_4, .string a0_5] 48 (0, 0)) (by (with_reducible repeat (first | refine blk_drewN ?_ _ | refine blk_drew ?_ | refine blk_alloc ?_ _)); exact BK328.out) hb); replace HB := Aside0.mk (below_step (by repeat (first | (with_reducible first | exact HB.out | apply below_alloc | apply pw_below_drewN | apply below_drew1 | refine below_set ?_ GE328.out) | exact HB.out)) hb); clear hb hbox hg; have hnb78 := NB335_328.out; have hnc78 := NB328_335.out; have hcz79_0 : w77.cell? ⟨gb335, 0, none⟩ = some (.int .i64 0) := (blk_cell BK335.out 0).trans rfl; have hcz79_1 : w77.cell? ⟨gb335, 1, none⟩ = some (.int .i64 0) := (blk_cell BK335.out 1).trans rfl; have hfz79_0 := blk_frozen BK335.out 0; have hfz79_1 := blk_frozen BK335.out 1))
                                    go_ret
                                    exact ⟨by first | rfl | (simp [errW_none, errW_some] <;> rfl) | (simp [*, errW_none, errW_some] <;> rfl), by repeat (first | (with_reducible first | exact HB.out | apply below_alloc | apply pw_below_drewN | apply below_drew1 | refine below_set ?_ GE328.out | refine below_set ?_ GE335.out) | exact HB.out)⟩
                                  rw [if_neg c76] at H
                                  have c76b0 : decide (((rd_T44 (rd_L4 l0_4 x122_6) x146_8).f1) < (-4096)) = false := decide_eq_false c76
                                  clear c76
                                  by_cases c80 : ((rd_T44 (rd_L4 l0_4 x122_6) x146_8).f1) > 4096
                                  · rw [if_pos c80] at H
                                    have c80b0 : decide (4096 < ((rd_T44 (rd_L4 l0_4 x122_6) x146_8).f1)) = true := decide_eq_true c80
                                    clear c80
                                    obtain rfl := Option.some.inj H
                                    have p334 : 0 ≤ (x146_8 : Int) := of_decide_eq_true (by first | (with_reducible assumption) | assumption)
                                    have q334 : x146_8 < ((rd_L4 l0_4 x122_6).length : Int) := of_decide_eq_true (by first | (with_reducible assumption) | assumption)
                                    obtain ⟨ad334, e334, hx334_0, hx334_1⟩ := at_T44 HR333_0.out x146_8 p334 q334
                                    cases e334
                                    replace hx334_0 := (HB.out.cell (World.block_lt_of_cell? w _ hx334_0)).trans hx334_0
                                    replace hx334_1 := (HB.out.cell (World.block_lt_of_cell? w _ hx334_1)).trans hx334_1
                                    replace p334 := eq_true p334
                                    replace q334 := eq_true q334
                                    go_wp2_with (first | ((with_reducible refine gate_dst (N := 9) rfl ?_); (try (refine gate_guard (by rfl) ?_; dsimp only)); refine box_event ?hg (N := 9) ?hd (cs := #[.int .i64 0, .int .i64 0]) (t := 44) ?hr ?_; (case hd => rfl); (case hg => rfl); (case hr => first | (go_simp; done) | (go_simp; rfl)); intro gb335 hg w81 hbox hb; have BK335 := Aside0.mk (hbox); have GW335 := Aside0.mk ((by rw [hg]; exact (below_size (by repeat (first | (with_reducible first | exact HB.out | apply below_alloc | apply pw_below_drewN | apply below_drew1 | refine below_set ?_ GE328.out) | exact HB.out))) : w.heap.size ≤ gb335)); have GE335 := Aside0.mk ((by rw [hg]; exact (below_size (by repeat (first | (with_reducible first | exact HB.out | apply below_alloc | apply pw_below_drewN | apply below_drew1 | refine below_set ?_ GE328.out) | exact HB.out))) : w.heap.size ≤ gb335)); have NB328_335 := Aside0.mk ((by rw [hg]; exact Nat.ne_of_lt (blk_lt (g := gb328) (o := .cells #[.int .i64 a0_0, .int .i64 a0_1, .int .i64 a0_2, .int .i64 a0_3, .slice (some ad333) l0_4.length c0_4, .string a0_5] 48 (0, 0)) (by (with_reducible repeat (first | refine blk_drewN ?_ _ | refine blk_drew ?_ | refine blk_alloc ?_ _)); exact BK328.out)) : gb328 ≠ gb335)); have NB335_328 := Aside0.mk ((by rw [hg]; exact Nat.ne_of_gt (blk_lt (g := gb328) (o := .cells #[.int .i64 a0_0, .int .i64 a0_1, .int .i64 a0_2, .int .i64 a0_3, .slice (some ad333) l0_4.length c0_4, .string a0_5] 48 (0, 0)) (by (with_reducible repeat (first | refine blk_drewN ?_ _ | refine blk_drew ?_ | refine blk_alloc ?_ _)); exact BK328.out)) : gb335 ≠ gb328)); replace BK328 := Aside0.mk (blk_below (g := gb328) (o := .cells #[.int .i64 a0_0, .int .i64 a0_1, .int .i64 a0_2, .int .i64 a0_3, .slice (some ad333) l0_4.length c0_4, .string a0_5] 48 (0, 0)) (by (with_reducible repeat (first | refine blk_drewN ?_ _ | refine blk_drew ?_ | refine blk_alloc ?_ _)); exact BK328.out) hb); replace HB := Aside0.mk (below_step (by repeat (first | (with_reducible first | exact HB.out | apply below_alloc | apply pw_below_drewN | apply below_drew1 | refine below_set ?_ GE328.out) | exact HB.out)) hb); clear hb hbox hg; have hnb82 := NB335_328.out; have hnc82 := NB328_335.out; have hcz83_0 : w81.cell? ⟨gb335, 0, none⟩ = some (.int .i64 0) := (blk_cell BK335.out 0).trans rfl; have hcz83_1 : w81.cell? ⟨gb335, 1, none⟩ = some (.int .i64 0) := (blk_cell BK335.out 1).trans rfl; have hfz83_0 := blk_frozen BK335.out 0; have hfz83_1 := blk_frozen BK335.out 1))
                                    go_ret
                                    exact ⟨by first | rfl | (simp [errW_none, errW_some] <;> rfl) | (simp [*, errW_none, errW_some] <;> rfl), by repeat (first | (with_reducible first | exact HB.out | apply below_alloc | apply pw_below_drewN | apply below_drew1 | refine below_set ?_ GE328.out | refine below_set ?_ GE335.out) | exact HB.out)⟩
                                  rw [if_neg c80] at H
                                  have c80b0 : decide (4096 < ((rd_T44 (rd_L4 l0_4 x122_6) x146_8).f1)) = false := decide_eq_false c80
                                  clear c80
                                  have H' := Aside0.mk H
                                  clear H
                                  have p334 : 0 ≤ (x146_8 : Int) := of_decide_eq_true (by first | (with_reducible assumption) | assumption)
                                  have q334 : x146_8 < ((rd_L4 l0_4 x122_6).length : Int) := of_decide_eq_true (by first | (with_reducible assumption) | assumption)
                                  obtain ⟨ad334, e334, hx334_0, hx334_1⟩ := at_T44 HR333_0.out x146_8 p334 q334
                                  cases e334
                                  replace hx334_0 := (HB.out.cell (World.block_lt_of_cell? w _ hx334_0)).trans hx334_0
                                  replace hx334_1 := (HB.out.cell (World.block_lt_of_cell? w _ hx334_1)).trans hx334_1
                                  replace p334 := eq_true p334
                                  replace q334 := eq_true q334
                                  go_wp2_with (first | ((with_reducible refine gate_dst (N := 9) rfl ?_); (try (refine gate_guard (by rfl) ?_; dsimp only)); refine box_event ?hg (N := 9) ?hd (cs := #[.int .i64 0, .int .i64 0]) (t := 44) ?hr ?_; (case hd => rfl); (case hg => rfl); (case hr => first | (go_simp; done) | (go_simp; rfl)); intro gb335 hg w84 hbox hb; have BK335 := Aside0.mk (hbox); have GW335 := Aside0.mk ((by rw [hg]; exact (below_size (by repeat (first | (with_reducible first | exact HB.out | apply below_alloc | apply pw_below_drewN | apply below_drew1 | refine below_set ?_ GE328.out) | exact HB.out))) : w.heap.size ≤ gb335)); have GE335 := Aside0.mk ((by rw [hg]; exact (below_size (by repeat (first | (with_reducible first | exact HB.out | apply below_alloc | apply pw_below_drewN | apply below_drew1 | refine below_set ?_ GE328.out) | exact HB.out))) : w.heap.size ≤ gb335)); have NB328_335 := Aside0.mk ((by rw [hg]; exact Nat.ne_of_lt (blk_lt (g := gb328) (o := .cells #[.int .i64 a0_0, .int .i64 a0_1, .int .i64 a0_2, .int .i64 a0_3, .slice (some ad333) l0_4.length c0_4, .string a0_5] 48 (0, 0)) (by (with_reducible repeat (first | refine blk_drewN ?_ _ | refine blk_drew ?_ | refine blk_alloc ?_ _)); exact BK328.out)) : gb328 ≠ gb335)); have NB335_328 := Aside0.mk ((by rw [hg]; exact Nat.ne_of_gt (blk_lt (g := gb328) (o := .cells #[.int .i64 a0_0, .int .i64 a0_1, .int .i64 a0_2, .int .i64 a0_3, .slice (some ad333) l0_4.length c0_4, .string a0_5] 48 (0, 0)) (by (with_reducible repeat (first | refine blk_drewN ?_ _ | refine blk_drew ?_ | refine blk_alloc ?_ _)); exact BK328.out)) : gb335 ≠ gb328)); replace BK328 := Aside0.mk (blk_below (g := gb328) (o := .cells #[.int .i64 a0_0, .int .i64 a0_1, .int .i64 a0_2, .int .i64 a0_3, .slice (some ad333) l0_4.length c0_4, .string a0_5] 48 (0, 0)) (by (with_reducible repeat (first | refine blk_drewN ?_ _ | refine blk_drew ?_ | refine blk_alloc ?_ _)); exact BK328.out) hb); replace HB := Aside0.mk (below_step (by repeat (first | (with_reducible first | exact HB.out | apply below_alloc | apply pw_below_drewN | apply below_drew1 | refine below_set ?_ GE328.out) | exact HB.out)) hb); clear hb hbox hg; have hnb85 := NB335_328.out; have hnc85 := NB328_335.out; have hcz86_0 : w84.cell? ⟨gb335, 0, none⟩ = some (.int .i64 0) := (blk_cell BK335.out 0).trans rfl; have hcz86_1 : w84.cell? ⟨gb335, 1, none⟩ = some (.int .i64 0) := (blk_cell BK335.out 1).trans rfl; have hfz86_0 := blk_frozen BK335.out 0; have hfz86_1 := blk_frozen BK335.out 1))
                                  go_roundg k8
                                  case measure => have := HJ1.out; have := HJ11.out; have := HJ24.out; have := HK4.out; have := HJ40.out; have := HK6.out; have := HJ59.out; have := HK8.out; omega
                                  case rel => exact ⟨(wrap64 (x146_8 + 1)), (by first | rfl | (simp; done) | (simp [*]; done)), H', ⟨by have := HJ1.out; have := HJ11.out; have := HJ24.out; have := HK4.out; have := HJ40.out; have := HK6.out; have := HJ59.out; have := HK8.out; omega⟩, ⟨by (with_reducible repeat (first | refine blk_drewN ?_ _ | refine blk_drew ?_ | refine blk_alloc ?_ _)); refine blk_far ?_ NB328_335.out _; (with_reducible repeat (first | refine blk_drewN ?_ _ | refine blk_drew ?_ | refine blk_alloc ?_ _)); refine blk_far ?_ NB328_335.out _; (with_reducible repeat (first | refine blk_drewN ?_ _ | refine blk_drew ?_ | refine blk_alloc ?_ _)); exact BK328.out⟩, ⟨by repeat (first | (with_reducible first | exact HB.out | apply below_alloc | apply pw_below_drewN | apply below_drew1 | refine below_set ?_ GE328.out | refine below_set ?_ GE335.out) | exact HB.out)⟩⟩
end Go.Proofs.Ytjgoehhhjffpmaa.Q

