/- What the Go function terrref5_Unpacked comes to, and its contract. Condition: its printed twin gives an answer. -/
import Derived.Test.YtjgoehhhjffpmaaZrQf19
import Derived.Test.YtjgoehhhjffpmaaZrQf12
import Derived.Test.YtjgoehhhjffpmaaZrQf32
import Derived.Test.YtjgoehhhjffpmaaZrQf31
import Derived.Test.YtjgoehhhjffpmaaZrQf50
namespace Go.Proofs.Ytjgoehhhjffpmaa.Q
open Go.RowKit Go.Proofs.YtjgoehhhjffpmaaW.PrintWords Go.Proofs.YtjgoehhhjffpmaaW.PrintLast Go.Proofs.YtjgoehhhjffpmaaW.PrintMore
attribute [local go_sem] max2_int min2_int max_two min_two max_three min_three max_four min_four
set_option linter.unusedVariables false
set_option linter.unusedSimpArgs false
/-- The first five bytes of a row. -/
theorem five_ {w : World} {A : Option Addr} {xs : List Int} (h : Kd.C (Kd.int .u8) w A xs.length xs) (hl : 4 < xs.length) : ∃ ad, A = some ad ∧ w.cell? ad = some (.int .u8 (rd xs 0)) ∧ w.cell? ⟨ad.block, ad.off + 1, none⟩ = some (.int .u8 (rd xs 1)) ∧ w.cell? ⟨ad.block, ad.off + 2, none⟩ = some (.int .u8 (rd xs 2)) ∧ w.cell? ⟨ad.block, ad.off + 3, none⟩ = some (.int .u8 (rd xs 3)) ∧ w.cell? ⟨ad.block, ad.off + 4, none⟩ = some (.int .u8 (rd xs 4)) := by
  obtain ⟨ad, rfl, h0⟩ := Kd.at_int h 0 (by omega) (by omega)
  obtain ⟨a1, e1, h1⟩ := Kd.at_int h 1 (by omega) (by omega)
  obtain ⟨a2, e2, h2⟩ := Kd.at_int h 2 (by omega) (by omega)
  obtain ⟨a3, e3, h3⟩ := Kd.at_int h 3 (by omega) (by omega)
  obtain ⟨a4, e4, h4⟩ := Kd.at_int h 4 (by omega) (by omega)
  cases e1
  cases e2
  cases e3
  cases e4
  exact ⟨ad, rfl, h0, h1, h2, h3, h4⟩
/-- A struct of six cells, stored whole. -/
theorem six_ {W : World} {g t : Nat} {z0 z1 z2 z3 z4 z5 a b c d e f : Value} (h : W.heap[g]? = some (.cells #[z0, z1, z2, z3, z4, z5] t (0, 0))) :
    ((((((W.setCell ⟨g, 0, none⟩ a).setCell ⟨g, 1, none⟩ b).setCell ⟨g, 2, none⟩ c).setCell ⟨g, 3, none⟩ d).setCell ⟨g, 4, none⟩ e).setCell ⟨g, 5, none⟩ f).heap[g]? = some (.cells #[a, b, c, d, e, f] t (0, 0)) :=
  blk_put (blk_put (blk_put (blk_put (blk_put (blk_put h 0 a rfl) 1 b rfl) 2 c rfl) 3 d rfl) 4 e rfl) 5 f rfl
theorem cell_old {w W : World} (hb : Below w.heap.size w W) {a : Addr} {v : Value} (h : w.cell? a = some v) : W.cell? a = some v := (hb.cell (World.block_lt_of_cell? w _ h)).trans h
/-! ### terrref5_Unpacked: function 36 -/
mutual
def terrref5_Unpacked.j0 : Nat → Int → List Int → Bool → Option ((List (S48)) × Int)
  | 0, _, _, _ => none
  | k + 1, x4, x5, x57 => if x57 = true then (some (([] : List (S48)), 2)) else (terrref5_Unpacked.l0 k x4 x5 ([] : List (S48)))
def terrref5_Unpacked.l0 : Nat → Int → List Int → List (S48) → Option ((List (S48)) × Int)
  | 0, _, _, _ => none
  | k + 1, x4, x5, x7 => if x4 > 0 then (if (x5.length : Int) < 5 then (terrref5_Unpacked.j2 k x4 x5 x7 true) else (if 4 < (x5.length : Int) then (terrref5_Unpacked.j2 k x4 x5 x7 (decide ((wrap64 ((x5.length : Int) - 5)) < (wrap64 (rd x5 4))))) else (none))) else (if (x5.length : Int) = 0 then ((terrref5_DrawsFault.f k x7).bind fun t383 => (if t383 = 0 then (some (x7, 0)) else (some (([] : List (S48)), t383)))) else (some (([] : List (S48)), 3)))
def terrref5_Unpacked.j2 : Nat → Int → List Int → List (S48) → Bool → Option ((List (S48)) × Int)
  | 0, _, _, _, _ => none
  | k + 1, x4, x5, x7, x74 => if x74 = true then (some (([] : List (S48)), 14)) else (if 0 < (x5.length : Int) then (if 1 < (x5.length : Int) then (if 2 < (x5.length : Int) then (if 3 < (x5.length : Int) then (if 4 < (x5.length : Int) then (if 5 ≤ (wrap64 (5 + (wrap64 (rd x5 4)))) then (if (wrap64 (5 + (wrap64 (rd x5 4)))) ≤ (x5.length : Int) then (if 0 ≤ (wrap64 (5 + (wrap64 (rd x5 4)))) then ((terrref5_ListsOf.f k (x5.drop ((wrap64 (5 + (wrap64 (rd x5 4)))) : Int).toNat)).bind fun bt373 => (if bt373.2.2 = 0 then (if x7.length < 1954687338268 then (terrref5_Unpacked.l0 k (wrap64 (x4 - 1)) bt373.2.1 (x7 ++ [(⟨wrap64 (rd x5 0), wrap64 (rd x5 1), wrap64 (rd x5 2), wrap64 (rd x5 3), bt373.1, strOfNums ((x5.take ((wrap64 (5 + (wrap64 (rd x5 4)))) : Int).toNat).drop 5)⟩ : S48)])) else (none)) else (some (([] : List (S48)), bt373.2.2)))) else (none)) else (none)) else (none)) else (none)) else (none)) else (none)) else (none)) else (none))
end
def terrref5_Unpacked.f (k : Nat) (l0 : List Int) : Option ((List (S48)) × Int) := if (l0.length : Int) > 65536 then (some (([] : List (S48)), 2)) else (if (l0.length : Int) < 8 then (some (([] : List (S48)), 14)) else (if 3 ≤ (l0.length : Int) then (if (strOfNums (l0.take 3)).toList = ([77, 84, 49] : List UInt8) then (if 0 ≤ (wrap64 ((l0.length : Int) - 4)) then (if (wrap64 ((l0.length : Int) - 4)) ≤ (l0.length : Int) then ((terrref5_Adler.f k (l0.take ((wrap64 ((l0.length : Int) - 4)) : Int).toNat)).bind fun t347 => ((terrref5_Four.f t347).bind fun t348 => (if (strOfNums t348).toList = (strOfNums (l0.drop ((wrap64 ((l0.length : Int) - 4)) : Int).toNat)).toList then (if 3 ≤ (wrap64 ((l0.length : Int) - 4)) then ((terrref5_Number.f k ((l0.take ((wrap64 ((l0.length : Int) - 4)) : Int).toNat).drop 3)).bind fun bt353 => (if bt353.2.2 = 0 then (if bt353.1 < 0 then (terrref5_Unpacked.j0 k bt353.1 bt353.2.1 true) else (terrref5_Unpacked.j0 k bt353.1 bt353.2.1 (decide (bt353.1 > 500)))) else (some (([] : List (S48)), bt353.2.2)))) else (none)) else (some (([] : List (S48)), 13))))) else (none)) else (none)) else (some (([] : List (S48)), 3))) else (none)))
def terrref5_Unpacked.T7 : Bool × List (List Nat × List Nat) := (true, [([], []), ([], []), ([1], [1]), ([2], [2]), ([0, 3], [0, 3]), ([4], [4]), ([5, 5], [5]), ([6], [6]), ([], []), ([], []), ([9], [9]), ([10], [10]), ([8, 11], [8, 11]), ([12], [12]), ([7, 13], [7, 13]), ([14, 6], [14])])
def terrref5_Unpacked.B7 : List Nat := [0, 0, 2, 6, 15, 31, 63, 127, 0, 0, 512, 1536, 3840, 7936, 16383, 32767]
theorem terrref5_Unpacked.tab7 : rtab .any (opsOf Try.f36 7) = terrref5_Unpacked.T7 := by kernel_rfl
theorem terrref5_Unpacked.bits7 : waitsOk terrref5_Unpacked.T7.2 terrref5_Unpacked.B7 = true := by kernel_rfl
def terrref5_Unpacked.T19 : Bool × List (List Nat × List Nat) := (true, [([], []), ([0], [0]), ([1], [1]), ([2], [2]), ([], []), ([4], [4]), ([5], [5]), ([6], [6]), ([], []), ([8], [8]), ([9], [9]), ([10], [10]), ([], []), ([12], [12]), ([13], [13]), ([14], [14]), ([3, 7, 11, 15], [3, 7, 11, 15]), ([], []), ([17, 16, 0, 1, 2, 3, 4, 5, 6, 7, 8, 9, 10, 11, 12, 13, 14, 15, 16, 17], [16, 17])])
def terrref5_Unpacked.B19 : List Nat := [0, 1, 3, 7, 0, 16, 48, 112, 0, 256, 768, 1792, 0, 4096, 12288, 28672, 65535, 0, 262143]
theorem terrref5_Unpacked.tab19 : rtab .any (opsOf Try.f36 19) = terrref5_Unpacked.T19 := by kernel_rfl
theorem terrref5_Unpacked.bits19 : waitsOk terrref5_Unpacked.T19.2 terrref5_Unpacked.B19 = true := by kernel_rfl
set_option maxHeartbeats 8000000 in
set_option maxRecDepth 100000 in
theorem terrref5_Unpacked.calls (k : Nat) (A0 : Option Addr) (c0 : Nat) (l0 : List Int) (r1 : List (S48)) (r2 : Int) (w : World) (hr0 : Kd.C (Kd.int .u8) w A0 l0.length l0) (hc0 : l0.length ≤ c0) (h : terrref5_Unpacked.f k l0 = some (r1, r2)) :
    Calls Try.prog 36 #[.slice A0 l0.length c0] w fun e w' => ∃ v0_ : Value, e = .returned (.tuple #[v0_, .int .i64 r2]) ∧ Kd.R k48 48 w' w.heap.size (fun _ => True) v0_ r1 ∧ Below w.heap.size w w' := by
  have hu48 := Try.underlying48
  have HR0 := Aside0.mk hr0
  have HC0 := Aside0.mk hc0
  clear hr0 hc0
  have HB := Aside0.mk (Below.refl w.heap.size w)
  have H : (if (l0.length : Int) > 65536 then (some (([] : List (S48)), 2)) else (if (l0.length : Int) < 8 then (some (([] : List (S48)), 14)) else (if 3 ≤ (l0.length : Int) then (if (strOfNums (l0.take 3)).toList = ([77, 84, 49] : List UInt8) then (if 0 ≤ (wrap64 ((l0.length : Int) - 4)) then (if (wrap64 ((l0.length : Int) - 4)) ≤ (l0.length : Int) then ((terrref5_Adler.f k (l0.take ((wrap64 ((l0.length : Int) - 4)) : Int).toNat)).bind fun t347 => ((terrref5_Four.f t347).bind fun t348 => (if (strOfNums t348).toList = (strOfNums (l0.drop ((wrap64 ((l0.length : Int) - 4)) : Int).toNat)).toList then (if 3 ≤ (wrap64 ((l0.length : Int) - 4)) then ((terrref5_Number.f k ((l0.take ((wrap64 ((l0.length : Int) - 4)) : Int).toNat).drop 3)).bind fun bt353 => (if bt353.2.2 = 0 then (if bt353.1 < 0 then (terrref5_Unpacked.j0 k bt353.1 bt353.2.1 true) else (terrref5_Unpacked.j0 k bt353.1 bt353.2.1 (decide (bt353.1 > 500)))) else (some (([] : List (S48)), bt353.2.2)))) else (none)) else (some (([] : List (S48)), 13))))) else (none)) else (none)) else (some (([] : List (S48)), 3))) else (none)))) = some (r1, r2) := h
  clear h
  by_cases c2 : (l0.length : Int) > 65536
  · rw [if_pos c2] at H
    have c2b0 : decide (65536 < (l0.length : Int)) = true := decide_eq_true c2
    have c2b1 : decide (65536 < l0.length) = true := decide_eq_true (by omega)
    clear c2
    simp only [Option.some.injEq, Prod.mk.injEq] at H
    obtain ⟨rfl, rfl⟩ := H
    go_enter Try.func36, Try.ntmps36
    go_wp2
    go_ret2
    exact ⟨_, by first | rfl | (simp [errW_none, errW_some] <;> rfl) | (simp [*, errW_none, errW_some] <;> rfl), by first | exact Kd.R_nil _ _ _ _ _ | exact Kd.N_nil _ _ _ _ _ | exact Kd.V_nil _ _ _ _ _ | exact Kd.Q_nil _ _ _ _ _ | exact Kd.S_nil _ _ _ _ _, by repeat (first | (with_reducible first | exact HB.out | apply below_alloc | apply pw_below_drewN | apply below_drew1) | exact HB.out)⟩
  rw [if_neg c2] at H
  have c2b0 : decide (65536 < (l0.length : Int)) = false := decide_eq_false c2
  have c2b1 : decide (65536 < l0.length) = false := decide_eq_false (by omega)
  clear c2
  by_cases c3 : (l0.length : Int) < 8
  · rw [if_pos c3] at H
    have c3b0 : decide ((l0.length : Int) < 8) = true := decide_eq_true c3
    have c3b1 : decide (l0.length < 8) = true := decide_eq_true (by omega)
    clear c3
    simp only [Option.some.injEq, Prod.mk.injEq] at H
    obtain ⟨rfl, rfl⟩ := H
    go_enter Try.func36, Try.ntmps36
    go_wp2
    go_ret2
    exact ⟨_, by first | rfl | (simp [errW_none, errW_some] <;> rfl) | (simp [*, errW_none, errW_some] <;> rfl), by first | exact Kd.R_nil _ _ _ _ _ | exact Kd.N_nil _ _ _ _ _ | exact Kd.V_nil _ _ _ _ _ | exact Kd.Q_nil _ _ _ _ _ | exact Kd.S_nil _ _ _ _ _, by repeat (first | (with_reducible first | exact HB.out | apply below_alloc | apply pw_below_drewN | apply below_drew1) | exact HB.out)⟩
  rw [if_neg c3] at H
  have c3b0 : decide ((l0.length : Int) < 8) = false := decide_eq_false c3
  have c3b1 : decide (l0.length < 8) = false := decide_eq_false (by omega)
  clear c3
  by_cases c4 : 3 ≤ (l0.length : Int)
  rotate_left
  · rw [if_neg c4] at H
    exact absurd H (by simp)
  rw [if_pos c4] at H
  have c4b0 := eq_true c4
  have c4b1 : decide (3 ≤ (l0.length : Int)) = true := decide_eq_true c4
  clear c4
  by_cases c5 : (strOfNums (l0.take 3)).toList = ([77, 84, 49] : List UInt8)
  rotate_left
  · rw [if_neg c5] at H
    have c5b0 : ((strOfNums (l0.take 3)).toList == ([77, 84, 49] : List UInt8)) = false := beq_eq_false_iff_ne.mpr c5
    have c5b1 : ((strOfNums (l0.take 3)).toList != ([77, 84, 49] : List UInt8)) = true := bne_iff_ne.mpr c5
    simp only [Option.some.injEq, Prod.mk.injEq] at H
    obtain ⟨rfl, rfl⟩ := H
    obtain ⟨i088, hi088, _, hsz88, _⟩ := info_parts info5
    obtain ⟨hcut88, hA88, hC88⟩ := print_take_of (P := Try.prog) (Value.int .u8) 0 22 5 .i64 Try.underlying22 hi088 hsz88 A0 c0 l0 3 (by omega) (of_decide_eq_true (by first | (with_reducible assumption) | assumption)) HC0.out
    have HR345 := Aside0.mk (Kd.C_of_reads (h1 := fun _ => rfl) (hA88 _ (Kd.reads_of_C HR0.out)))
    have HC345 := Aside0.mk hC88
    clear hA88 hC88 hi088 hsz88
    have hcv89 := Kd.C_string (P := Try.prog) (A := A0) (c := c0) Try.underlying22 Try.underlying5 Try.underlying9 HR345.out
    rw [List.length_take, show Int.toNat 3 = 3 from rfl] at hcv89
    go_enter Try.func36, Try.ntmps36
    go_wp2
    go_ret2
    exact ⟨_, by first | rfl | (simp [errW_none, errW_some] <;> rfl) | (simp [*, errW_none, errW_some] <;> rfl), by first | exact Kd.R_nil _ _ _ _ _ | exact Kd.N_nil _ _ _ _ _ | exact Kd.V_nil _ _ _ _ _ | exact Kd.Q_nil _ _ _ _ _ | exact Kd.S_nil _ _ _ _ _, by repeat (first | (with_reducible first | exact HB.out | apply below_alloc | apply pw_below_drewN | apply below_drew1) | exact HB.out)⟩
  rw [if_pos c5] at H
  have c5b0 : ((strOfNums (l0.take 3)).toList == ([77, 84, 49] : List UInt8)) = true := beq_iff_eq.mpr c5
  have c5b1 : ((strOfNums (l0.take 3)).toList != ([77, 84, 49] : List UInt8)) = false := bne_eq_false_iff_eq.mpr c5
  clear c5
  obtain ⟨ji6, hji6⟩ : ∃ j_ : Int, (wrap64 ((l0.length : Int) - 4)) = j_ := ⟨_, rfl⟩
  replace H : (if 0 ≤ (ji6) then (if (ji6) ≤ (l0.length : Int) then ((terrref5_Adler.f k (l0.take ((ji6) : Int).toNat)).bind fun t347 => ((terrref5_Four.f t347).bind fun t348 => (if (strOfNums t348).toList = (strOfNums (l0.drop ((ji6) : Int).toNat)).toList then (if 3 ≤ (ji6) then ((terrref5_Number.f k ((l0.take ((ji6) : Int).toNat).drop 3)).bind fun bt353 => (if bt353.2.2 = 0 then (if bt353.1 < 0 then (terrref5_Unpacked.j0 k bt353.1 bt353.2.1 true) else (terrref5_Unpacked.j0 k bt353.1 bt353.2.1 (decide (bt353.1 > 500)))) else (some (([] : List (S48)), bt353.2.2)))) else (none)) else (some (([] : List (S48)), 13))))) else (none)) else (none)) = some (r1, r2) := by first | (rw [hji6] at H; exact H) | (simp only [hji6] at H ⊢; exact H)
  have hji6w : (IntKind.i64.wrap ((l0.length : Int) - 4)) = ji6 := (i64_w _).trans hji6
  by_cases c7 : 0 ≤ (ji6)
  rotate_left
  · rw [if_neg c7] at H
    exact absurd H (by simp)
  rw [if_pos c7] at H
  have c7b0 := eq_true c7
  have c7b1 : decide (0 ≤ (ji6)) = true := decide_eq_true c7
  clear c7
  by_cases c8 : (ji6) ≤ (l0.length : Int)
  rotate_left
  · rw [if_neg c8] at H
    exact absurd H (by simp)
  rw [if_pos c8] at H
  have c8b0 := eq_true c8
  have c8b1 : decide ((ji6) ≤ (l0.length : Int)) = true := decide_eq_true c8
  clear c8
  replace H := Option.bind_eq_some_iff.mp H
  obtain ⟨t347, A90, H⟩ := H
  have A9 := Aside0.mk A90
  clear A90
  replace H := Option.bind_eq_some_iff.mp H
  obtain ⟨t348, A100, H⟩ := H
  have A10 := Aside0.mk A100
  clear A100
  (try dsimp only at H)
  have HC18 := Aside0.mk H
  clear H
  obtain ⟨i019, hi019, _, hsz19, _⟩ := info_parts info5
  obtain ⟨hcut19, hA19, hC19⟩ := print_take_of (P := Try.prog) (Value.int .u8) 0 22 5 .i64 Try.underlying22 hi019 hsz19 A0 c0 l0 3 (by omega) (of_decide_eq_true (by first | (with_reducible assumption) | assumption)) HC0.out
  have HR345 := Aside0.mk (Kd.C_of_reads (h1 := fun _ => rfl) (hA19 _ (Kd.reads_of_C HR0.out)))
  have hcv20 := Kd.C_string (P := Try.prog) (A := A0) (c := c0) Try.underlying22 Try.underlying5 Try.underlying9 HR345.out
  rw [List.length_take, show Int.toNat 3 = 3 from rfl] at hcv20
  obtain ⟨hcut21, hA21, hC21⟩ := print_take_of (P := Try.prog) (Value.int .u8) 0 22 5 .i64 Try.underlying22 hi019 hsz19 A0 c0 l0 (ji6) (of_decide_eq_true (by first | (with_reducible assumption) | assumption)) (of_decide_eq_true (by first | (with_reducible assumption) | assumption)) HC0.out
  have HR346 := Aside0.mk (Kd.C_of_reads (h1 := fun _ => rfl) (hA21 _ (Kd.reads_of_C HR0.out)))
  have HC346 := Aside0.mk hC21
  obtain ⟨A24, hcut24, hA24, hC24⟩ := print_drop_of (P := Try.prog) (Value.int .u8) 0 22 5 .i64 Try.underlying22 hi019 hsz19 A0 c0 l0 (ji6) (of_decide_eq_true (by first | (with_reducible assumption) | assumption)) (of_decide_eq_true (by first | (with_reducible assumption) | assumption)) HC0.out
  have HR351 := Aside0.mk (Kd.C_of_reads (h1 := fun _ => rfl) (hA24 _ (Kd.reads_of_C HR0.out)))
  have HL6 : Aside0 ((l0.take ((ji6) : Int).toNat).length = (ji6).toNat) := ⟨by rw [List.length_take]; have h_ : ((ji6) : Int) ≤ (l0.length : Int) := of_decide_eq_true (by first | (with_reducible assumption) | assumption); omega⟩
  clear hA19 hC19 hA21 hC21 hA24 hC24 hi019 hsz19
  go_enter Try.func36, Try.ntmps36
  go_upto_region 7 with (fail)
  go_cut [23] (fun v23 wa => v23 = .bool ((strOfNums t348).toList != (strOfNums (l0.drop ((ji6) : Int).toNat)).toList) ∧ Aside0 (Below w.heap.size w wa))
  case first =>
    replace HB := Aside0.mk (below_drew1 HB.out)
    refine start_ (n := 16) (S := fun w' => Kd.C (Kd.int .u8) w' A24 (l0.drop ((ji6) : Int).toNat).length (l0.drop ((ji6) : Int).toNat)) (ds := []) #[false, false, false, false, false, false, false, false, false, false, false, false, false, false, false, false] (by kernel_rfl) rfl rfl (Kd.C_below HR351.out HB.out) (fun hHeld => ?_); refine with_tabW terrref5_Unpacked.tab7 terrref5_Unpacked.bits7 (fun HT_ HW_ => ?_)
    generalize w.drew = w22 at HB hHeld ⊢
    refine pure_ (i := 0) (N := some 24) (v := ?_) (a' := ?_) #[true, false, false, false, false, false, false, false, false, false, false, false, false, false, false, false] rfl rfl (any_of HT_.out (by kernel_rfl)) (fun _ _ _ h => h) (Or.inl ⟨by rfl, ?_⟩) ?_ ?_
    rotate_left
    · intro w'
      go_simp
      with_reducible rfl
    rotate_left
    · simp only [Act.put, List.setIfInBounds_toArray, List.set_cons_zero, List.set_cons_succ, i64_w, i32_w]
      rfl
    refine pure_ (i := 1) (N := some 25) (v := ?_) (a' := ?_) #[true, true, false, false, false, false, false, false, false, false, false, false, false, false, false, false] rfl rfl (any_of HT_.out (by kernel_rfl)) (fun _ _ _ h => h) (Or.inl ⟨by rfl, ?_⟩) ?_ ?_
    rotate_left
    · intro w'
      go_simp
      with_reducible rfl
    rotate_left
    · simp only [Act.put, List.setIfInBounds_toArray, List.set_cons_zero, List.set_cons_succ, i64_w, i32_w]
      rfl
    refine pure_ (i := 2) (N := some 26) (v := ?_) (a' := ?_) #[true, true, true, false, false, false, false, false, false, false, false, false, false, false, false, false] rfl rfl (any_of HT_.out (by kernel_rfl)) (fun _ _ _ h => h) (Or.inl ⟨by rfl, ?_⟩) ?_ ?_
    rotate_left
    · intro w'
      go_simp
      with_reducible rfl
    rotate_left
    · simp only [Act.put, List.setIfInBounds_toArray, List.set_cons_zero, List.set_cons_succ, i64_w, i32_w]
      rfl
    refine pure_ (i := 3) (N := some 27) (v := ?_) (a' := ?_) #[true, true, true, true, false, false, false, false, false, false, false, false, false, false, false, false] rfl rfl (any_of HT_.out (by kernel_rfl)) (fun _ _ _ h => h) (Or.inl ⟨by rfl, ?_⟩) ?_ ?_
    rotate_left
    · intro w'
      go_simp
      with_reducible rfl
    rotate_left
    · simp only [Act.put, List.setIfInBounds_toArray, List.set_cons_zero, List.set_cons_succ, i64_w, i32_w]
      rfl
    refine pure_ (i := 4) (N := some 28) (v := ?_) (a' := ?_) #[true, true, true, true, true, false, false, false, false, false, false, false, false, false, false, false] rfl rfl (any_of HT_.out (by kernel_rfl)) (fun _ _ _ h => h) (Or.inl ⟨by rfl, ?_⟩) ?_ ?_
    rotate_left
    · intro w'
      go_simp
      with_reducible rfl
    rotate_left
    · simp only [Act.put, List.setIfInBounds_toArray, List.set_cons_zero, List.set_cons_succ, i64_w, i32_w]
      rfl
    refine pure_ (i := 8) (N := some 32) (v := ?_) (a' := ?_) #[true, true, true, true, true, false, false, false, true, false, false, false, false, false, false, false] rfl rfl (any_of HT_.out (by kernel_rfl)) (fun _ _ _ h => h) (Or.inl ⟨by rfl, ?_⟩) ?_ ?_
    rotate_left
    · intro w'
      go_simp
      with_reducible rfl
    rotate_left
    · simp only [Act.put, List.setIfInBounds_toArray, List.set_cons_zero, List.set_cons_succ, i64_w, i32_w]
      rfl
    refine pure_ (i := 9) (N := some 33) (v := ?_) (a' := ?_) #[true, true, true, true, true, false, false, false, true, true, false, false, false, false, false, false] rfl rfl (any_of HT_.out (by kernel_rfl)) (fun _ _ _ h => h) (Or.inl ⟨by rfl, ?_⟩) ?_ ?_
    rotate_left
    · intro w'
      go_simp
      with_reducible rfl
    rotate_left
    · simp only [Act.put, List.setIfInBounds_toArray, List.set_cons_zero, List.set_cons_succ, i64_w, i32_w]
      rfl
    refine pure_ (i := 10) (N := some 34) (v := ?_) (a' := ?_) #[true, true, true, true, true, false, false, false, true, true, true, false, false, false, false, false] rfl rfl (any_of HT_.out (by kernel_rfl)) (fun _ _ _ h => h) (Or.inl ⟨by rfl, ?_⟩) ?_ ?_
    rotate_left
    · intro w'
      go_simp
      with_reducible rfl
    rotate_left
    · simp only [Act.put, List.setIfInBounds_toArray, List.set_cons_zero, List.set_cons_succ, i64_w, i32_w]
      rfl
    refine pure_ (i := 11) (N := some 35) (v := ?_) (a' := ?_) #[true, true, true, true, true, false, false, false, true, true, true, true, false, false, false, false] rfl rfl (any_of HT_.out (by kernel_rfl)) (fun _ _ _ h => h) (Or.inl ⟨by rfl, ?_⟩) ?_ ?_
    rotate_left
    · intro w'
      go_simp
      with_reducible rfl
    rotate_left
    · simp only [Act.put, List.setIfInBounds_toArray, List.set_cons_zero, List.set_cons_succ, i64_w, i32_w]
      rfl
    refine pure_ (i := 12) (N := some 36) (v := ?_) (a' := ?_) #[true, true, true, true, true, false, false, false, true, true, true, true, true, false, false, false] rfl rfl (any_of HT_.out (by kernel_rfl)) (fun _ _ _ h => h) (Or.inl ⟨by rfl, ?_⟩) ?_ ?_
    rotate_left
    · intro w'
      go_simp
      with_reducible rfl
    rotate_left
    · simp only [Act.put, List.setIfInBounds_toArray, List.set_cons_zero, List.set_cons_succ, i64_w, i32_w]
      rfl
    refine take_ (i := 13) (N := some 37) (v := ?_) (a' := ?_) #[true, true, true, true, true, false, false, false, true, true, true, true, true, true, false, false] rfl rfl (take_ofW HT_.out HW_.out (by kernel_rfl)) (fun _ _ _ h => h) (Or.inl ⟨by rfl, ?_⟩) hHeld ?_ ?_
    rotate_left
    · rintro w' s0
      have hcv := Kd.C_string (P := Try.prog) (A := A24) (c := (c0 - (ji6).toNat)) Try.underlying22 Try.underlying5 Try.underlying9 s0
      rw [List.length_drop] at hcv
      go_simp
      with_reducible rfl
    rotate_left
    · simp only [Act.put, List.setIfInBounds_toArray, List.set_cons_zero, List.set_cons_succ, i64_w, i32_w]
      rfl
    refine one_ (i := 5) (N := some 29) #[true, true, true, true, true, true, false, false, true, true, true, true, true, true, false, false] rfl rfl (one_of HT_.out (by kernel_rfl)) (by decide) (fun K hK => ?_)
    refine goes_ Try.func31 (by kernel_rfl) rfl #[.slice A0 (l0.take ((ji6) : Int).toNat).length c0] (by rfl) rfl rfl (by (try simp only [List.map_toArray, List.map_cons, List.map_nil]); rw [HL6.out]; rfl) ?_
    with_reducible refine (terrref5_Adler.calls k _ _ (l0.take ((ji6) : Int).toNat) t347 _ ?side1 ?side2 A9.out).mono ?_
    (case side1 => exact Kd.C_below HR346.out HB.out)
    (case side2 => exact HC346.out)
    rintro e w' ⟨rfl, ⟨nd, rfl⟩⟩
    refine ⟨_, rfl, ?_⟩
    refine hK.out _ _ (Kd.C_drewN hHeld nd) (fun hHeld => ?_)
    clear hK K
    refine norm_ (a' := ?_) ?_ ?_
    rotate_left
    · show Act.put _ (some 29) _ = _
      simp only [Act.put, List.setIfInBounds_toArray, List.set_cons_zero, List.set_cons_succ, i64_w, i32_w]
      rfl
    refine one_ (i := 6) (N := some 30) #[true, true, true, true, true, true, true, false, true, true, true, true, true, true, false, false] rfl rfl (one_of HT_.out (by kernel_rfl)) (by decide) (fun K hK => ?_)
    refine goes_ Try.func50 (by kernel_rfl) rfl #[.int .u32 t347] (by rfl) rfl rfl (by (try simp only [List.map_toArray, List.map_cons, List.map_nil]); first | done | rfl | (simp only [List.length_drop, List.length_take]; rfl)) ?_
    with_reducible refine (terrref5_Four.calls t347 t348 _ A10.out).mono ?_
    rintro e w22 ⟨v349, rfl, ho0, hb⟩
    refine ⟨_, rfl, ?_⟩
    have hcv := own_string (P := Try.prog) Try.underlying22 Try.underlying5 Try.underlying9 (Kd.own_of_R ho0)
    replace hHeld := Kd.C_below hHeld hb
    replace HB := Aside0.mk (below_step (by repeat (first | (with_reducible first | exact HB.out | apply below_alloc | apply pw_below_drewN | apply below_drew1) | exact HB.out)) hb)
    clear ho0 hb
    refine hK.out _ _ hHeld (fun hHeld => ?_)
    clear hK K
    refine norm_ (a' := ?_) ?_ ?_
    rotate_left
    · show Act.put _ (some 30) _ = _
      simp only [Act.put, List.setIfInBounds_toArray, List.set_cons_zero, List.set_cons_succ, i64_w, i32_w]
      rfl
    refine one_ (i := 7) (N := some 31) #[true, true, true, true, true, true, true, true, true, true, true, true, true, true, false, false] rfl rfl (one_of HT_.out (by kernel_rfl)) (by decide) (fun K hK => ?_)
    refine event_step (by rfl) (w1 := w22) (v := .string (strOfNums t348)) ?_ ?_
    · go_simp
    refine hK.out _ _ hHeld (fun hHeld => ?_)
    clear hK K
    refine norm_ (a' := ?_) ?_ ?_
    rotate_left
    · show Act.put _ (some 31) _ = _
      simp only [Act.put, List.setIfInBounds_toArray, List.set_cons_zero, List.set_cons_succ, i64_w, i32_w]
      rfl
    refine pure_ (i := 14) (N := some 38) (v := ?_) (a' := ?_) #[true, true, true, true, true, true, true, true, true, true, true, true, true, true, true, false] rfl rfl (any_of HT_.out (by kernel_rfl)) (fun _ _ _ h => h) (Or.inl ⟨by rfl, ?_⟩) ?_ ?_
    rotate_left
    · intro w'
      go_simp
      with_reducible rfl
    rotate_left
    · simp only [Act.put, List.setIfInBounds_toArray, List.set_cons_zero, List.set_cons_succ, i64_w, i32_w]
      rfl
    refine pure_ (i := 15) (N := some 23) (v := ?_) (a' := ?_) #[true, true, true, true, true, true, true, true, true, true, true, true, true, true, true, true] rfl rfl (any_of HT_.out (by kernel_rfl)) (fun _ _ _ h => h) (Or.inl ⟨by rfl, ?_⟩) ?_ ?_
    rotate_left
    · intro w'
      go_simp
      with_reducible rfl
    rotate_left
    · simp only [Act.put, List.setIfInBounds_toArray, List.set_cons_zero, List.set_cons_succ, i64_w, i32_w]
      rfl
    refine done_ (done_of HT_.out (by kernel_rfl)) ?_
    go_wp2_with (fail)
    go_meet
    case rel => exact ⟨rfl, HB⟩
  case rest =>
    clear HB
    obtain ⟨rfl, HB⟩ := hcut
    have H := HC18.out
    clear HC18
    by_cases c13 : (strOfNums t348).toList = (strOfNums (l0.drop ((ji6) : Int).toNat)).toList
    rotate_left
    · rw [if_neg c13] at H
      have c13b0 : ((strOfNums t348).toList == (strOfNums (l0.drop ((ji6) : Int).toNat)).toList) = false := beq_eq_false_iff_ne.mpr c13
      have c13b1 : ((strOfNums t348).toList != (strOfNums (l0.drop ((ji6) : Int).toNat)).toList) = true := bne_iff_ne.mpr c13
      rw [c13b1]
      simp only [Option.some.injEq, Prod.mk.injEq] at H
      obtain ⟨rfl, rfl⟩ := H
      go_wp2
      go_ret2
      exact ⟨_, rfl, Kd.R_nil _ _ _ _ _, HB.out⟩
    rw [if_pos c13] at H
    have c13b0 : ((strOfNums t348).toList == (strOfNums (l0.drop ((ji6) : Int).toNat)).toList) = true := beq_iff_eq.mpr c13
    have c13b1 : ((strOfNums t348).toList != (strOfNums (l0.drop ((ji6) : Int).toNat)).toList) = false := bne_eq_false_iff_eq.mpr c13
    rw [c13b1]
    clear c13 c13b0 c13b1
    by_cases c14 : 3 ≤ (ji6)
    rotate_left
    · rw [if_neg c14] at H
      exact absurd H (by simp)
    rw [if_pos c14] at H
    have c14b0 := eq_true c14
    have c14b1 : decide (3 ≤ (ji6)) = true := decide_eq_true c14
    clear c14
    replace H := Option.bind_eq_some_iff.mp H
    obtain ⟨⟨t353, t354, t355⟩, A160, H⟩ := H
    have A16 := Aside0.mk A160
    clear A160
    (try dsimp only at H)
    have HC17 := Aside0.mk H
    clear H
    obtain ⟨i026, hi026, _, hsz26, _⟩ := info_parts info5
    obtain ⟨A26, hcut26, hA26, hC26⟩ := print_mid_of (P := Try.prog) (Value.int .u8) 0 22 5 .i64 .i64 Try.underlying22 hi026 hsz26 A0 c0 l0 3 (ji6) (by omega) (by first | omega | exact of_decide_eq_true (by first | (with_reducible assumption) | assumption)) (of_decide_eq_true (by first | (with_reducible assumption) | assumption)) HC0.out
    have HR352 := Aside0.mk (Kd.C_of_reads (h1 := fun _ => rfl) (hA26 _ (Kd.reads_of_C HR0.out)))
    have HC352 := Aside0.mk hC26
    have HA26 := Aside0.mk hA26
    have HL26 : Aside0 (((l0.take ((ji6) : Int).toNat).drop 3).length = (ji6).toNat - 3) := ⟨by rw [List.length_drop, HL6.out]⟩
    clear hA26 hC26 hi026 hsz26
    go_upto_region 10 with (first | ((with_reducible refine gate_callee (f := 19) rfl ?_); refine goesL_ (some 45) rfl rfl Try.func19 (by kernel_rfl) rfl #[.slice A26 ((l0.take ((ji6) : Int).toNat).drop 3).length (c0 - 3)] rfl (by (try simp only [List.map_toArray, List.map_cons, List.map_nil]); first | done | (rw [HL26.out] <;> rfl) | rfl) ?_; (with_reducible refine (terrref5_Number.calls k _ _ ((l0.take ((ji6) : Int).toNat).drop 3) t353 t354 t355 _ ?side1 ?side2 A16.out).mono ?_); (case side1 => exact Kd.C_below HR352.out HB.out); (case side2 => exact HC352.out); rintro e w27 ⟨A356, c356, rfl, hc0_, ho0, hb⟩; refine ⟨_, rfl, ?_⟩; have HO357 := Aside0.mk (show Cut A0 l0 (.slice A356 t354.length c356) t354 from ⟨_, _, rfl, hc0_, fun W_ h_ => ho0 W_ (Kd.C_of_reads (h1 := fun _ => rfl) (HA26.out W_ (Kd.reads_of_C h_)))⟩); replace HB := Aside0.mk (below_step (by repeat (first | (with_reducible first | exact HB.out | apply below_alloc | apply pw_below_drewN | apply below_drew1) | exact HB.out)) hb); clear hb ho0 hc0_))
    have H := HC17.out
    clear HC17
    by_cases c17 : t355 = 0
    rotate_left
    · rw [if_neg c17] at H
      have c17b0 : (t355 == 0) = false := beq_eq_false_iff_ne.mpr c17
      have c17b1 : (t355 != 0) = true := bne_iff_ne.mpr c17
      simp only [Option.some.injEq, Prod.mk.injEq] at H
      obtain ⟨rfl, rfl⟩ := H
      go_wp2
      go_ret2
      exact ⟨_, rfl, Kd.R_nil _ _ _ _ _, HB.out⟩
    rw [if_pos c17] at H
    have c17b0 : (t355 == 0) = true := beq_iff_eq.mpr c17
    have c17b1 : (t355 != 0) = false := bne_eq_false_iff_eq.mpr c17
    clear c17
    have HC18 := Aside0.mk H
    clear H
    go_upto_region 12 with (fail)
    go_cut [57] (fun v57 wc => ∃ (kq : Nat) (x57_17 : Bool), v57 = .bool x57_17 ∧ Aside0 (terrref5_Unpacked.j0 kq t353 t354 x57_17 = some (r1, r2)) ∧ Aside0 (kq ≤ k) ∧ Aside0 (Cut A0 l0 (.slice A356 t354.length c356) t354) ∧ Aside0 (Below w.heap.size w wc))
    case first =>
      have H := HC18.out
      clear HC18
      by_cases c28 : t353 < 0
      · rw [if_pos c28] at H
        have c28b0 : decide (t353 < 0) = true := decide_eq_true c28
        clear c28
        (first | rw [c28b0] | (simp only [i64_w, i32_w]; rw [c28b0]) | skip)
        have H' := Aside0.mk H
        clear H
        go_wp2
        go_meet
        case rel => exact ⟨_, (true), (by first | rfl | (simp; done) | (simp [*]; done)), H', ⟨by first | omega | exact Nat.le_refl _⟩, ⟨HO357.out⟩, ⟨by repeat (first | (with_reducible first | exact HB.out | apply below_alloc | apply pw_below_drewN | apply below_drew1) | exact HB.out)⟩⟩
      rw [if_neg c28] at H
      have c28b0 : decide (t353 < 0) = false := decide_eq_false c28
      clear c28
      (first | rw [c28b0] | (simp only [i64_w, i32_w]; rw [c28b0]) | skip)
      have H' := Aside0.mk H
      clear H
      go_wp2
      go_meet
      case rel => exact ⟨_, (decide (t353 > 500)), (by first | rfl | (simp; done) | (simp [*]; done)), H', ⟨by first | omega | exact Nat.le_refl _⟩, ⟨HO357.out⟩, ⟨by repeat (first | (with_reducible first | exact HB.out | apply below_alloc | apply pw_below_drewN | apply below_drew1) | exact HB.out)⟩⟩
    case rest =>
      clear HC18
      try clear c2
      try clear c2b0
      try clear c2b1
      try clear c3
      try clear c3b0
      try clear c3b1
      try clear c4
      try clear c4b0
      try clear c4b1
      try clear c5
      try clear c5b0
      try clear c5b1
      try clear c7
      try clear c7b0
      try clear c7b1
      try clear c8
      try clear c8b0
      try clear c8b1
      try clear c13
      try clear c13b0
      try clear c13b1
      try clear c14
      try clear c14b0
      try clear c14b1
      try clear c17
      try clear c17b0
      try clear c17b1
      try clear hcv20
      obtain ⟨kq, x57_17, rfl, HA, HJ17, HO_5, HB⟩ := hcut
      cases kq with
      | zero => exact absurd HA.out (by simp [terrref5_Unpacked.j0])
      | succ kj17 =>
        have H := HA.out
        clear HA
        simp only [terrref5_Unpacked.j0] at H
        by_cases c29 : x57_17 = true
        · subst c29
          have H1 : (some (([] : List (S48)), 2)) = some (r1, r2) := by rw [if_pos rfl] at H; exact H
          clear H
          have H := H1
          clear H1
          simp only [Option.some.injEq, Prod.mk.injEq] at H
          obtain ⟨rfl, rfl⟩ := H
          go_wp2
          go_ret2
          exact ⟨_, by first | rfl | (simp [errW_none, errW_some] <;> rfl) | (simp only [← hji6]; first | rfl | (simp [errW_none, errW_some] <;> rfl)) | (simp [*, errW_none, errW_some] <;> rfl), by first | exact Kd.R_nil _ _ _ _ _ | exact Kd.N_nil _ _ _ _ _ | exact Kd.V_nil _ _ _ _ _ | exact Kd.Q_nil _ _ _ _ _ | exact Kd.S_nil _ _ _ _ _, by repeat (first | (with_reducible first | exact HB.out | apply below_alloc | apply pw_below_drewN | apply below_drew1) | exact HB.out)⟩
        replace c29 := Bool.eq_false_iff.mpr c29
        subst c29
        have H1 : (terrref5_Unpacked.l0 kj17 t353 t354 ([] : List (S48))) = some (r1, r2) := by rw [if_neg (show ¬ (false = true) by decide)] at H; exact H
        clear H
        have H := H1
        clear H1
        have H' := Aside0.mk H
        clear H
        go_wp2
        go_loopg [4, 5, 7] kj17 (fun kq v4 v5 v7 w' => ∃ (x4_2 : Int) (x5_2 : List Int) (x7_2 : List (S48)), v4 = .int .i64 x4_2 ∧ Aside0 (terrref5_Unpacked.l0 kq x4_2 x5_2 x7_2 = some (r1, r2)) ∧ Aside0 (kq ≤ kj17) ∧ Aside0 (Cut A0 l0 v5 x5_2) ∧ Aside0 (Kd.R k48 48 w' w.heap.size (fun _ => True) v7 x7_2) ∧ Aside0 (Below w.heap.size w w'))
        case atStart => exact ⟨(t353), (t354), (([] : List (S48))), (by first | rfl | (simp; done) | (simp [*]; done)), H', ⟨Nat.le_refl _⟩, ⟨by (with_reducible repeat (first | apply Kd.R_alloc | apply Kd.R_drewN | apply Kd.R_drew)); exact HO_5.out⟩, ⟨by first | exact Kd.R_nil _ _ _ _ _ | exact Kd.N_nil _ _ _ _ _ | exact Kd.V_nil _ _ _ _ _ | exact Kd.Q_nil _ _ _ _ _ | exact Kd.S_nil _ _ _ _ _⟩, ⟨by repeat (first | (with_reducible first | exact HB.out | apply below_alloc | apply pw_below_drewN | apply below_drew1) | exact HB.out)⟩⟩
        case round =>
          clear H'
          try clear c29
          obtain ⟨x4_2, x5_2, x7_2, rfl, HA, HK2, HO_5, HO_7, HB⟩ := hrel
          cases gk with
          | zero => exact absurd HA.out (by simp [terrref5_Unpacked.l0])
          | succ k2 =>
            have H := HA.out
            clear HA
            simp only [terrref5_Unpacked.l0] at H
            by_cases c30 : x4_2 > 0
            rotate_left
            · rw [if_neg c30] at H
              have c30b0 : decide (0 < x4_2) = false := decide_eq_false c30
              clear c30
              by_cases c62 : (x5_2.length : Int) = 0
              rotate_left
              · rw [if_neg c62] at H
                have c62b0 : ((x5_2.length : Int) == 0) = false := beq_eq_false_iff_ne.mpr c62
                have c62b1 : ((x5_2.length : Int) != 0) = true := bne_iff_ne.mpr c62
                have c62b2 : ¬ (x5_2 = []) := fun h_ => c62 (by rw [h_]; rfl)
                simp only [Option.some.injEq, Prod.mk.injEq] at H
                obtain ⟨rfl, rfl⟩ := H
                obtain ⟨Ao71, co71, eo71, _, _⟩ := HO_5.out
                subst eo71
                go_wp2
                go_ret2
                exact ⟨_, by first | rfl | (simp [errW_none, errW_some] <;> rfl) | (simp only [← hji6]; first | rfl | (simp [errW_none, errW_some] <;> rfl)) | (simp [*, errW_none, errW_some] <;> rfl), by first | exact Kd.R_nil _ _ _ _ _ | exact Kd.N_nil _ _ _ _ _ | exact Kd.V_nil _ _ _ _ _ | exact Kd.Q_nil _ _ _ _ _ | exact Kd.S_nil _ _ _ _ _, by repeat (first | (with_reducible first | exact HB.out | apply below_alloc | apply pw_below_drewN | apply below_drew1) | exact HB.out)⟩
              rw [if_pos c62] at H
              have c62b0 : ((x5_2.length : Int) == 0) = true := beq_iff_eq.mpr c62
              have c62b1 : ((x5_2.length : Int) != 0) = false := bne_eq_false_iff_eq.mpr c62
              clear c62
              replace H := Option.bind_eq_some_iff.mp H
              obtain ⟨t383, A630, H⟩ := H
              replace H : (if t383 = 0 then (some (x7_2, 0)) else (some (([] : List (S48)), t383))) = some (r1, r2) := H
              have A63 := Aside0.mk A630
              clear A630
              by_cases c64 : t383 = 0
              rotate_left
              · rw [if_neg c64] at H
                have c64b0 : (t383 == 0) = false := beq_eq_false_iff_ne.mpr c64
                have c64b1 : (t383 != 0) = true := bne_iff_ne.mpr c64
                simp only [Option.some.injEq, Prod.mk.injEq] at H
                obtain ⟨rfl, rfl⟩ := H
                obtain ⟨Ao68, co68, eo68, _, _⟩ := HO_5.out
                subst eo68
                obtain ⟨Ao69, co69, eo69⟩ := Kd.R_slice HO_7.out
                subst eo69
                go_wp2_with (first | ((with_reducible refine gate_callee (f := 32) rfl ?_); refine goesL_ (some 125) rfl rfl Try.func32 (by kernel_rfl) rfl #[.slice Ao69 x7_2.length co69] rfl (by (try simp only [List.map_toArray, List.map_cons, List.map_nil]); first | done | rfl | (simp only [List.length_drop, List.length_take]; rfl)) ?_; (with_reducible refine (terrref5_DrawsFault.calls k2 _ _ x7_2 t383 _ ?side1 ?side2 A63.out).mono ?_); (case side1 => repeat (first | exact (Kd.R_reads' HO_7.out).2.2 | (with_reducible refine Kd.C_alloc ?_ _) | (with_reducible refine Kd.C_drewN ?_ _) | (with_reducible refine Kd.C_drew ?_))); (case side2 => exact (Kd.R_reads' HO_7.out).2.1); rintro e w70 ⟨rfl, hb⟩; refine ⟨_, rfl, ?_⟩; replace HO_7 := Aside0.mk (Kd.R_below (by (with_reducible repeat (first | apply Kd.R_alloc | apply Kd.R_drewN | apply Kd.R_drew)); exact HO_7.out) hb); replace HB := Aside0.mk (below_step (by repeat (first | (with_reducible first | exact HB.out | apply below_alloc | apply pw_below_drewN | apply below_drew1) | exact HB.out)) hb); (try clear hb); (try clear hb2); (try clear hk); (try clear hi)))
                go_ret2
                exact ⟨_, by first | rfl | (simp [errW_none, errW_some] <;> rfl) | (simp only [← hji6]; first | rfl | (simp [errW_none, errW_some] <;> rfl)) | (simp [*, errW_none, errW_some] <;> rfl), by first | exact Kd.R_nil _ _ _ _ _ | exact Kd.N_nil _ _ _ _ _ | exact Kd.V_nil _ _ _ _ _ | exact Kd.Q_nil _ _ _ _ _ | exact Kd.S_nil _ _ _ _ _, by repeat (first | (with_reducible first | exact HB.out | apply below_alloc | apply pw_below_drewN | apply below_drew1) | exact HB.out)⟩
              rw [if_pos c64] at H
              have c64b0 : (t383 == 0) = true := beq_iff_eq.mpr c64
              have c64b1 : (t383 != 0) = false := bne_eq_false_iff_eq.mpr c64
              clear c64
              simp only [Option.some.injEq, Prod.mk.injEq] at H
              obtain ⟨rfl, rfl⟩ := H
              obtain ⟨Ao65, co65, eo65, _, _⟩ := HO_5.out
              subst eo65
              obtain ⟨Ao66, co66, eo66⟩ := Kd.R_slice HO_7.out
              subst eo66
              go_wp2_with (first | ((with_reducible refine gate_callee (f := 32) rfl ?_); refine goesL_ (some 125) rfl rfl Try.func32 (by kernel_rfl) rfl #[.slice Ao66 x7_2.length co66] rfl (by (try simp only [List.map_toArray, List.map_cons, List.map_nil]); first | done | rfl | (simp only [List.length_drop, List.length_take]; rfl)) ?_; (with_reducible refine (terrref5_DrawsFault.calls k2 _ _ x7_2 t383 _ ?side1 ?side2 A63.out).mono ?_); (case side1 => repeat (first | exact (Kd.R_reads' HO_7.out).2.2 | (with_reducible refine Kd.C_alloc ?_ _) | (with_reducible refine Kd.C_drewN ?_ _) | (with_reducible refine Kd.C_drew ?_))); (case side2 => exact (Kd.R_reads' HO_7.out).2.1); rintro e w67 ⟨rfl, hb⟩; refine ⟨_, rfl, ?_⟩; replace HO_7 := Aside0.mk (Kd.R_below (by (with_reducible repeat (first | apply Kd.R_alloc | apply Kd.R_drewN | apply Kd.R_drew)); exact HO_7.out) hb); replace HB := Aside0.mk (below_step (by repeat (first | (with_reducible first | exact HB.out | apply below_alloc | apply pw_below_drewN | apply below_drew1) | exact HB.out)) hb); (try clear hb); (try clear hb2); (try clear hk); (try clear hi)))
              go_ret2
              exact ⟨_, by first | rfl | (simp [errW_none, errW_some] <;> rfl) | (simp only [← hji6]; first | rfl | (simp [errW_none, errW_some] <;> rfl)) | (simp [*, errW_none, errW_some] <;> rfl), by (with_reducible repeat (first | apply Kd.R_alloc | apply Kd.R_drewN | apply Kd.R_drew)); exact HO_7.out, by repeat (first | (with_reducible first | exact HB.out | apply below_alloc | apply pw_below_drewN | apply below_drew1) | exact HB.out)⟩
            rw [if_pos c30] at H
            have c30b0 : decide (0 < x4_2) = true := decide_eq_true c30
            clear c30
            have HC31 := Aside0.mk H
            clear H
            go_upto_region 17 with (fail)
            go_cut [74] (fun v74 wc => ∃ (kq : Nat) (x74_30 : Bool), v74 = .bool x74_30 ∧ Aside0 (terrref5_Unpacked.j2 kq x4_2 x5_2 x7_2 x74_30 = some (r1, r2)) ∧ Aside0 (kq ≤ k2) ∧ Aside0 (Cut A0 l0 u5 x5_2) ∧ Aside0 (Kd.R k48 48 wc w.heap.size (fun _ => True) u7 x7_2) ∧ Aside0 (Below w.heap.size w wc))
            case first =>
              have H := HC31.out
              clear HC31
              by_cases c32 : (x5_2.length : Int) < 5
              · rw [if_pos c32] at H
                have c32b0 : decide ((x5_2.length : Int) < 5) = true := decide_eq_true c32
                have c32b1 : decide (x5_2.length < 5) = true := decide_eq_true (by omega)
                clear c32
                (first | rw [c32b0] | (simp only [i64_w, i32_w]; rw [c32b0]) | skip)
                have H' := Aside0.mk H
                clear H
                obtain ⟨Ao33, co33, eo33, _, _⟩ := HO_5.out
                subst eo33
                go_wp2
                go_meet
                case rel => exact ⟨_, (true), (by first | rfl | (simp; done) | (simp [*]; done)), H', ⟨by have := HJ17.out; have := HK2.out; first | omega | exact Nat.le_refl _⟩, ⟨by (with_reducible repeat (first | apply Kd.R_alloc | apply Kd.R_drewN | apply Kd.R_drew)); exact HO_5.out⟩, ⟨by (with_reducible repeat (first | apply Kd.R_alloc | apply Kd.R_drewN | apply Kd.R_drew)); exact HO_7.out⟩, ⟨by repeat (first | (with_reducible first | exact HB.out | apply below_alloc | apply pw_below_drewN | apply below_drew1) | exact HB.out)⟩⟩
              rw [if_neg c32] at H
              have c32b0 : decide ((x5_2.length : Int) < 5) = false := decide_eq_false c32
              have c32b1 : decide (x5_2.length < 5) = false := decide_eq_false (by omega)
              clear c32
              (first | rw [c32b0] | (simp only [i64_w, i32_w]; rw [c32b0]) | skip)
              by_cases c34 : 4 < (x5_2.length : Int)
              rotate_left
              · rw [if_neg c34] at H
                exact absurd H (by simp)
              rw [if_pos c34] at H
              have c34b0 : decide (4 < (x5_2.length : Int)) = true := decide_eq_true c34
              have c34b1 : decide (4 < x5_2.length) = true := decide_eq_true (by omega)
              clear c34
              have H' := Aside0.mk H
              clear H
              obtain ⟨Ao35, co35, eo35, _, _⟩ := HO_5.out
              subst eo35
              have p358 : 0 ≤ (4 : Int) := (by omega)
              have q358 : 4 < (x5_2.length : Int) := of_decide_eq_true (by first | (with_reducible assumption) | assumption)
              obtain ⟨ad358, e358, hx358_0⟩ := Kd.at_int ((Cut_reads HO_5.out).2.2 _ (Kd.C_below HR0.out HB.out)) 4 p358 q358
              cases e358
              (try simp only [show (4 : Int).toNat = 4 from rfl, Nat.reduceMul, Nat.reduceEqDiff, Go.Addr.add, ↓reduceIte] at hx358_0)
              have qi358 : (4 < x5_2.length) = True := eq_true (by omega)
              (try rw [show ((4 : Int)).toNat = 4 from rfl] at hx358_0)
              replace p358 := eq_true p358
              replace q358 := eq_true q358
              go_wp2
              go_meet
              case rel => exact ⟨_, (decide ((wrap64 ((x5_2.length : Int) - 5)) < (wrap64 (rd x5_2 4)))), (by first | rfl | (simp; done) | (simp [*]; done)), H', ⟨by have := HJ17.out; have := HK2.out; first | omega | exact Nat.le_refl _⟩, ⟨by (with_reducible repeat (first | apply Kd.R_alloc | apply Kd.R_drewN | apply Kd.R_drew)); exact HO_5.out⟩, ⟨by (with_reducible repeat (first | apply Kd.R_alloc | apply Kd.R_drewN | apply Kd.R_drew)); exact HO_7.out⟩, ⟨by repeat (first | (with_reducible first | exact HB.out | apply below_alloc | apply pw_below_drewN | apply below_drew1) | exact HB.out)⟩⟩
            case rest =>
              clear HC31
              try clear c30
              try clear c30b0
              obtain ⟨kq, x74_30, rfl, HA, HJ30, HO_5, HO_7, HB⟩ := hcut
              cases kq with
              | zero => exact absurd HA.out (by simp [terrref5_Unpacked.j2])
              | succ kj30 =>
                have H := HA.out
                clear HA
                simp only [terrref5_Unpacked.j2] at H
                by_cases c36 : x74_30 = true
                · subst c36
                  have H1 : (some (([] : List (S48)), 14)) = some (r1, r2) := by rw [if_pos rfl] at H; exact H
                  clear H
                  have H := H1
                  clear H1
                  simp only [Option.some.injEq, Prod.mk.injEq] at H
                  obtain ⟨rfl, rfl⟩ := H
                  go_wp2
                  go_ret2
                  exact ⟨_, by first | rfl | (simp [errW_none, errW_some] <;> rfl) | (simp only [← hji6]; first | rfl | (simp [errW_none, errW_some] <;> rfl)) | (simp [*, errW_none, errW_some] <;> rfl), by first | exact Kd.R_nil _ _ _ _ _ | exact Kd.N_nil _ _ _ _ _ | exact Kd.V_nil _ _ _ _ _ | exact Kd.Q_nil _ _ _ _ _ | exact Kd.S_nil _ _ _ _ _, by repeat (first | (with_reducible first | exact HB.out | apply below_alloc | apply pw_below_drewN | apply below_drew1) | exact HB.out)⟩
                replace c36 := Bool.eq_false_iff.mpr c36
                subst c36
                have H1 : (if 0 < (x5_2.length : Int) then (if 1 < (x5_2.length : Int) then (if 2 < (x5_2.length : Int) then (if 3 < (x5_2.length : Int) then (if 4 < (x5_2.length : Int) then (if 5 ≤ (wrap64 (5 + (wrap64 (rd x5_2 4)))) then (if (wrap64 (5 + (wrap64 (rd x5_2 4)))) ≤ (x5_2.length : Int) then (if 0 ≤ (wrap64 (5 + (wrap64 (rd x5_2 4)))) then ((terrref5_ListsOf.f kj30 (x5_2.drop ((wrap64 (5 + (wrap64 (rd x5_2 4)))) : Int).toNat)).bind fun bt373 => (if bt373.2.2 = 0 then (if x7_2.length < 1954687338268 then (terrref5_Unpacked.l0 kj30 (wrap64 (x4_2 - 1)) bt373.2.1 (x7_2 ++ [(⟨wrap64 (rd x5_2 0), wrap64 (rd x5_2 1), wrap64 (rd x5_2 2), wrap64 (rd x5_2 3), bt373.1, strOfNums ((x5_2.take ((wrap64 (5 + (wrap64 (rd x5_2 4)))) : Int).toNat).drop 5)⟩ : S48)])) else (none)) else (some (([] : List (S48)), bt373.2.2)))) else (none)) else (none)) else (none)) else (none)) else (none)) else (none)) else (none)) else (none)) = some (r1, r2) := by rw [if_neg (show ¬ (false = true) by decide)] at H; exact H
                clear H
                have H := H1
                clear H1
                by_cases c37 : 0 < (x5_2.length : Int)
                rotate_left
                · rw [if_neg c37] at H
                  exact absurd H (by simp)
                rw [if_pos c37] at H
                have c37b0 : decide (0 < (x5_2.length : Int)) = true := decide_eq_true c37
                have c37b1 : decide (0 < x5_2.length) = true := decide_eq_true (by omega)
                clear c37
                by_cases c38 : 1 < (x5_2.length : Int)
                rotate_left
                · rw [if_neg c38] at H
                  exact absurd H (by simp)
                rw [if_pos c38] at H
                have c38b0 : decide (1 < (x5_2.length : Int)) = true := decide_eq_true c38
                have c38b1 : decide (1 < x5_2.length) = true := decide_eq_true (by omega)
                clear c38
                by_cases c39 : 2 < (x5_2.length : Int)
                rotate_left
                · rw [if_neg c39] at H
                  exact absurd H (by simp)
                rw [if_pos c39] at H
                have c39b0 : decide (2 < (x5_2.length : Int)) = true := decide_eq_true c39
                have c39b1 : decide (2 < x5_2.length) = true := decide_eq_true (by omega)
                clear c39
                by_cases c40 : 3 < (x5_2.length : Int)
                rotate_left
                · rw [if_neg c40] at H
                  exact absurd H (by simp)
                rw [if_pos c40] at H
                have c40b0 : decide (3 < (x5_2.length : Int)) = true := decide_eq_true c40
                have c40b1 : decide (3 < x5_2.length) = true := decide_eq_true (by omega)
                clear c40
                by_cases c41 : 4 < (x5_2.length : Int)
                rotate_left
                · rw [if_neg c41] at H
                  exact absurd H (by simp)
                rw [if_pos c41] at H
                have c41b0 : decide (4 < (x5_2.length : Int)) = true := decide_eq_true c41
                have c41b1 : decide (4 < x5_2.length) = true := decide_eq_true (by omega)
                clear c41
                by_cases c42 : 5 ≤ (wrap64 (5 + (wrap64 (rd x5_2 4))))
                rotate_left
                · rw [if_neg c42] at H
                  exact absurd H (by simp)
                rw [if_pos c42] at H
                have c42b0 := eq_true c42
                have c42b1 : decide (5 ≤ (wrap64 (5 + (wrap64 (rd x5_2 4))))) = true := decide_eq_true c42
                by_cases c43 : (wrap64 (5 + (wrap64 (rd x5_2 4)))) ≤ (x5_2.length : Int)
                rotate_left
                · rw [if_neg c43] at H
                  exact absurd H (by simp)
                rw [if_pos c43] at H
                have c43b0 := eq_true c43
                have c43b1 : decide ((wrap64 (5 + (wrap64 (rd x5_2 4)))) ≤ (x5_2.length : Int)) = true := decide_eq_true c43
                obtain ⟨y364, hy364⟩ : ∃ y_ : List Int, y_ = ((x5_2.take ((wrap64 (5 + (wrap64 (rd x5_2 4)))) : Int).toNat).drop 5) := ⟨_, rfl⟩
                replace H : (if 0 ≤ (wrap64 (5 + (wrap64 (rd x5_2 4)))) then ((terrref5_ListsOf.f kj30 (x5_2.drop ((wrap64 (5 + (wrap64 (rd x5_2 4)))) : Int).toNat)).bind fun bt373 => (if bt373.2.2 = 0 then (if x7_2.length < 1954687338268 then (terrref5_Unpacked.l0 kj30 (wrap64 (x4_2 - 1)) bt373.2.1 (x7_2 ++ [(⟨wrap64 (rd x5_2 0), wrap64 (rd x5_2 1), wrap64 (rd x5_2 2), wrap64 (rd x5_2 3), bt373.1, strOfNums y364⟩ : S48)])) else (none)) else (some (([] : List (S48)), bt373.2.2)))) else (none)) = some (r1, r2) := by first | (rw [hy364]; with_reducible exact H) | (have H2_ := (Option.bind_some _ _).symm.trans H; rw [hy364]; with_reducible exact H2_) | (have H2_ := (Option.bind_some _ _).symm.trans H; with_reducible exact H2_) | with_reducible exact H | (rw [hy364]; exact H) | exact H
                have Ny364 := Aside0.mk hy364
                clear hy364
                obtain ⟨ji44, hji44⟩ : ∃ j_ : Int, (wrap64 (5 + (wrap64 (rd x5_2 4)))) = j_ := ⟨_, rfl⟩
                replace H : (if 0 ≤ (ji44) then ((terrref5_ListsOf.f kj30 (x5_2.drop ((ji44) : Int).toNat)).bind fun bt373 => (if bt373.2.2 = 0 then (if x7_2.length < 1954687338268 then (terrref5_Unpacked.l0 kj30 (wrap64 (x4_2 - 1)) bt373.2.1 (x7_2 ++ [(⟨wrap64 (rd x5_2 0), wrap64 (rd x5_2 1), wrap64 (rd x5_2 2), wrap64 (rd x5_2 3), bt373.1, strOfNums y364⟩ : S48)])) else (none)) else (some (([] : List (S48)), bt373.2.2)))) else (none)) = some (r1, r2) := by first | (rw [hji44] at H; exact H) | (simp only [hji44] at H ⊢; exact H)
                (try rw [hji44] at c42b0)
                (try rw [hji44] at c42b1)
                (try rw [hji44] at c42)
                (try rw [hji44] at c43b0)
                (try rw [hji44] at c43b1)
                (try rw [hji44] at c43)
                (try rw [hji44] at Ny364)
                (try rw [hji44] at Ny364)
                have hji44w : (IntKind.i64.wrap (5 + (wrap64 (rd x5_2 4)))) = ji44 := (i64_w _).trans hji44
                by_cases c45 : 0 ≤ (ji44)
                rotate_left
                · rw [if_neg c45] at H
                  exact absurd H (by simp)
                rw [if_pos c45] at H
                have c45b0 := eq_true c45
                have c45b1 : decide (0 ≤ (ji44)) = true := decide_eq_true c45
                clear c45
                have c46b0 := eq_true (of_decide_eq_true (by first | (with_reducible assumption) | assumption) : (ji44) ≤ (x5_2.length : Int))
                obtain ⟨y369, hy369⟩ : ∃ y_ : List Int, y_ = (x5_2.drop ((ji44) : Int).toNat) := ⟨_, rfl⟩
                replace H : ((terrref5_ListsOf.f kj30 y369).bind fun bt373 => (if bt373.2.2 = 0 then (if x7_2.length < 1954687338268 then (terrref5_Unpacked.l0 kj30 (wrap64 (x4_2 - 1)) bt373.2.1 (x7_2 ++ [(⟨wrap64 (rd x5_2 0), wrap64 (rd x5_2 1), wrap64 (rd x5_2 2), wrap64 (rd x5_2 3), bt373.1, strOfNums y364⟩ : S48)])) else (none)) else (some (([] : List (S48)), bt373.2.2)))) = some (r1, r2) := by first | (rw [hy369]; with_reducible exact H) | (have H2_ := (Option.bind_some _ _).symm.trans H; rw [hy369]; with_reducible exact H2_) | (have H2_ := (Option.bind_some _ _).symm.trans H; with_reducible exact H2_) | with_reducible exact H | (rw [hy369]; exact H) | exact H
                have Ny369 := Aside0.mk hy369
                clear hy369
                replace H := Option.bind_eq_some_iff.mp H
                obtain ⟨⟨t373, t374, t375⟩, A470, H⟩ := H
                replace H : (if t375 = 0 then (if x7_2.length < 1954687338268 then (terrref5_Unpacked.l0 kj30 (wrap64 (x4_2 - 1)) t374 (x7_2 ++ [(⟨wrap64 (rd x5_2 0), wrap64 (rd x5_2 1), wrap64 (rd x5_2 2), wrap64 (rd x5_2 3), t373, strOfNums y364⟩ : S48)])) else (none)) else (some (([] : List (S48)), t375))) = some (r1, r2) := H
                have A47 := Aside0.mk A470
                clear A470
                (try dsimp only at H)
                have HC47 := Aside0.mk H
                clear H
                obtain ⟨Ao, co, eo, hco, hCo⟩ := HO_5.out
                subst eo
                have HCo := Aside0.mk (hCo _ (Kd.C_below HR0.out HB.out))
                have HCa := Aside0.mk hCo
                have Hco := Aside0.mk hco
                clear hco hCo
                obtain ⟨ad, ea, x0_, x1_, x2_, x3_, x4_⟩ := five_ HCo.out (of_decide_eq_true c41b1)
                subst ea
                have X0 := Aside0.mk x0_
                have X1 := Aside0.mk x1_
                have X2 := Aside0.mk x2_
                have X3 := Aside0.mk x3_
                have X4 := Aside0.mk x4_
                clear x0_ x1_ x2_ x3_ x4_
                obtain ⟨W1, rfl⟩ : ∃ x, x = wc := ⟨_, rfl⟩
                have HZ5 : Aside0 (¬ x5_2 = []) := ⟨fun h_ => by rw [h_] at c37b1; exact absurd c37b1 (by decide)⟩
                go_upto_region 19 with (fail)
                go_cut [8] (fun v8 wd => ∃ g : Nat, v8 = .pointer (some ⟨g, 0, none⟩) ∧ Aside0 (wd.heap[g]? = some (.cells #[.int .i64 (wrap64 (rd x5_2 0)), .int .i64 (wrap64 (rd x5_2 1)), .int .i64 (wrap64 (rd x5_2 2)), .int .i64 (wrap64 (rd x5_2 3)), .slice none 0 0, .string (⟨#[]⟩ : ByteArray)] 48 (0, 0))) ∧ Aside0 (W1.heap.size ≤ g) ∧ Aside0 (Below W1.heap.size W1 wd))
                case first =>
                  have q0 := eq_true (of_decide_eq_true c37b1)
                  have qi0 : (0 < (x5_2.length : Int)) = True := eq_true (by have := of_decide_eq_true c37b1; omega)
                  have q1 := eq_true (of_decide_eq_true c38b1)
                  have qi1 : (1 < (x5_2.length : Int)) = True := eq_true (by have := of_decide_eq_true c38b1; omega)
                  have q2 := eq_true (of_decide_eq_true c39b1)
                  have qi2 : (2 < (x5_2.length : Int)) = True := eq_true (by have := of_decide_eq_true c39b1; omega)
                  have q3 := eq_true (of_decide_eq_true c40b1)
                  have qi3 : (3 < (x5_2.length : Int)) = True := eq_true (by have := of_decide_eq_true c40b1; omega)
                  refine start_ (n := 19) (S := fun w' => w'.cell? ad = some (.int .u8 (rd x5_2 0)) ∧ w'.cell? ⟨ad.block, ad.off + 1, none⟩ = some (.int .u8 (rd x5_2 1)) ∧ w'.cell? ⟨ad.block, ad.off + 2, none⟩ = some (.int .u8 (rd x5_2 2)) ∧ w'.cell? ⟨ad.block, ad.off + 3, none⟩ = some (.int .u8 (rd x5_2 3))) (ds := [18]) #[false, false, false, false, false, false, false, false, false, false, false, false, false, false, false, false, false, false, false] (by kernel_rfl) rfl rfl ⟨cell_old (below_drew1 (Below.refl _ _)) X0.out, cell_old (below_drew1 (Below.refl _ _)) X1.out, cell_old (below_drew1 (Below.refl _ _)) X2.out, cell_old (below_drew1 (Below.refl _ _)) X3.out⟩ (fun hHeld => ?_); refine with_tabW terrref5_Unpacked.tab19 terrref5_Unpacked.bits19 (fun HT_ HW_ => ?_)
                  refine pure_ (i := 0) (N := some 75) (v := ?_) (a' := ?_) #[true, false, false, false, false, false, false, false, false, false, false, false, false, false, false, false, false, false, false] rfl rfl (any_of HT_.out (by kernel_rfl)) (fun _ _ _ h => h) (Or.inl ⟨by rfl, ?_⟩) ?_ ?_
                  rotate_left
                  · intro w'
                    go_simp
                    with_reducible rfl
                  rotate_left
                  · simp only [Act.put, List.setIfInBounds_toArray, List.set_cons_zero, List.set_cons_succ, i64_w, i32_w]
                    rfl
                  refine pure_ (i := 4) (N := some 79) (v := ?_) (a' := ?_) #[true, false, false, false, true, false, false, false, false, false, false, false, false, false, false, false, false, false, false] rfl rfl (any_of HT_.out (by kernel_rfl)) (fun _ _ _ h => h) (Or.inl ⟨by rfl, ?_⟩) ?_ ?_
                  rotate_left
                  · intro w'
                    go_simp
                    with_reducible rfl
                  rotate_left
                  · simp only [Act.put, List.setIfInBounds_toArray, List.set_cons_zero, List.set_cons_succ, i64_w, i32_w]
                    rfl
                  refine pure_ (i := 8) (N := some 83) (v := ?_) (a' := ?_) #[true, false, false, false, true, false, false, false, true, false, false, false, false, false, false, false, false, false, false] rfl rfl (any_of HT_.out (by kernel_rfl)) (fun _ _ _ h => h) (Or.inl ⟨by rfl, ?_⟩) ?_ ?_
                  rotate_left
                  · intro w'
                    go_simp
                    with_reducible rfl
                  rotate_left
                  · simp only [Act.put, List.setIfInBounds_toArray, List.set_cons_zero, List.set_cons_succ, i64_w, i32_w]
                    rfl
                  refine pure_ (i := 12) (N := some 87) (v := ?_) (a' := ?_) #[true, false, false, false, true, false, false, false, true, false, false, false, true, false, false, false, false, false, false] rfl rfl (any_of HT_.out (by kernel_rfl)) (fun _ _ _ h => h) (Or.inl ⟨by rfl, ?_⟩) ?_ ?_
                  rotate_left
                  · intro w'
                    go_simp
                    with_reducible rfl
                  rotate_left
                  · simp only [Act.put, List.setIfInBounds_toArray, List.set_cons_zero, List.set_cons_succ, i64_w, i32_w]
                    rfl
                  refine pure_ (i := 1) (N := some 76) (v := ?_) (a' := ?_) #[true, true, false, false, true, false, false, false, true, false, false, false, true, false, false, false, false, false, false] rfl rfl (any_of HT_.out (by kernel_rfl)) (fun _ _ _ h => h) (Or.inl ⟨by rfl, ?_⟩) ?_ ?_
                  rotate_left
                  · intro w'
                    go_simp
                    with_reducible rfl
                  rotate_left
                  · simp only [Act.put, List.setIfInBounds_toArray, List.set_cons_zero, List.set_cons_succ, i64_w, i32_w]
                    rfl
                  refine pure_ (i := 5) (N := some 80) (v := ?_) (a' := ?_) #[true, true, false, false, true, true, false, false, true, false, false, false, true, false, false, false, false, false, false] rfl rfl (any_of HT_.out (by kernel_rfl)) (fun _ _ _ h => h) (Or.inl ⟨by rfl, ?_⟩) ?_ ?_
                  rotate_left
                  · intro w'
                    go_simp
                    with_reducible rfl
                  rotate_left
                  · simp only [Act.put, List.setIfInBounds_toArray, List.set_cons_zero, List.set_cons_succ, i64_w, i32_w]
                    rfl
                  refine pure_ (i := 9) (N := some 84) (v := ?_) (a' := ?_) #[true, true, false, false, true, true, false, false, true, true, false, false, true, false, false, false, false, false, false] rfl rfl (any_of HT_.out (by kernel_rfl)) (fun _ _ _ h => h) (Or.inl ⟨by rfl, ?_⟩) ?_ ?_
                  rotate_left
                  · intro w'
                    go_simp
                    with_reducible rfl
                  rotate_left
                  · simp only [Act.put, List.setIfInBounds_toArray, List.set_cons_zero, List.set_cons_succ, i64_w, i32_w]
                    rfl
                  refine pure_ (i := 13) (N := some 88) (v := ?_) (a' := ?_) #[true, true, false, false, true, true, false, false, true, true, false, false, true, true, false, false, false, false, false] rfl rfl (any_of HT_.out (by kernel_rfl)) (fun _ _ _ h => h) (Or.inl ⟨by rfl, ?_⟩) ?_ ?_
                  rotate_left
                  · intro w'
                    go_simp
                    with_reducible rfl
                  rotate_left
                  · simp only [Act.put, List.setIfInBounds_toArray, List.set_cons_zero, List.set_cons_succ, i64_w, i32_w]
                    rfl
                  refine take_ (i := 2) (N := some 77) (v := ?_) (a' := ?_) #[true, true, true, false, true, true, false, false, true, true, false, false, true, true, false, false, false, false, false] rfl rfl (take_ofW HT_.out HW_.out (by kernel_rfl)) (fun _ _ _ h => h) (Or.inl ⟨by rfl, ?_⟩) hHeld ?_ ?_
                  rotate_left
                  · rintro w' ⟨s0, s1, s2, s3⟩
                    go_simp
                    with_reducible rfl
                  rotate_left
                  · simp only [Act.put, List.setIfInBounds_toArray, List.set_cons_zero, List.set_cons_succ, i64_w, i32_w]
                    rfl
                  refine pure_ (i := 3) (N := some 78) (v := ?_) (a' := ?_) #[true, true, true, true, true, true, false, false, true, true, false, false, true, true, false, false, false, false, false] rfl rfl (any_of HT_.out (by kernel_rfl)) (fun _ _ _ h => h) (Or.inl ⟨by rfl, ?_⟩) ?_ ?_
                  rotate_left
                  · intro w'
                    go_simp
                    with_reducible rfl
                  rotate_left
                  · simp only [Act.put, List.setIfInBounds_toArray, List.set_cons_zero, List.set_cons_succ, i64_w, i32_w]
                    rfl
                  refine take_ (i := 6) (N := some 81) (v := ?_) (a' := ?_) #[true, true, true, true, true, true, true, false, true, true, false, false, true, true, false, false, false, false, false] rfl rfl (take_ofW HT_.out HW_.out (by kernel_rfl)) (fun _ _ _ h => h) (Or.inl ⟨by rfl, ?_⟩) hHeld ?_ ?_
                  rotate_left
                  · rintro w' ⟨s0, s1, s2, s3⟩
                    go_simp
                    with_reducible rfl
                  rotate_left
                  · simp only [Act.put, List.setIfInBounds_toArray, List.set_cons_zero, List.set_cons_succ, i64_w, i32_w]
                    rfl
                  refine pure_ (i := 7) (N := some 82) (v := ?_) (a' := ?_) #[true, true, true, true, true, true, true, true, true, true, false, false, true, true, false, false, false, false, false] rfl rfl (any_of HT_.out (by kernel_rfl)) (fun _ _ _ h => h) (Or.inl ⟨by rfl, ?_⟩) ?_ ?_
                  rotate_left
                  · intro w'
                    go_simp
                    with_reducible rfl
                  rotate_left
                  · simp only [Act.put, List.setIfInBounds_toArray, List.set_cons_zero, List.set_cons_succ, i64_w, i32_w]
                    rfl
                  refine take_ (i := 10) (N := some 85) (v := ?_) (a' := ?_) #[true, true, true, true, true, true, true, true, true, true, true, false, true, true, false, false, false, false, false] rfl rfl (take_ofW HT_.out HW_.out (by kernel_rfl)) (fun _ _ _ h => h) (Or.inl ⟨by rfl, ?_⟩) hHeld ?_ ?_
                  rotate_left
                  · rintro w' ⟨s0, s1, s2, s3⟩
                    go_simp
                    with_reducible rfl
                  rotate_left
                  · simp only [Act.put, List.setIfInBounds_toArray, List.set_cons_zero, List.set_cons_succ, i64_w, i32_w]
                    rfl
                  refine pure_ (i := 11) (N := some 86) (v := ?_) (a' := ?_) #[true, true, true, true, true, true, true, true, true, true, true, true, true, true, false, false, false, false, false] rfl rfl (any_of HT_.out (by kernel_rfl)) (fun _ _ _ h => h) (Or.inl ⟨by rfl, ?_⟩) ?_ ?_
                  rotate_left
                  · intro w'
                    go_simp
                    with_reducible rfl
                  rotate_left
                  · simp only [Act.put, List.setIfInBounds_toArray, List.set_cons_zero, List.set_cons_succ, i64_w, i32_w]
                    rfl
                  refine take_ (i := 14) (N := some 89) (v := ?_) (a' := ?_) #[true, true, true, true, true, true, true, true, true, true, true, true, true, true, true, false, false, false, false] rfl rfl (take_ofW HT_.out HW_.out (by kernel_rfl)) (fun _ _ _ h => h) (Or.inl ⟨by rfl, ?_⟩) hHeld ?_ ?_
                  rotate_left
                  · rintro w' ⟨s0, s1, s2, s3⟩
                    go_simp
                    with_reducible rfl
                  rotate_left
                  · simp only [Act.put, List.setIfInBounds_toArray, List.set_cons_zero, List.set_cons_succ, i64_w, i32_w]
                    rfl
                  refine pure_ (i := 15) (N := some 90) (v := ?_) (a' := ?_) #[true, true, true, true, true, true, true, true, true, true, true, true, true, true, true, true, false, false, false] rfl rfl (any_of HT_.out (by kernel_rfl)) (fun _ _ _ h => h) (Or.inl ⟨by rfl, ?_⟩) ?_ ?_
                  rotate_left
                  · intro w'
                    go_simp
                    with_reducible rfl
                  rotate_left
                  · simp only [Act.put, List.setIfInBounds_toArray, List.set_cons_zero, List.set_cons_succ, i64_w, i32_w]
                    rfl
                  refine pure_ (i := 16) (N := some 91) (v := ?_) (a' := ?_) #[true, true, true, true, true, true, true, true, true, true, true, true, true, true, true, true, true, false, false] rfl rfl (any_of HT_.out (by kernel_rfl)) (fun _ _ _ h => h) (Or.inl ⟨by rfl, ?_⟩) ?_ ?_
                  rotate_left
                  · intro w'
                    go_simp
                    with_reducible rfl
                  rotate_left
                  · simp only [Act.put, List.setIfInBounds_toArray, List.set_cons_zero, List.set_cons_succ, i64_w, i32_w]
                    rfl
                  refine one_ (i := 17) (N := some 8) #[true, true, true, true, true, true, true, true, true, true, true, true, true, true, true, true, true, true, false] rfl rfl (one_of HT_.out (by kernel_rfl)) (by decide) (fun K hK => ?_)
                  refine box_step ?hg (N := 8) ?hd (cs := #[.int .i64 0, .int .i64 0, .int .i64 0, .int .i64 0, .slice none 0 0, .string (⟨#[]⟩ : ByteArray)]) (t := 48) ?hr ?_; (case hd => rfl); (case hg => rfl); (case hr => first | (go_simp; done) | (go_simp; rfl))
                  intro g hg w23 hbox hb
                  have BK := Aside0.mk hbox
                  have GE := Aside0.mk (by rw [hg]; exact Nat.le_refl _ : W1.heap.size ≤ g)
                  have HB1 := Aside0.mk (below_step (below_drew1 (Below.refl W1.heap.size W1)) hb)
                  clear hbox hb hg
                  refine hK.out _ _ ⟨cell_old HB1.out X0.out, cell_old HB1.out X1.out, cell_old HB1.out X2.out, cell_old HB1.out X3.out⟩ (fun hHeld => ?_)
                  clear hK K
                  refine norm_ (a' := ?_) ?_ ?_
                  rotate_left
                  · show Act.put _ (some 8) _ = _
                    simp only [Act.put, List.setIfInBounds_toArray, List.set_cons_zero, List.set_cons_succ, i64_w, i32_w]
                    rfl
                  refine last_ (i := 18) (N := none) #[true, true, true, true, true, true, true, true, true, true, true, true, true, true, true, true, true, true, true] rfl rfl (one_of HT_.out (by kernel_rfl)) (by decide) (fun K hK => ?_)
                  have hs0 : w23.cell? ⟨g, 0, none⟩ = some (.int .i64 0) := (blk_cell BK.out 0).trans rfl
                  have hf0 := blk_frozen BK.out 0
                  have hs1 : w23.cell? ⟨g, 1, none⟩ = some (.int .i64 0) := (blk_cell BK.out 1).trans rfl
                  have hf1 := blk_frozen BK.out 1
                  have hs2 : w23.cell? ⟨g, 2, none⟩ = some (.int .i64 0) := (blk_cell BK.out 2).trans rfl
                  have hf2 := blk_frozen BK.out 2
                  have hs3 : w23.cell? ⟨g, 3, none⟩ = some (.int .i64 0) := (blk_cell BK.out 3).trans rfl
                  have hf3 := blk_frozen BK.out 3
                  have hs4 : w23.cell? ⟨g, 4, none⟩ = some (.slice none 0 0) := (blk_cell BK.out 4).trans rfl
                  have hf4 := blk_frozen BK.out 4
                  have hs5 : w23.cell? ⟨g, 5, none⟩ = some (.string (⟨#[]⟩ : ByteArray)) := (blk_cell BK.out 5).trans rfl
                  have hf5 := blk_frozen BK.out 5
                  refine skip_ (w1 := ?_) (by rfl) rfl ?_ ?_
                  rotate_left
                  · go_simp
                    rfl
                  refine hK.out _ _ ?_
                  clear hK K
                  refine done_ (done_of HT_.out (by kernel_rfl)) ?_
                  go_wp2_with (fail)
                  go_meet
                  case rel => exact ⟨g, rfl, ⟨six_ BK.out⟩, GE, ⟨below_set (below_set (below_set (below_set (below_set (below_set HB1.out  GE.out) GE.out) GE.out) GE.out) GE.out) GE.out⟩⟩
                case rest =>
                  obtain ⟨g, rfl, BK, GE, HB1⟩ := hcut
                  obtain ⟨W2, rfl⟩ : ∃ x, x = wc := ⟨_, rfl⟩
                  have hy4 := cell_old HB1.out X4.out
                  obtain ⟨i051, hi051, _, hsz51, _⟩ := info_parts info5
                  obtain ⟨A51, hcut51, hA51, hC51⟩ := print_mid_of (P := Try.prog) (Value.int .u8) 0 22 5 .i64 .i64 Try.underlying22 hi051 hsz51 (some ad) co x5_2 5 (ji44) (by omega) c42 c43 Hco.out
                  have HR51 := Aside0.mk (Kd.C_of_reads (h1 := fun _ => rfl) (hA51 _ (Kd.reads_of_C HCo.out)))
                  rw [show (Int.toNat 5) = 5 from rfl] at hcut51 HR51
                  rw [← Ny364.out] at hcut51 HR51
                  have hcv := Kd.C_string (P := Try.prog) (A := A51) (c := co - 5) Try.underlying22 Try.underlying5 Try.underlying9 (Kd.C_below HR51.out HB1.out)
                  clear hA51 hC51
                  have hs5 : W2.cell? ⟨g, 5, none⟩ = some (.string (⟨#[]⟩ : ByteArray)) := (blk_cell BK.out 5).trans rfl
                  have hf5 := blk_frozen BK.out 5
                  go_upto_region 20 with (fail)
                  go_cut [8] (fun v8 we => v8 = .pointer (some ⟨g, 0, none⟩) ∧ Aside0 (we.heap[g]? = some (.cells #[.int .i64 (wrap64 (rd x5_2 0)), .int .i64 (wrap64 (rd x5_2 1)), .int .i64 (wrap64 (rd x5_2 2)), .int .i64 (wrap64 (rd x5_2 3)), .slice none 0 0, .string (strOfNums y364)] 48 (0, 0))) ∧ Aside0 (Below W1.heap.size W1 we))
                  case first =>
                    go_wp2
                    go_meet
                    case rel => exact ⟨rfl, ⟨blk_put BK.out 5 _ rfl⟩, ⟨below_set HB1.out GE.out⟩⟩
                  case rest =>
                    clear BK HB1 hs5 hf5 hy4 hcut51 hcv
                    obtain ⟨rfl, BK, HB1⟩ := hcut
                    obtain ⟨W3, rfl⟩ : ∃ x, x = wc := ⟨_, rfl⟩
                    have hy4 := cell_old HB1.out X4.out
                    obtain ⟨A53, hcut53, hA53, hC53⟩ := print_drop_of (P := Try.prog) (Value.int .u8) 0 22 5 .i64 Try.underlying22 hi051 hsz51 (some ad) co x5_2 (ji44) (of_decide_eq_true c45b1) c43 Hco.out
                    have HA53 : Aside0 (∀ W, Kd.C (Kd.int .u8) W A0 l0.length l0 → Kd.C (Kd.int .u8) W A53 y369.length y369) := ⟨fun W_ h_ => by rw [Ny369.out]; exact Kd.C_of_reads (h1 := fun _ => rfl) (hA53 W_ (Kd.reads_of_C (HCa.out W_ h_)))⟩
                    rw [← Ny369.out] at hcut53 hC53
                    have HC53 := Aside0.mk hC53
                    clear hA53 hC53
                    go_upto_region 21 with (fail)
                    go_cut [5, 6, 8] (fun v5 v6 v8 wf => v6 = .int .i64 t375 ∧ v8 = .pointer (some ⟨g, 0, none⟩) ∧ Aside0 (Cut A0 l0 v5 t374) ∧ ∃ v4 : Value, Aside0 (wf.heap[g]? = some (.cells #[.int .i64 (wrap64 (rd x5_2 0)), .int .i64 (wrap64 (rd x5_2 1)), .int .i64 (wrap64 (rd x5_2 2)), .int .i64 (wrap64 (rd x5_2 3)), v4, .string (strOfNums y364)] 48 (0, 0))) ∧ Aside0 (Kd.S (Kd.slice 44 k44) 35 wf W1.heap.size (fun _ => True) v4 t373) ∧ Aside0 (Below W1.heap.size W1 wf))
                    case first =>
                      go_wp2_with (first | ((with_reducible refine gate_callee (f := 12) rfl ?_); refine goesL_ (some 109) rfl rfl Try.func12 (by kernel_rfl) rfl #[.slice A53 y369.length (co - (ji44).toNat)] rfl (by (try simp only [List.map_toArray, List.map_cons, List.map_nil]); first | done | rfl) ?_; (with_reducible refine (terrref5_ListsOf.calls kj30 _ _ y369 t373 t374 t375 _ ?side1 ?side2 A47.out).mono ?_); (case side1 => exact HA53.out _ (Kd.C_below HR0.out (below_step HB.out HB1.out))); (case side2 => exact HC53.out); rintro e w54 ⟨v376, v378, rfl, ho0, ho1, hb⟩; obtain ⟨A76, c76, e76⟩ := Kd.S_slice ho0; subst e76; refine ⟨_, rfl, ?_⟩; have HT := Aside0.mk (Kd.S_mono (ok' := fun k_ => W3.heap.size ≤ k_) (Kd.S_bound ho0) (fun k_ hk => hk.2.1)); have HZ := Aside0.mk HB1.out.size; have HX := Aside0.mk (show Cut A0 l0 v378 t374 from by obtain ⟨A_, c_, e_, l_, r_⟩ := ho1; exact ⟨A_, c_, e_, l_, fun W_ h_ => r_ W_ (HA53.out W_ h_)⟩); have HLT := Aside0.mk (blk_lt BK.out); replace BK := Aside0.mk (blk_below BK.out hb); replace HB1 := Aside0.mk (below_step HB1.out hb); clear hb ho0 ho1; have hs4 : w54.cell? ⟨g, 4, none⟩ = some (.slice none 0 0) := (blk_cell BK.out 4).trans rfl; have hf4 := blk_frozen BK.out 4))
                      go_meet
                      case rel => exact ⟨rfl, rfl, HX, _, ⟨blk_put BK.out 4 _ rfl⟩, ⟨Kd.S_lower (Kd.S_mono (Kd.S_far (p := ⟨g, 4, none⟩) HT.out (fun k_ hk => Nat.ne_of_gt (Nat.lt_of_lt_of_le HLT.out hk)) _) (fun _ _ => trivial)) HZ.out⟩, ⟨below_set HB1.out GE.out⟩⟩
                    case rest =>
                      clear BK HB1 hy4 hcut53
                      obtain ⟨rfl, rfl, HX, v4, BK, HS, HB1⟩ := hcut
                      obtain ⟨W4, rfl⟩ : ∃ x, x = wc := ⟨_, rfl⟩
                      have H := HC47.out
                      clear HC47
                      by_cases c48 : t375 = 0
                      rotate_left
                      · rw [if_neg c48] at H
                        have c48b0 : (t375 == 0) = false := beq_eq_false_iff_ne.mpr c48
                        have c48b1 : (t375 != 0) = true := bne_iff_ne.mpr c48
                        simp only [Option.some.injEq, Prod.mk.injEq] at H
                        obtain ⟨rfl, rfl⟩ := H
                        go_wp2
                        go_ret2
                        exact ⟨_, rfl, Kd.R_nil _ _ _ _ _, below_step HB.out HB1.out⟩
                      rw [if_pos c48] at H
                      have c48b0 : (t375 == 0) = true := beq_iff_eq.mpr c48
                      have c48b1 : (t375 != 0) = false := bne_eq_false_iff_eq.mpr c48
                      clear c48
                      by_cases c49 : x7_2.length < 1954687338268
                      rotate_left
                      · rw [if_neg c49] at H
                        exact absurd H (by simp)
                      rw [if_pos c49] at H
                      have LMc49 := Aside0.mk c49
                      clear c49
                      obtain ⟨y380, hy380⟩ : ∃ y_ : List (S48), y_ = (x7_2 ++ [(⟨wrap64 (rd x5_2 0), wrap64 (rd x5_2 1), wrap64 (rd x5_2 2), wrap64 (rd x5_2 3), t373, strOfNums y364⟩ : S48)]) := ⟨_, rfl⟩
                      rw [← hy380] at H
                      have Ny380 := Aside0.mk hy380
                      clear hy380
                      have H' := Aside0.mk H
                      clear H
                      obtain ⟨A76, c76, e76⟩ := Kd.S_slice HS.out
                      subst e76
                      have HL7 := Aside0.mk (Kd.R_lt HO_7.out)
                      replace HO_7 := Aside0.mk (Kd.R_below HO_7.out HB1.out)
                      have hs0 : W4.cell? ⟨g, 0, none⟩ = some (.int .i64 (wrap64 (rd x5_2 0))) := (blk_cell BK.out 0).trans rfl
                      have hs1 : W4.cell? ⟨g, 1, none⟩ = some (.int .i64 (wrap64 (rd x5_2 1))) := (blk_cell BK.out 1).trans rfl
                      have hs2 : W4.cell? ⟨g, 2, none⟩ = some (.int .i64 (wrap64 (rd x5_2 2))) := (blk_cell BK.out 2).trans rfl
                      have hs3 : W4.cell? ⟨g, 3, none⟩ = some (.int .i64 (wrap64 (rd x5_2 3))) := (blk_cell BK.out 3).trans rfl
                      have hs4 : W4.cell? ⟨g, 4, none⟩ = some (.slice A76 t373.length c76) := (blk_cell BK.out 4).trans rfl
                      have hs5 : W4.cell? ⟨g, 5, none⟩ = some (.string (strOfNums y364)) := (blk_cell BK.out 5).trans rfl
                      go_wp2_with (first | ((with_reducible refine gate_builtin (b := .append) (xs := #[.tmp 117, .tmp 119]) rfl ?_); (try (refine gate_guard (by rfl) ?_; dsimp only)); at_builtin; refine Kd.R_append k48 (w0 := w) w.heap.size rfl (.tmp 117) (.tmp 119) 46 48 (.agg #[(.int .i64 0), (.int .i64 0), (.int .i64 0), (.int .i64 0), (.slice none 0 0), (.string ⟨#[]⟩)]) 72 rfl Try.underlying46 info48 rfl (by decide) (by omega) u7 x7_2 (⟨wrap64 (rd x5_2 0), wrap64 (rd x5_2 1), wrap64 (rd x5_2 2), wrap64 (rd x5_2 3), t373, strOfNums y364⟩ : S48) [.int .i64 (wrap64 (rd x5_2 0)), .int .i64 (wrap64 (rd x5_2 1)), .int .i64 (wrap64 (rd x5_2 2)), .int .i64 (wrap64 (rd x5_2 3)), .slice A76 t373.length c76, .string (strOfNums y364)] (fun _ => True) (fun k_ => ((fun _ => True)) k_ ∧ some k_ ≠ (u7 : Value).ownBlock) rfl rfl ?aP (fun _ hk => hk) ?aF ?aO ?aB ?aS ?aL ?_; (case aP => exact k48_mkM _ _ _ (⟨wrap64 (rd x5_2 0), wrap64 (rd x5_2 1), wrap64 (rd x5_2 2), wrap64 (rd x5_2 3), t373, strOfNums y364⟩ : S48) (Kd.R_lower (Kd.R_mono (Kd.R_bound (Kd.S_R HS.out)) (fun k_ hk => ⟨trivial, fun e_ => absurd (HL7.out k_ e_.symm) (Nat.not_lt.mpr hk.2.1)⟩)) HB.out.size)); (case aB => exact (below_step HB.out HB1.out)); (case aF => exact (fun _ _ => trivial)); (case aO => exact HO_7.out); (case aS => exact (below_size (below_step HB.out HB1.out))); (case aL => have := LMc49.out; omega); intro v381 w56 ho hb hg hat; rw [← Ny380.out] at ho; have HO382 := Aside0.mk ho; have HB5 := Aside0.mk hb; clear ho hb hg hat))
                      go_roundg kj30
                      case measure => have := HJ17.out; have := HK2.out; have := HJ30.out; omega
                      case rel => exact ⟨(wrap64 (x4_2 - 1)), (t374), (y380), (by first | rfl | (simp; done) | (simp [*]; done)), H', ⟨by have := HJ17.out; have := HK2.out; have := HJ30.out; omega⟩, HX, HO382, HB5⟩
end Go.Proofs.Ytjgoehhhjffpmaa.Q

