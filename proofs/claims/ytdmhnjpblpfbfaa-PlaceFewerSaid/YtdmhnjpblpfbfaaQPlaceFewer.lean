/- What the Go function terrkeep5_PlaceFewer comes to, and its contract. Condition: its printed twin gives an answer, which is true. -/
import Derived.Test.YtdmhnjpblpfbfaaQf17
import Derived.Test.YtdmhnjpblpfbfaaQf15
import Derived.Test.YtdmhnjpblpfbfaaQf18
import Derived.Test.YtdmhnjpblpfbfaaQf16
import Derived.Test.YtdmhnjpblpfbfaaQf19
import Derived.Test.YtdmhnjpblpfbfaaQf20
import Derived.Test.YtdmhnjpblpfbfaaQf21
namespace Go.Proofs.Ytdmhnjpblpfbfaa.Q
open Go.RowKit Go.Proofs.YtdmhnjpblpfbfaaW.PrintWords Go.Proofs.YtdmhnjpblpfbfaaW.PrintLast Go.Proofs.YtdmhnjpblpfbfaaW.PrintMore
attribute [local go_sem] max2_int min2_int max_two min_two max_three min_three max_four min_four
set_option linter.unusedVariables false
set_option linter.unusedSimpArgs false
/-! ### terrkeep5_PlaceFewer: function 3 -/
def terrkeep5_PlaceFewer.j0 : Nat → List (S36) → Int → Int → Int → Int → List (S36) → Option (Bool)
  | 0, _, _, _, _, _, _ => none
  | k + 1, x7, x9, x11, x13, x14, x15 => (place_Best.f k x15).bind fun bt240 => (if 0 ≤ x11 then (if x11 ≤ (wrap64 (x11 + 1)) then (if (wrap64 (x11 + 1)) ≤ (x7.length : Int) then ((place_Best.f k ((x7.take ((wrap64 (x11 + 1)) : Int).toNat).drop (x11 : Int).toNat)).bind fun bt250 => (if x14 = 0 then (if bt240.2.2 = 0 then (if bt250.2.2 = 0 then (if x13 > x9 then (some false) else (if bt240.2.1 > x9 then (some false) else (if x11 < (x7.length : Int) then (if x9 > (wrap64 (x13 + ((rd_T36 x7 x11).f2))) then (some false) else (if (((rd_T36 x7 x11).f1).length : Int) = 0 then (if bt250.2.1 = 0 then (some true) else (if (((rd_T36 x7 x11).f1).length : Int) > 0 then (some (bt250.2.1 == ((rd_T36 x7 x11).f2))) else (some false))) else (if (((rd_T36 x7 x11).f1).length : Int) > 0 then (some (bt250.2.1 == ((rd_T36 x7 x11).f2))) else (some false)))) else (none)))) else (some false)) else (some false)) else (some false))) else (none)) else (none)) else (none))
def terrkeep5_PlaceFewer.f (k : Nat) (l0 : List Int) (a1 : Int) (a2 : Int) : Option (Bool) := (terrkeep5_placed.f k).bind fun t184 => (if t184 = true then ((terrkeep5_wants.f l0).bind fun t185 => ((place_Best.f k t185).bind fun bt188 => (if bt188.2.2 = 0 then (if (t185.length : Int) = 0 then (some (bt188.2.1 == 0)) else ((terrmake_Below.f a1 (t185.length : Int)).bind fun t193 => (if 0 ≤ t193 then (if t193 ≤ (t185.length : Int) then (if 0 ≤ (wrap64 (t193 + 1)) then (if (wrap64 (t193 + 1)) ≤ (t185.length : Int) then ((place_Want_19.f k (([(t185.take (t193 : Int).toNat), (t185.drop ((wrap64 (t193 + 1)) : Int).toNat)] : List (List (S36))))).bind fun t207 => ((place_Best.f k t207).bind fun bt210 => ((place_Want_20.f t185).bind fun t215 => (if t193 < (t215.length : Int) then (if (((rd_T36 t215 t193).f1).length : Int) > 0 then ((terrmake_Below.f a2 (((rd_T36 t215 t193).f1).length : Int)).bind fun t220 => (if t193 < (t185.length : Int) then (if 0 ≤ t220 then (if t220 ≤ (((rd_T36 t185 t193).f1).length : Int) then (if 0 ≤ (wrap64 (t220 + 1)) then (if (wrap64 (t220 + 1)) ≤ (((rd_T36 t185 t193).f1).length : Int) then ((api_Box_21.f k (([(((rd_T36 t185 t193).f1).take (t220 : Int).toNat), (((rd_T36 t185 t193).f1).drop ((wrap64 (t220 + 1)) : Int).toNat)] : List (List (S42))))).bind fun t236 => (terrkeep5_PlaceFewer.j0 k t185 bt188.2.1 t193 bt210.2.1 bt210.2.2 (t215.set (t193 : Int).toNat (⟨(⟨(rd_T36 t215 t193).f0.f0, (rd_T36 t215 t193).f0.f1, (rd_T36 t215 t193).f0.f2, (rd_T36 t215 t193).f0.f3, (rd_T36 t215 t193).f0.f4, (rd_T36 t215 t193).f0.f5⟩ : S33), t236, (rd_T36 t215 t193).f2⟩ : S36)))) else (none)) else (none)) else (none)) else (none)) else (none))) else (terrkeep5_PlaceFewer.j0 k t185 bt188.2.1 t193 bt210.2.1 bt210.2.2 t215)) else (none))))) else (none)) else (none)) else (none)) else (none)))) else (some false)))) else (some false))
def terrkeep5_PlaceFewer.T10 : Bool × List (List Nat × List Nat) := (true, [([], []), ([], []), ([0, 1], [0, 1]), ([], []), ([], []), ([4], [4]), ([3, 5], [3, 5]), ([2, 6], [2, 6]), ([7], [7]), ([8, 8], [8]), ([9], [9]), ([10], [10]), ([10], [10]), ([10], [10]), ([11, 9, 0, 1, 2, 3, 4, 5, 6, 7, 8, 9, 10, 11], [11]), ([12, 14, 0, 1, 2, 3, 4, 5, 6, 7, 8, 9, 10, 11, 12, 14], [12]), ([13, 15, 0, 1, 2, 3, 4, 5, 6, 7, 8, 9, 10, 11, 12, 13, 14, 15], [13])])
def terrkeep5_PlaceFewer.B10 : List Nat := [0, 0, 3, 0, 0, 16, 56, 127, 255, 511, 1023, 2047, 2047, 2047, 4095, 24575, 65535]
theorem terrkeep5_PlaceFewer.tab10 : rtab .any (opsOf Try.f3 10) = terrkeep5_PlaceFewer.T10 := by kernel_rfl
theorem terrkeep5_PlaceFewer.bits10 : waitsOk terrkeep5_PlaceFewer.T10.2 terrkeep5_PlaceFewer.B10 = true := by kernel_rfl
def terrkeep5_PlaceFewer.T14 : Bool × List (List Nat × List Nat) := (true, [([], []), ([], []), ([], []), ([], []), ([2, 3], [2, 3]), ([4], [4]), ([5], [5]), ([], []), ([6, 7], [6, 7]), ([], []), ([], []), ([9, 10], [9, 10]), ([11], [11]), ([12], [12]), ([], []), ([14], [14]), ([13, 15], [13, 15]), ([8, 16], [8, 16]), ([17], [17]), ([0, 1, 0, 1, 2, 3, 4, 5, 6, 7, 8, 9, 10, 11, 12, 13, 14, 15, 16, 17, 18], [0, 1]), ([19, 0, 1, 2, 3, 4, 5, 6, 7, 8, 9, 10, 11, 12, 13, 14, 15, 16, 17, 18], [19]), ([20, 18, 18, 0, 1, 2, 3, 4, 5, 6, 7, 8, 9, 10, 11, 12, 13, 14, 15, 16, 17, 18], [18, 20])])
def terrkeep5_PlaceFewer.B14 : List Nat := [0, 0, 0, 0, 12, 28, 60, 0, 252, 0, 0, 1536, 3584, 7680, 0, 16384, 65024, 131068, 262140, 524287, 1048575, 2097151]
theorem terrkeep5_PlaceFewer.tab14 : rtab .any (opsOf Try.f3 14) = terrkeep5_PlaceFewer.T14 := by kernel_rfl
theorem terrkeep5_PlaceFewer.bits14 : waitsOk terrkeep5_PlaceFewer.T14.2 terrkeep5_PlaceFewer.B14 = true := by kernel_rfl
set_option maxHeartbeats 8000000 in
set_option maxRecDepth 100000 in
theorem terrkeep5_PlaceFewer.calls (k : Nat) (A0 : Option Addr) (c0 : Nat) (l0 : List Int) (a1 : Int) (a2 : Int) (r : Bool) (w : World) (hr0 : Kd.C (Kd.int .i64) w A0 l0.length l0) (hc0 : l0.length ≤ c0) (h : terrkeep5_PlaceFewer.f k l0 a1 a2 = some r) (hr : r = true) :
    Calls Try.prog 3 #[.slice A0 l0.length c0, .int .i64 a1, .int .i64 a2] w fun e w' => e = .returned (.bool r) ∧ Below w.heap.size w w' := by
  have HR0 := Aside0.mk hr0
  have HC0 := Aside0.mk hc0
  clear hr0 hc0
  have HB := Aside0.mk (Below.refl w.heap.size w)
  have H : ((terrkeep5_placed.f k).bind fun t184 => (if t184 = true then ((terrkeep5_wants.f l0).bind fun t185 => ((place_Best.f k t185).bind fun bt188 => (if bt188.2.2 = 0 then (if (t185.length : Int) = 0 then (some (bt188.2.1 == 0)) else ((terrmake_Below.f a1 (t185.length : Int)).bind fun t193 => (if 0 ≤ t193 then (if t193 ≤ (t185.length : Int) then (if 0 ≤ (wrap64 (t193 + 1)) then (if (wrap64 (t193 + 1)) ≤ (t185.length : Int) then ((place_Want_19.f k (([(t185.take (t193 : Int).toNat), (t185.drop ((wrap64 (t193 + 1)) : Int).toNat)] : List (List (S36))))).bind fun t207 => ((place_Best.f k t207).bind fun bt210 => ((place_Want_20.f t185).bind fun t215 => (if t193 < (t215.length : Int) then (if (((rd_T36 t215 t193).f1).length : Int) > 0 then ((terrmake_Below.f a2 (((rd_T36 t215 t193).f1).length : Int)).bind fun t220 => (if t193 < (t185.length : Int) then (if 0 ≤ t220 then (if t220 ≤ (((rd_T36 t185 t193).f1).length : Int) then (if 0 ≤ (wrap64 (t220 + 1)) then (if (wrap64 (t220 + 1)) ≤ (((rd_T36 t185 t193).f1).length : Int) then ((api_Box_21.f k (([(((rd_T36 t185 t193).f1).take (t220 : Int).toNat), (((rd_T36 t185 t193).f1).drop ((wrap64 (t220 + 1)) : Int).toNat)] : List (List (S42))))).bind fun t236 => (terrkeep5_PlaceFewer.j0 k t185 bt188.2.1 t193 bt210.2.1 bt210.2.2 (t215.set (t193 : Int).toNat (⟨(⟨(rd_T36 t215 t193).f0.f0, (rd_T36 t215 t193).f0.f1, (rd_T36 t215 t193).f0.f2, (rd_T36 t215 t193).f0.f3, (rd_T36 t215 t193).f0.f4, (rd_T36 t215 t193).f0.f5⟩ : S33), t236, (rd_T36 t215 t193).f2⟩ : S36)))) else (none)) else (none)) else (none)) else (none)) else (none))) else (terrkeep5_PlaceFewer.j0 k t185 bt188.2.1 t193 bt210.2.1 bt210.2.2 t215)) else (none))))) else (none)) else (none)) else (none)) else (none)))) else (some false)))) else (some false))) = some r := h
  clear h
  replace H := Option.bind_eq_some_iff.mp H
  obtain ⟨t184, A40, H⟩ := H
  replace H : (if t184 = true then ((terrkeep5_wants.f l0).bind fun t185 => ((place_Best.f k t185).bind fun bt188 => (if bt188.2.2 = 0 then (if (t185.length : Int) = 0 then (some (bt188.2.1 == 0)) else ((terrmake_Below.f a1 (t185.length : Int)).bind fun t193 => (if 0 ≤ t193 then (if t193 ≤ (t185.length : Int) then (if 0 ≤ (wrap64 (t193 + 1)) then (if (wrap64 (t193 + 1)) ≤ (t185.length : Int) then ((place_Want_19.f k (([(t185.take (t193 : Int).toNat), (t185.drop ((wrap64 (t193 + 1)) : Int).toNat)] : List (List (S36))))).bind fun t207 => ((place_Best.f k t207).bind fun bt210 => ((place_Want_20.f t185).bind fun t215 => (if t193 < (t215.length : Int) then (if (((rd_T36 t215 t193).f1).length : Int) > 0 then ((terrmake_Below.f a2 (((rd_T36 t215 t193).f1).length : Int)).bind fun t220 => (if t193 < (t185.length : Int) then (if 0 ≤ t220 then (if t220 ≤ (((rd_T36 t185 t193).f1).length : Int) then (if 0 ≤ (wrap64 (t220 + 1)) then (if (wrap64 (t220 + 1)) ≤ (((rd_T36 t185 t193).f1).length : Int) then ((api_Box_21.f k (([(((rd_T36 t185 t193).f1).take (t220 : Int).toNat), (((rd_T36 t185 t193).f1).drop ((wrap64 (t220 + 1)) : Int).toNat)] : List (List (S42))))).bind fun t236 => (terrkeep5_PlaceFewer.j0 k t185 bt188.2.1 t193 bt210.2.1 bt210.2.2 (t215.set (t193 : Int).toNat (⟨(⟨(rd_T36 t215 t193).f0.f0, (rd_T36 t215 t193).f0.f1, (rd_T36 t215 t193).f0.f2, (rd_T36 t215 t193).f0.f3, (rd_T36 t215 t193).f0.f4, (rd_T36 t215 t193).f0.f5⟩ : S33), t236, (rd_T36 t215 t193).f2⟩ : S36)))) else (none)) else (none)) else (none)) else (none)) else (none))) else (terrkeep5_PlaceFewer.j0 k t185 bt188.2.1 t193 bt210.2.1 bt210.2.2 t215)) else (none))))) else (none)) else (none)) else (none)) else (none)))) else (some false)))) else (some false)) = some r := H
  have A4 := Aside0.mk A40
  clear A40
  by_cases c5 : t184 = true
  · subst c5
    have H1 : ((terrkeep5_wants.f l0).bind fun t185 => ((place_Best.f k t185).bind fun bt188 => (if bt188.2.2 = 0 then (if (t185.length : Int) = 0 then (some (bt188.2.1 == 0)) else ((terrmake_Below.f a1 (t185.length : Int)).bind fun t193 => (if 0 ≤ t193 then (if t193 ≤ (t185.length : Int) then (if 0 ≤ (wrap64 (t193 + 1)) then (if (wrap64 (t193 + 1)) ≤ (t185.length : Int) then ((place_Want_19.f k (([(t185.take (t193 : Int).toNat), (t185.drop ((wrap64 (t193 + 1)) : Int).toNat)] : List (List (S36))))).bind fun t207 => ((place_Best.f k t207).bind fun bt210 => ((place_Want_20.f t185).bind fun t215 => (if t193 < (t215.length : Int) then (if (((rd_T36 t215 t193).f1).length : Int) > 0 then ((terrmake_Below.f a2 (((rd_T36 t215 t193).f1).length : Int)).bind fun t220 => (if t193 < (t185.length : Int) then (if 0 ≤ t220 then (if t220 ≤ (((rd_T36 t185 t193).f1).length : Int) then (if 0 ≤ (wrap64 (t220 + 1)) then (if (wrap64 (t220 + 1)) ≤ (((rd_T36 t185 t193).f1).length : Int) then ((api_Box_21.f k (([(((rd_T36 t185 t193).f1).take (t220 : Int).toNat), (((rd_T36 t185 t193).f1).drop ((wrap64 (t220 + 1)) : Int).toNat)] : List (List (S42))))).bind fun t236 => (terrkeep5_PlaceFewer.j0 k t185 bt188.2.1 t193 bt210.2.1 bt210.2.2 (t215.set (t193 : Int).toNat (⟨(⟨(rd_T36 t215 t193).f0.f0, (rd_T36 t215 t193).f0.f1, (rd_T36 t215 t193).f0.f2, (rd_T36 t215 t193).f0.f3, (rd_T36 t215 t193).f0.f4, (rd_T36 t215 t193).f0.f5⟩ : S33), t236, (rd_T36 t215 t193).f2⟩ : S36)))) else (none)) else (none)) else (none)) else (none)) else (none))) else (terrkeep5_PlaceFewer.j0 k t185 bt188.2.1 t193 bt210.2.1 bt210.2.2 t215)) else (none))))) else (none)) else (none)) else (none)) else (none)))) else (some false)))) = some r := by rw [if_pos rfl] at H; exact H
    clear H
    have H := H1
    clear H1
    replace H := Option.bind_eq_some_iff.mp H
    obtain ⟨t185, A60, H⟩ := H
    replace H : ((place_Best.f k t185).bind fun bt188 => (if bt188.2.2 = 0 then (if (t185.length : Int) = 0 then (some (bt188.2.1 == 0)) else ((terrmake_Below.f a1 (t185.length : Int)).bind fun t193 => (if 0 ≤ t193 then (if t193 ≤ (t185.length : Int) then (if 0 ≤ (wrap64 (t193 + 1)) then (if (wrap64 (t193 + 1)) ≤ (t185.length : Int) then ((place_Want_19.f k (([(t185.take (t193 : Int).toNat), (t185.drop ((wrap64 (t193 + 1)) : Int).toNat)] : List (List (S36))))).bind fun t207 => ((place_Best.f k t207).bind fun bt210 => ((place_Want_20.f t185).bind fun t215 => (if t193 < (t215.length : Int) then (if (((rd_T36 t215 t193).f1).length : Int) > 0 then ((terrmake_Below.f a2 (((rd_T36 t215 t193).f1).length : Int)).bind fun t220 => (if t193 < (t185.length : Int) then (if 0 ≤ t220 then (if t220 ≤ (((rd_T36 t185 t193).f1).length : Int) then (if 0 ≤ (wrap64 (t220 + 1)) then (if (wrap64 (t220 + 1)) ≤ (((rd_T36 t185 t193).f1).length : Int) then ((api_Box_21.f k (([(((rd_T36 t185 t193).f1).take (t220 : Int).toNat), (((rd_T36 t185 t193).f1).drop ((wrap64 (t220 + 1)) : Int).toNat)] : List (List (S42))))).bind fun t236 => (terrkeep5_PlaceFewer.j0 k t185 bt188.2.1 t193 bt210.2.1 bt210.2.2 (t215.set (t193 : Int).toNat (⟨(⟨(rd_T36 t215 t193).f0.f0, (rd_T36 t215 t193).f0.f1, (rd_T36 t215 t193).f0.f2, (rd_T36 t215 t193).f0.f3, (rd_T36 t215 t193).f0.f4, (rd_T36 t215 t193).f0.f5⟩ : S33), t236, (rd_T36 t215 t193).f2⟩ : S36)))) else (none)) else (none)) else (none)) else (none)) else (none))) else (terrkeep5_PlaceFewer.j0 k t185 bt188.2.1 t193 bt210.2.1 bt210.2.2 t215)) else (none))))) else (none)) else (none)) else (none)) else (none)))) else (some false))) = some r := H
    have A6 := Aside0.mk A60
    clear A60
    replace H := Option.bind_eq_some_iff.mp H
    obtain ⟨⟨t188, t189, t190⟩, A70, H⟩ := H
    replace H : (if t190 = 0 then (if (t185.length : Int) = 0 then (some (t189 == 0)) else ((terrmake_Below.f a1 (t185.length : Int)).bind fun t193 => (if 0 ≤ t193 then (if t193 ≤ (t185.length : Int) then (if 0 ≤ (wrap64 (t193 + 1)) then (if (wrap64 (t193 + 1)) ≤ (t185.length : Int) then ((place_Want_19.f k (([(t185.take (t193 : Int).toNat), (t185.drop ((wrap64 (t193 + 1)) : Int).toNat)] : List (List (S36))))).bind fun t207 => ((place_Best.f k t207).bind fun bt210 => ((place_Want_20.f t185).bind fun t215 => (if t193 < (t215.length : Int) then (if (((rd_T36 t215 t193).f1).length : Int) > 0 then ((terrmake_Below.f a2 (((rd_T36 t215 t193).f1).length : Int)).bind fun t220 => (if t193 < (t185.length : Int) then (if 0 ≤ t220 then (if t220 ≤ (((rd_T36 t185 t193).f1).length : Int) then (if 0 ≤ (wrap64 (t220 + 1)) then (if (wrap64 (t220 + 1)) ≤ (((rd_T36 t185 t193).f1).length : Int) then ((api_Box_21.f k (([(((rd_T36 t185 t193).f1).take (t220 : Int).toNat), (((rd_T36 t185 t193).f1).drop ((wrap64 (t220 + 1)) : Int).toNat)] : List (List (S42))))).bind fun t236 => (terrkeep5_PlaceFewer.j0 k t185 t189 t193 bt210.2.1 bt210.2.2 (t215.set (t193 : Int).toNat (⟨(⟨(rd_T36 t215 t193).f0.f0, (rd_T36 t215 t193).f0.f1, (rd_T36 t215 t193).f0.f2, (rd_T36 t215 t193).f0.f3, (rd_T36 t215 t193).f0.f4, (rd_T36 t215 t193).f0.f5⟩ : S33), t236, (rd_T36 t215 t193).f2⟩ : S36)))) else (none)) else (none)) else (none)) else (none)) else (none))) else (terrkeep5_PlaceFewer.j0 k t185 t189 t193 bt210.2.1 bt210.2.2 t215)) else (none))))) else (none)) else (none)) else (none)) else (none)))) else (some false)) = some r := H
    have A7 := Aside0.mk A70
    clear A70
    by_cases c8 : t190 = 0
    · rw [if_pos c8] at H
      have c8b0 : (t190 == 0) = true := beq_iff_eq.mpr c8
      have c8b1 : (t190 != 0) = false := bne_eq_false_iff_eq.mpr c8
      clear c8
      by_cases c9 : (t185.length : Int) = 0
      · rw [if_pos c9] at H
        have c9b0 : ((t185.length : Int) == 0) = true := beq_iff_eq.mpr c9
        have c9b1 : ((t185.length : Int) != 0) = false := bne_eq_false_iff_eq.mpr c9
        clear c9
        clear hr
        obtain rfl := Option.some.inj H
        go_enter Try.func3, Try.ntmps3
        go_wp2_with (first | ((with_reducible refine gate_callee (f := 15) rfl ?_); refine goesL_ (some 23) rfl rfl Try.func15 (by kernel_rfl) rfl #[] rfl (by (try simp only [List.map_toArray, List.map_cons, List.map_nil]); first | done | rfl | (simp only [List.length_drop, List.length_take]; rfl)) ?_; (with_reducible refine (terrkeep5_placed.calls k  true _ A4.out).mono ?_); rintro e w10 ⟨rfl, hb⟩; refine ⟨_, rfl, ?_⟩; have n0_ := Aside0.mk (below_step (by repeat (first | (with_reducible first | exact HB.out | apply below_alloc | apply pw_below_drewN | apply below_drew1) | exact HB.out)) hb); clear HB; have HB := n0_; clear n0_; (try clear hb); (try clear hb2); (try clear hk); (try clear hi)) | ((with_reducible refine gate_callee (f := 16) rfl ?_); refine goesL_ (some 26) rfl rfl Try.func16 (by kernel_rfl) rfl #[.slice A0 l0.length c0] rfl (by (try simp only [List.map_toArray, List.map_cons, List.map_nil]); first | done | rfl | (simp only [List.length_drop, List.length_take]; rfl)) ?_; (with_reducible refine (terrkeep5_wants.calls _ _ l0 t185 _ ?side1 ?side2 A6.out).mono ?_); (case side1 => repeat (first | exact (Kd.C_below HR0.out HB.out) | (with_reducible refine Kd.C_alloc ?_ _) | (with_reducible refine Kd.C_drewN ?_ _) | (with_reducible refine Kd.C_drew ?_))); (case side2 => exact HC0.out); rintro e w11 ⟨v186, rfl, ho0, hb⟩; refine ⟨_, rfl, ?_⟩; have n0_ := Aside0.mk (Kd.N_lower (Kd.N_mono (ok' := fun k_ => True) (Kd.R_N (Kd.R_bound ho0)) (fun k_ hk_ => trivial)) (below_size (by repeat (first | (with_reducible first | exact HB.out | apply below_alloc | apply pw_below_drewN | apply below_drew1) | exact HB.out)))); have n1_ := Aside0.mk (below_step (by repeat (first | (with_reducible first | exact HB.out | apply below_alloc | apply pw_below_drewN | apply below_drew1) | exact HB.out)) hb); clear HB; have HO187 := n0_; have HB := n1_; clear n0_ n1_; (try clear hb); (try clear hb2); (try clear hk); (try clear hi); (try clear ho0); obtain ⟨Ao12, co12, eo12⟩ := Kd.N_slice HO187.out; subst eo12) | ((with_reducible refine gate_callee (f := 17) rfl ?_); refine goesL_ (some 29) rfl rfl Try.func17 (by kernel_rfl) rfl #[.slice Ao12 t185.length co12] rfl (by (try simp only [List.map_toArray, List.map_cons, List.map_nil]); first | done | rfl | (simp only [List.length_drop, List.length_take]; rfl)) ?_; (with_reducible refine (place_Best.calls k _ _ t185 t188 t189 t190 _ ?side1 ?side2 A7.out).mono ?_); (case side1 => repeat (first | exact (Kd.N_reads' HO187.out).2.2 | (with_reducible refine Kd.C_alloc ?_ _) | (with_reducible refine Kd.C_drewN ?_ _) | (with_reducible refine Kd.C_drew ?_))); (case side2 => exact (Kd.N_reads' HO187.out).2.1); rintro e w13 ⟨v191, rfl, ho0, hb⟩; refine ⟨_, rfl, ?_⟩; have n0_ := Aside0.mk (Kd.N_elder' (by (with_reducible repeat (first | apply Kd.N_alloc | apply Kd.N_drewN | apply Kd.N_drew)); exact HO187.out) (Kd.R_base ho0) hb); have n1_ := Aside0.mk (Kd.R_lower ho0 (below_size (by repeat (first | (with_reducible first | exact HB.out | apply below_alloc | apply pw_below_drewN | apply below_drew1) | exact HB.out)))); have n2_ := Aside0.mk (below_step (by repeat (first | (with_reducible first | exact HB.out | apply below_alloc | apply pw_below_drewN | apply below_drew1) | exact HB.out)) hb); clear HO187; clear HB; have HO187 := n0_; have HO192 := n1_; have HB := n2_; clear n0_ n1_ n2_; (try clear hb); (try clear hb2); (try clear hk); (try clear hi); (try clear ho0)))
        go_ret
        exact ⟨by first | rfl | (simp [errW_none, errW_some] <;> rfl) | (simp [*, errW_none, errW_some] <;> rfl), by repeat (first | (with_reducible first | exact HB.out | apply below_alloc | apply pw_below_drewN | apply below_drew1) | exact HB.out)⟩
      · rw [if_neg c9] at H
        have c9b0 : ((t185.length : Int) == 0) = false := beq_eq_false_iff_ne.mpr c9
        have c9b1 : ((t185.length : Int) != 0) = true := bne_iff_ne.mpr c9
        have c9b2 : ¬ (t185 = []) := fun h_ => c9 (by rw [h_]; rfl)
        replace H := Option.bind_eq_some_iff.mp H
        obtain ⟨t193, A140, H⟩ := H
        replace H : (if 0 ≤ t193 then (if t193 ≤ (t185.length : Int) then (if 0 ≤ (wrap64 (t193 + 1)) then (if (wrap64 (t193 + 1)) ≤ (t185.length : Int) then ((place_Want_19.f k (([(t185.take (t193 : Int).toNat), (t185.drop ((wrap64 (t193 + 1)) : Int).toNat)] : List (List (S36))))).bind fun t207 => ((place_Best.f k t207).bind fun bt210 => ((place_Want_20.f t185).bind fun t215 => (if t193 < (t215.length : Int) then (if (((rd_T36 t215 t193).f1).length : Int) > 0 then ((terrmake_Below.f a2 (((rd_T36 t215 t193).f1).length : Int)).bind fun t220 => (if t193 < (t185.length : Int) then (if 0 ≤ t220 then (if t220 ≤ (((rd_T36 t185 t193).f1).length : Int) then (if 0 ≤ (wrap64 (t220 + 1)) then (if (wrap64 (t220 + 1)) ≤ (((rd_T36 t185 t193).f1).length : Int) then ((api_Box_21.f k (([(((rd_T36 t185 t193).f1).take (t220 : Int).toNat), (((rd_T36 t185 t193).f1).drop ((wrap64 (t220 + 1)) : Int).toNat)] : List (List (S42))))).bind fun t236 => (terrkeep5_PlaceFewer.j0 k t185 t189 t193 bt210.2.1 bt210.2.2 (t215.set (t193 : Int).toNat (⟨(⟨(rd_T36 t215 t193).f0.f0, (rd_T36 t215 t193).f0.f1, (rd_T36 t215 t193).f0.f2, (rd_T36 t215 t193).f0.f3, (rd_T36 t215 t193).f0.f4, (rd_T36 t215 t193).f0.f5⟩ : S33), t236, (rd_T36 t215 t193).f2⟩ : S36)))) else (none)) else (none)) else (none)) else (none)) else (none))) else (terrkeep5_PlaceFewer.j0 k t185 t189 t193 bt210.2.1 bt210.2.2 t215)) else (none))))) else (none)) else (none)) else (none)) else (none)) = some r := H
        have A14 := Aside0.mk A140
        clear A140
        by_cases c15 : 0 ≤ t193
        · rw [if_pos c15] at H
          have c15b0 := eq_true c15
          have c15b1 : decide (0 ≤ t193) = true := decide_eq_true c15
          clear c15
          by_cases c16 : t193 ≤ (t185.length : Int)
          · rw [if_pos c16] at H
            have c16b0 := eq_true c16
            have c16b1 : decide (t193 ≤ (t185.length : Int)) = true := decide_eq_true c16
            clear c16
            obtain ⟨y194, hy194⟩ : ∃ y_ : List (S36), y_ = (t185.take (t193 : Int).toNat) := ⟨_, rfl⟩
            replace H : (if 0 ≤ (wrap64 (t193 + 1)) then (if (wrap64 (t193 + 1)) ≤ (t185.length : Int) then ((place_Want_19.f k (([y194, (t185.drop ((wrap64 (t193 + 1)) : Int).toNat)] : List (List (S36))))).bind fun t207 => ((place_Best.f k t207).bind fun bt210 => ((place_Want_20.f t185).bind fun t215 => (if t193 < (t215.length : Int) then (if (((rd_T36 t215 t193).f1).length : Int) > 0 then ((terrmake_Below.f a2 (((rd_T36 t215 t193).f1).length : Int)).bind fun t220 => (if t193 < (t185.length : Int) then (if 0 ≤ t220 then (if t220 ≤ (((rd_T36 t185 t193).f1).length : Int) then (if 0 ≤ (wrap64 (t220 + 1)) then (if (wrap64 (t220 + 1)) ≤ (((rd_T36 t185 t193).f1).length : Int) then ((api_Box_21.f k (([(((rd_T36 t185 t193).f1).take (t220 : Int).toNat), (((rd_T36 t185 t193).f1).drop ((wrap64 (t220 + 1)) : Int).toNat)] : List (List (S42))))).bind fun t236 => (terrkeep5_PlaceFewer.j0 k t185 t189 t193 bt210.2.1 bt210.2.2 (t215.set (t193 : Int).toNat (⟨(⟨(rd_T36 t215 t193).f0.f0, (rd_T36 t215 t193).f0.f1, (rd_T36 t215 t193).f0.f2, (rd_T36 t215 t193).f0.f3, (rd_T36 t215 t193).f0.f4, (rd_T36 t215 t193).f0.f5⟩ : S33), t236, (rd_T36 t215 t193).f2⟩ : S36)))) else (none)) else (none)) else (none)) else (none)) else (none))) else (terrkeep5_PlaceFewer.j0 k t185 t189 t193 bt210.2.1 bt210.2.2 t215)) else (none))))) else (none)) else (none)) = some r := by first | (rw [hy194]; with_reducible exact H) | (have H2_ := (Option.bind_some _ _).symm.trans H; rw [hy194]; with_reducible exact H2_) | (have H2_ := (Option.bind_some _ _).symm.trans H; with_reducible exact H2_) | with_reducible exact H | (rw [hy194]; exact H) | exact H
            have Ny194 := Aside0.mk hy194
            clear hy194
            obtain ⟨ji17, hji17⟩ : ∃ j_ : Int, (wrap64 (t193 + 1)) = j_ := ⟨_, rfl⟩
            replace H : (if 0 ≤ (ji17) then (if (ji17) ≤ (t185.length : Int) then ((place_Want_19.f k (([y194, (t185.drop ((ji17) : Int).toNat)] : List (List (S36))))).bind fun t207 => ((place_Best.f k t207).bind fun bt210 => ((place_Want_20.f t185).bind fun t215 => (if t193 < (t215.length : Int) then (if (((rd_T36 t215 t193).f1).length : Int) > 0 then ((terrmake_Below.f a2 (((rd_T36 t215 t193).f1).length : Int)).bind fun t220 => (if t193 < (t185.length : Int) then (if 0 ≤ t220 then (if t220 ≤ (((rd_T36 t185 t193).f1).length : Int) then (if 0 ≤ (wrap64 (t220 + 1)) then (if (wrap64 (t220 + 1)) ≤ (((rd_T36 t185 t193).f1).length : Int) then ((api_Box_21.f k (([(((rd_T36 t185 t193).f1).take (t220 : Int).toNat), (((rd_T36 t185 t193).f1).drop ((wrap64 (t220 + 1)) : Int).toNat)] : List (List (S42))))).bind fun t236 => (terrkeep5_PlaceFewer.j0 k t185 t189 t193 bt210.2.1 bt210.2.2 (t215.set (t193 : Int).toNat (⟨(⟨(rd_T36 t215 t193).f0.f0, (rd_T36 t215 t193).f0.f1, (rd_T36 t215 t193).f0.f2, (rd_T36 t215 t193).f0.f3, (rd_T36 t215 t193).f0.f4, (rd_T36 t215 t193).f0.f5⟩ : S33), t236, (rd_T36 t215 t193).f2⟩ : S36)))) else (none)) else (none)) else (none)) else (none)) else (none))) else (terrkeep5_PlaceFewer.j0 k t185 t189 t193 bt210.2.1 bt210.2.2 t215)) else (none))))) else (none)) else (none)) = some r := by first | (rw [hji17] at H; exact H) | (simp only [hji17] at H ⊢; exact H)
            (try rw [hji17] at A4)
            (try rw [hji17] at A6)
            (try rw [hji17] at A7)
            (try rw [hji17] at A14)
            have hji17w : (IntKind.i64.wrap (t193 + 1)) = ji17 := (i64_w _).trans hji17
            by_cases c18 : 0 ≤ (ji17)
            · rw [if_pos c18] at H
              have c18b0 := eq_true c18
              have c18b1 : decide (0 ≤ (ji17)) = true := decide_eq_true c18
              clear c18
              by_cases c19 : (ji17) ≤ (t185.length : Int)
              · rw [if_pos c19] at H
                have c19b0 := eq_true c19
                have c19b1 : decide ((ji17) ≤ (t185.length : Int)) = true := decide_eq_true c19
                clear c19
                obtain ⟨y199, hy199⟩ : ∃ y_ : List (S36), y_ = (t185.drop ((ji17) : Int).toNat) := ⟨_, rfl⟩
                replace H : ((place_Want_19.f k (([y194, y199] : List (List (S36))))).bind fun t207 => ((place_Best.f k t207).bind fun bt210 => ((place_Want_20.f t185).bind fun t215 => (if t193 < (t215.length : Int) then (if (((rd_T36 t215 t193).f1).length : Int) > 0 then ((terrmake_Below.f a2 (((rd_T36 t215 t193).f1).length : Int)).bind fun t220 => (if t193 < (t185.length : Int) then (if 0 ≤ t220 then (if t220 ≤ (((rd_T36 t185 t193).f1).length : Int) then (if 0 ≤ (wrap64 (t220 + 1)) then (if (wrap64 (t220 + 1)) ≤ (((rd_T36 t185 t193).f1).length : Int) then ((api_Box_21.f k (([(((rd_T36 t185 t193).f1).take (t220 : Int).toNat), (((rd_T36 t185 t193).f1).drop ((wrap64 (t220 + 1)) : Int).toNat)] : List (List (S42))))).bind fun t236 => (terrkeep5_PlaceFewer.j0 k t185 t189 t193 bt210.2.1 bt210.2.2 (t215.set (t193 : Int).toNat (⟨(⟨(rd_T36 t215 t193).f0.f0, (rd_T36 t215 t193).f0.f1, (rd_T36 t215 t193).f0.f2, (rd_T36 t215 t193).f0.f3, (rd_T36 t215 t193).f0.f4, (rd_T36 t215 t193).f0.f5⟩ : S33), t236, (rd_T36 t215 t193).f2⟩ : S36)))) else (none)) else (none)) else (none)) else (none)) else (none))) else (terrkeep5_PlaceFewer.j0 k t185 t189 t193 bt210.2.1 bt210.2.2 t215)) else (none))))) = some r := by first | (rw [hy199]; with_reducible exact H) | (have H2_ := (Option.bind_some _ _).symm.trans H; rw [hy199]; with_reducible exact H2_) | (have H2_ := (Option.bind_some _ _).symm.trans H; with_reducible exact H2_) | with_reducible exact H | (rw [hy199]; exact H) | exact H
                have Ny199 := Aside0.mk hy199
                clear hy199
                obtain ⟨y204, hy204⟩ : ∃ y_ : List (List (S36)), y_ = (([y194, y199] : List (List (S36)))) := ⟨_, rfl⟩
                replace H : ((place_Want_19.f k y204).bind fun t207 => ((place_Best.f k t207).bind fun bt210 => ((place_Want_20.f t185).bind fun t215 => (if t193 < (t215.length : Int) then (if (((rd_T36 t215 t193).f1).length : Int) > 0 then ((terrmake_Below.f a2 (((rd_T36 t215 t193).f1).length : Int)).bind fun t220 => (if t193 < (t185.length : Int) then (if 0 ≤ t220 then (if t220 ≤ (((rd_T36 t185 t193).f1).length : Int) then (if 0 ≤ (wrap64 (t220 + 1)) then (if (wrap64 (t220 + 1)) ≤ (((rd_T36 t185 t193).f1).length : Int) then ((api_Box_21.f k (([(((rd_T36 t185 t193).f1).take (t220 : Int).toNat), (((rd_T36 t185 t193).f1).drop ((wrap64 (t220 + 1)) : Int).toNat)] : List (List (S42))))).bind fun t236 => (terrkeep5_PlaceFewer.j0 k t185 t189 t193 bt210.2.1 bt210.2.2 (t215.set (t193 : Int).toNat (⟨(⟨(rd_T36 t215 t193).f0.f0, (rd_T36 t215 t193).f0.f1, (rd_T36 t215 t193).f0.f2, (rd_T36 t215 t193).f0.f3, (rd_T36 t215 t193).f0.f4, (rd_T36 t215 t193).f0.f5⟩ : S33), t236, (rd_T36 t215 t193).f2⟩ : S36)))) else (none)) else (none)) else (none)) else (none)) else (none))) else (terrkeep5_PlaceFewer.j0 k t185 t189 t193 bt210.2.1 bt210.2.2 t215)) else (none))))) = some r := by first | (rw [hy204]; with_reducible exact H) | (have H2_ := (Option.bind_some _ _).symm.trans H; rw [hy204]; with_reducible exact H2_) | (have H2_ := (Option.bind_some _ _).symm.trans H; with_reducible exact H2_) | with_reducible exact H | (rw [hy204]; exact H) | exact H
                have Ny204 := Aside0.mk hy204
                clear hy204
                replace H := Option.bind_eq_some_iff.mp H
                obtain ⟨t207, A200, H⟩ := H
                replace H : ((place_Best.f k t207).bind fun bt210 => ((place_Want_20.f t185).bind fun t215 => (if t193 < (t215.length : Int) then (if (((rd_T36 t215 t193).f1).length : Int) > 0 then ((terrmake_Below.f a2 (((rd_T36 t215 t193).f1).length : Int)).bind fun t220 => (if t193 < (t185.length : Int) then (if 0 ≤ t220 then (if t220 ≤ (((rd_T36 t185 t193).f1).length : Int) then (if 0 ≤ (wrap64 (t220 + 1)) then (if (wrap64 (t220 + 1)) ≤ (((rd_T36 t185 t193).f1).length : Int) then ((api_Box_21.f k (([(((rd_T36 t185 t193).f1).take (t220 : Int).toNat), (((rd_T36 t185 t193).f1).drop ((wrap64 (t220 + 1)) : Int).toNat)] : List (List (S42))))).bind fun t236 => (terrkeep5_PlaceFewer.j0 k t185 t189 t193 bt210.2.1 bt210.2.2 (t215.set (t193 : Int).toNat (⟨(⟨(rd_T36 t215 t193).f0.f0, (rd_T36 t215 t193).f0.f1, (rd_T36 t215 t193).f0.f2, (rd_T36 t215 t193).f0.f3, (rd_T36 t215 t193).f0.f4, (rd_T36 t215 t193).f0.f5⟩ : S33), t236, (rd_T36 t215 t193).f2⟩ : S36)))) else (none)) else (none)) else (none)) else (none)) else (none))) else (terrkeep5_PlaceFewer.j0 k t185 t189 t193 bt210.2.1 bt210.2.2 t215)) else (none)))) = some r := H
                have A20 := Aside0.mk A200
                clear A200
                replace H := Option.bind_eq_some_iff.mp H
                obtain ⟨⟨t210, t211, t212⟩, A210, H⟩ := H
                replace H : ((place_Want_20.f t185).bind fun t215 => (if t193 < (t215.length : Int) then (if (((rd_T36 t215 t193).f1).length : Int) > 0 then ((terrmake_Below.f a2 (((rd_T36 t215 t193).f1).length : Int)).bind fun t220 => (if t193 < (t185.length : Int) then (if 0 ≤ t220 then (if t220 ≤ (((rd_T36 t185 t193).f1).length : Int) then (if 0 ≤ (wrap64 (t220 + 1)) then (if (wrap64 (t220 + 1)) ≤ (((rd_T36 t185 t193).f1).length : Int) then ((api_Box_21.f k (([(((rd_T36 t185 t193).f1).take (t220 : Int).toNat), (((rd_T36 t185 t193).f1).drop ((wrap64 (t220 + 1)) : Int).toNat)] : List (List (S42))))).bind fun t236 => (terrkeep5_PlaceFewer.j0 k t185 t189 t193 t211 t212 (t215.set (t193 : Int).toNat (⟨(⟨(rd_T36 t215 t193).f0.f0, (rd_T36 t215 t193).f0.f1, (rd_T36 t215 t193).f0.f2, (rd_T36 t215 t193).f0.f3, (rd_T36 t215 t193).f0.f4, (rd_T36 t215 t193).f0.f5⟩ : S33), t236, (rd_T36 t215 t193).f2⟩ : S36)))) else (none)) else (none)) else (none)) else (none)) else (none))) else (terrkeep5_PlaceFewer.j0 k t185 t189 t193 t211 t212 t215)) else (none))) = some r := H
                have A21 := Aside0.mk A210
                clear A210
                replace H := Option.bind_eq_some_iff.mp H
                obtain ⟨t215, A220, H⟩ := H
                replace H : (if t193 < (t215.length : Int) then (if (((rd_T36 t215 t193).f1).length : Int) > 0 then ((terrmake_Below.f a2 (((rd_T36 t215 t193).f1).length : Int)).bind fun t220 => (if t193 < (t185.length : Int) then (if 0 ≤ t220 then (if t220 ≤ (((rd_T36 t185 t193).f1).length : Int) then (if 0 ≤ (wrap64 (t220 + 1)) then (if (wrap64 (t220 + 1)) ≤ (((rd_T36 t185 t193).f1).length : Int) then ((api_Box_21.f k (([(((rd_T36 t185 t193).f1).take (t220 : Int).toNat), (((rd_T36 t185 t193).f1).drop ((wrap64 (t220 + 1)) : Int).toNat)] : List (List (S42))))).bind fun t236 => (terrkeep5_PlaceFewer.j0 k t185 t189 t193 t211 t212 (t215.set (t193 : Int).toNat (⟨(⟨(rd_T36 t215 t193).f0.f0, (rd_T36 t215 t193).f0.f1, (rd_T36 t215 t193).f0.f2, (rd_T36 t215 t193).f0.f3, (rd_T36 t215 t193).f0.f4, (rd_T36 t215 t193).f0.f5⟩ : S33), t236, (rd_T36 t215 t193).f2⟩ : S36)))) else (none)) else (none)) else (none)) else (none)) else (none))) else (terrkeep5_PlaceFewer.j0 k t185 t189 t193 t211 t212 t215)) else (none)) = some r := H
                have A22 := Aside0.mk A220
                clear A220
                by_cases c23 : t193 < (t215.length : Int)
                · rw [if_pos c23] at H
                  have c23b0 : decide (t193 < (t215.length : Int)) = true := decide_eq_true c23
                  clear c23
                  have HC24 := Aside0.mk H
                  clear H
                  go_enter Try.func3, Try.ntmps3
                  try go_wp2_with (first | ((with_reducible refine gate_callee (f := 15) rfl ?_); refine goesL_ (some 23) rfl rfl Try.func15 (by kernel_rfl) rfl #[] rfl (by (try simp only [List.map_toArray, List.map_cons, List.map_nil]); first | done | rfl | (simp only [List.length_drop, List.length_take]; rfl)) ?_; (with_reducible refine (terrkeep5_placed.calls k  true _ A4.out).mono ?_); rintro e w25 ⟨rfl, hb⟩; refine ⟨_, rfl, ?_⟩; have n0_ := Aside0.mk (below_step (by repeat (first | (with_reducible first | exact HB.out | apply below_alloc | apply pw_below_drewN | apply below_drew1) | exact HB.out)) hb); clear HB; have HB := n0_; clear n0_; (try clear hb); (try clear hb2); (try clear hk); (try clear hi)) | ((with_reducible refine gate_callee (f := 16) rfl ?_); refine goesL_ (some 26) rfl rfl Try.func16 (by kernel_rfl) rfl #[.slice A0 l0.length c0] rfl (by (try simp only [List.map_toArray, List.map_cons, List.map_nil]); first | done | rfl | (simp only [List.length_drop, List.length_take]; rfl)) ?_; (with_reducible refine (terrkeep5_wants.calls _ _ l0 t185 _ ?side1 ?side2 A6.out).mono ?_); (case side1 => repeat (first | exact (Kd.C_below HR0.out HB.out) | (with_reducible refine Kd.C_alloc ?_ _) | (with_reducible refine Kd.C_drewN ?_ _) | (with_reducible refine Kd.C_drew ?_))); (case side2 => exact HC0.out); rintro e w26 ⟨v186, rfl, ho0, hb⟩; refine ⟨_, rfl, ?_⟩; have n0_ := Aside0.mk (Kd.N_lower (Kd.N_mono (ok' := fun k_ => True) (Kd.R_N (Kd.R_bound ho0)) (fun k_ hk_ => trivial)) (below_size (by repeat (first | (with_reducible first | exact HB.out | apply below_alloc | apply pw_below_drewN | apply below_drew1) | exact HB.out)))); have n1_ := Aside0.mk (below_step (by repeat (first | (with_reducible first | exact HB.out | apply below_alloc | apply pw_below_drewN | apply below_drew1) | exact HB.out)) hb); clear HB; have HO187 := n0_; have HB := n1_; clear n0_ n1_; (try clear hb); (try clear hb2); (try clear hk); (try clear hi); (try clear ho0); obtain ⟨Ao27, co27, eo27⟩ := Kd.N_slice HO187.out; subst eo27) | ((with_reducible refine gate_callee (f := 17) rfl ?_); refine goesL_ (some 29) rfl rfl Try.func17 (by kernel_rfl) rfl #[.slice Ao27 t185.length co27] rfl (by (try simp only [List.map_toArray, List.map_cons, List.map_nil]); first | done | rfl | (simp only [List.length_drop, List.length_take]; rfl)) ?_; (with_reducible refine (place_Best.calls k _ _ t185 t188 t189 t190 _ ?side1 ?side2 A7.out).mono ?_); (case side1 => repeat (first | exact (Kd.N_reads' HO187.out).2.2 | (with_reducible refine Kd.C_alloc ?_ _) | (with_reducible refine Kd.C_drewN ?_ _) | (with_reducible refine Kd.C_drew ?_))); (case side2 => exact (Kd.N_reads' HO187.out).2.1); rintro e w28 ⟨v191, rfl, ho0, hb⟩; refine ⟨_, rfl, ?_⟩; have n0_ := Aside0.mk (Kd.N_elder' (by (with_reducible repeat (first | apply Kd.N_alloc | apply Kd.N_drewN | apply Kd.N_drew)); exact HO187.out) (Kd.R_base ho0) hb); have n1_ := Aside0.mk (Kd.R_lower ho0 (below_size (by repeat (first | (with_reducible first | exact HB.out | apply below_alloc | apply pw_below_drewN | apply below_drew1) | exact HB.out)))); have n2_ := Aside0.mk (below_step (by repeat (first | (with_reducible first | exact HB.out | apply below_alloc | apply pw_below_drewN | apply below_drew1) | exact HB.out)) hb); clear HO187; clear HB; have HO187 := n0_; have HO192 := n1_; have HB := n2_; clear n0_ n1_ n2_; (try clear hb); (try clear hb2); (try clear hk); (try clear hi); (try clear ho0)) | ((with_reducible refine gate_callee (f := 18) rfl ?_); refine goesL_ (some 43) rfl rfl Try.func18 (by kernel_rfl) rfl #[.int .i64 a1, .int .i64 (t185.length : Int)] rfl (by (try simp only [List.map_toArray, List.map_cons, List.map_nil]); first | done | rfl | (simp only [List.length_drop, List.length_take]; rfl)) ?_; (with_reducible refine (terrmake_Below.calls a1 (t185.length : Int) t193 _ A14.out).mono ?_); rintro e w' ⟨rfl, ⟨nd, rfl⟩⟩; refine ⟨_, rfl, ?_⟩))
                  (try (rw [drewN_self w28]; generalize hq_ : World.drewN w28 _ = w28; have n0_ : Aside0 (Kd.N k36 36 w28 w.heap.size (fun k_ => some k_ ≠ (v191 : Value).ownBlock) (.slice Ao27 t185.length co27) t185) := ⟨by rw [← hq_]; exact (by (with_reducible repeat (first | apply Kd.N_alloc | apply Kd.N_drewN | apply Kd.N_drew)); exact Kd.N_mono HO187.out (fun _ hk => by first | exact hk.2 | exact hk | (simp only [true_and, and_assoc, ne_eq] at hk ⊢; simp only [hk, not_false_eq_true, and_self])))⟩; have n1_ : Aside0 (Kd.R (Kd.int .i64) 3 w28 w.heap.size (fun _ => True) v191 t188) := ⟨by rw [← hq_]; exact (by (with_reducible repeat (first | apply Kd.R_alloc | apply Kd.R_drewN | apply Kd.R_drew)); exact HO192.out)⟩; have n2_ : Aside0 (Below w.heap.size w w28) := ⟨by rw [← hq_]; exact (by repeat (first | (with_reducible first | exact HB.out | apply below_alloc | apply pw_below_drewN | apply below_drew1) | exact HB.out))⟩; clear HO187 HO192 HB hq_; have HO187 := n0_; have HO192 := n1_; have HB := n2_; clear n0_ n1_ n2_))
                  have n0_ := Aside0.mk (Kd.N_drew HO187.out)
                  have n1_ := Aside0.mk (Kd.R_drew HO192.out)
                  have n2_ := Aside0.mk (below_drew1 HB.out)
                  clear HO187
                  clear HO192
                  clear HB
                  have HO187 := n0_
                  have HO192 := n1_
                  have HB := n2_
                  clear n0_ n1_ n2_
                  have q30 : (t193 : Int) ≤ ((t185.length : Int) : Int) := of_decide_eq_true (by first | (with_reducible assumption) | assumption)
                  obtain ⟨i030, hi030, _, hsz30, _⟩ := info_parts info36
                  have hroom30 : t185.length ≤ co27 := (Kd.N_reads' HO187.out).2.1
                  have hC30 : Kd.F k36 _ _ Ao27 t185.length t185 := (Kd.V_at (base := w.heap.size) (Kd.N_V HO187.out)).2.2
                  have hcut30 := cut_to (P := Try.prog) 24 36 .i64 Try.underlying24 hi030 Ao27 t185.length co27 t193 (of_decide_eq_true (by first | (with_reducible assumption) | assumption)) q30 hroom30
                  have hr30 := Kd.F_take (m := (t193 : Int).toNat) hC30 (by omega)
                  have hy30 : y194.length = (t193 : Int).toNat := (by rw [Ny194.out, List.length_take]; omega)
                  rw [← Ny194.out] at hr30
                  rw [← hy30] at hcut30
                  have HO198 := Aside0.mk (show Kd.V k36 36 _ w.heap.size _ (.slice Ao27 y194.length co27) y194 from Kd.V_mk (by omega) hr30)
                  have HC198 := Aside0.mk (show y194.length ≤ co27 from by omega)
                  clear hr30 hC30 hroom30 hi030 hsz30
                  have KY30 := Aside0.mk hy30
                  clear hy30
                  replace q30 := eq_true q30
                  have q31 : ((ji17) : Int) ≤ ((t185.length : Int) : Int) := of_decide_eq_true (by first | (with_reducible assumption) | assumption)
                  obtain ⟨i031, hi031, _, hsz31, _⟩ := info_parts info36
                  have hroom31 : t185.length ≤ co27 := (Kd.N_reads' HO187.out).2.1
                  have hC31 : Kd.F k36 _ _ Ao27 t185.length t185 := (Kd.V_at (base := w.heap.size) (Kd.N_V HO187.out)).2.2
                  have q031 : (0 : Int) ≤ ((ji17) : Int) := of_decide_eq_true (by first | (with_reducible assumption) | assumption)
                  have hcut31 := cut_from (P := Try.prog) 24 36 .i64 Try.underlying24 hi031 8 hsz31 Ao27 t185.length co27 (ji17) q031 q31
                  have hr31 := Kd.F_cut (m := ((ji17) : Int).toNat) (c := co27) hC31 (by omega) hroom31
                  obtain ⟨A31, hA31⟩ : ∃ A1, A1 = (if co27 = ((ji17) : Int).toNat then Ao27 else (Ao27 : Option Addr).map (·.add (((ji17) : Int).toNat * 8))) := ⟨_, rfl⟩
                  obtain ⟨c31, hc31⟩ : ∃ c1, c1 = co27 - ((ji17) : Int).toNat := ⟨_, rfl⟩
                  have hy31 : y199.length = t185.length - ((ji17) : Int).toNat := (by rw [Ny199.out, List.length_drop] <;> omega)
                  rw [show (t185).drop ((ji17) : Int).toNat = y199 from Ny199.out.symm] at hr31
                  replace hr31 : Kd.F k36 _ _ A31 y199.length y199 := (by rw [hA31]; exact hr31)
                  rw [← hy31, ← hA31, ← hc31] at hcut31
                  have HO203 := Aside0.mk (show Kd.V k36 36 _ w.heap.size _ (.slice A31 y199.length c31) y199 from Kd.V_mk (by rw [hy31, hc31]; exact Nat.sub_le_sub_right hroom31 _) hr31)
                  have HC203 := Aside0.mk (show y199.length ≤ c31 from by rw [hy31, hc31]; exact Nat.sub_le_sub_right hroom31 _)
                  clear hr31 hC31 hroom31 hi031 hsz31 hc31
                  have KY31 := Aside0.mk hy31
                  have KA31 := Aside0.mk hA31
                  clear hy31 hA31
                  replace q31 := eq_true q31
                  refine start_ (n := 17) (S := fun w' => True) (ds := []) #[false, false, false, false, false, false, false, false, false, false, false, false, false, false, false, false, false] (by kernel_rfl) rfl rfl trivial (fun hHeld => ?_); refine with_tabW terrkeep5_PlaceFewer.tab10 terrkeep5_PlaceFewer.bits10 (fun HT_ HW_ => ?_)
                  generalize w28.drew = w29 at HO187 HO192 HB HO198 HO203 hHeld ⊢
                  refine pure_ (i := 0) (N := some 45) (v := ?_) (a' := ?_) #[true, false, false, false, false, false, false, false, false, false, false, false, false, false, false, false, false] rfl rfl (any_of HT_.out (by kernel_rfl)) (fun _ _ _ h => h) (Or.inl ⟨by rfl, ?_⟩) ?_ ?_
                  rotate_left
                  · intro w'
                    go_simp
                    with_reducible rfl
                  rotate_left
                  · simp only [Act.put, List.setIfInBounds_toArray, List.set_cons_zero, List.set_cons_succ, i64_w, i32_w]
                    rfl
                  refine pure_ (i := 1) (N := some 46) (v := ?_) (a' := ?_) #[true, true, false, false, false, false, false, false, false, false, false, false, false, false, false, false, false] rfl rfl (any_of HT_.out (by kernel_rfl)) (fun _ _ _ h => h) (Or.inl ⟨by rfl, ?_⟩) ?_ ?_
                  rotate_left
                  · intro w'
                    go_simp
                    with_reducible rfl
                  rotate_left
                  · simp only [Act.put, List.setIfInBounds_toArray, List.set_cons_zero, List.set_cons_succ, i64_w, i32_w]
                    rfl
                  refine pure_ (i := 2) (N := some 47) (v := ?_) (a' := ?_) #[true, true, true, false, false, false, false, false, false, false, false, false, false, false, false, false, false] rfl rfl (any_of HT_.out (by kernel_rfl)) (fun _ _ _ h => h) (Or.inl ⟨by rfl, ?_⟩) ?_ ?_
                  rotate_left
                  · intro w'
                    go_simp
                    with_reducible rfl
                  rotate_left
                  · simp only [Act.put, List.setIfInBounds_toArray, List.set_cons_zero, List.set_cons_succ, i64_w, i32_w]
                    rfl
                  refine pure_ (i := 3) (N := some 48) (v := ?_) (a' := ?_) #[true, true, true, true, false, false, false, false, false, false, false, false, false, false, false, false, false] rfl rfl (any_of HT_.out (by kernel_rfl)) (fun _ _ _ h => h) (Or.inl ⟨by rfl, ?_⟩) ?_ ?_
                  rotate_left
                  · intro w'
                    go_simp
                    with_reducible rfl
                  rotate_left
                  · simp only [Act.put, List.setIfInBounds_toArray, List.set_cons_zero, List.set_cons_succ, i64_w, i32_w]
                    rfl
                  refine pure_ (i := 4) (N := some 49) (v := ?_) (a' := ?_) #[true, true, true, true, true, false, false, false, false, false, false, false, false, false, false, false, false] rfl rfl (any_of HT_.out (by kernel_rfl)) (fun _ _ _ h => h) (Or.inl ⟨by rfl, ?_⟩) ?_ ?_
                  rotate_left
                  · intro w'
                    go_simp
                    with_reducible rfl
                  rotate_left
                  · simp only [Act.put, List.setIfInBounds_toArray, List.set_cons_zero, List.set_cons_succ, i64_w, i32_w]
                    rfl
                  refine pure_ (i := 5) (N := some 50) (v := ?_) (a' := ?_) #[true, true, true, true, true, true, false, false, false, false, false, false, false, false, false, false, false] rfl rfl (any_of HT_.out (by kernel_rfl)) (fun _ _ _ h => h) (Or.inl ⟨by rfl, ?_⟩) ?_ ?_
                  rotate_left
                  · intro w'
                    go_simp
                    with_reducible rfl
                  rotate_left
                  · simp only [Act.put, List.setIfInBounds_toArray, List.set_cons_zero, List.set_cons_succ, i64_w, i32_w]
                    rfl
                  refine pure_ (i := 6) (N := some 51) (v := ?_) (a' := ?_) #[true, true, true, true, true, true, true, false, false, false, false, false, false, false, false, false, false] rfl rfl (any_of HT_.out (by kernel_rfl)) (fun _ _ _ h => h) (Or.inl ⟨by rfl, ?_⟩) ?_ ?_
                  rotate_left
                  · intro w'
                    go_simp
                    with_reducible rfl
                  rotate_left
                  · simp only [Act.put, List.setIfInBounds_toArray, List.set_cons_zero, List.set_cons_succ, i64_w, i32_w]
                    rfl
                  refine one_ (i := 7) (N := some 52) #[true, true, true, true, true, true, true, true, false, false, false, false, false, false, false, false, false] rfl rfl (one_of HT_.out (by kernel_rfl)) (by decide) (fun K hK => ?_)
                  refine Kd.N_lit_step (Kd.slice 36 k36) _ 24 ?hg (N' := 52) ?hd (xs := ([y194, y199] : List (List (S36)))) (inner := [.slice Ao27 y194.length co27, .slice A31 y199.length c31]) (ok := (fun k_ => some k_ ≠ (v191 : Value).ownBlock)) (okp := (fun k_ => some k_ ≠ (v191 : Value).ownBlock)) ?hr ?hp (fun _ hk => hk) ((show ∀ k_, w29.heap.size ≤ k_ → (fun k_ => some k_ ≠ (v191 : Value).ownBlock) k_ from fun k_ hk => Kd.fresh' (Kd.R_lt (by (with_reducible repeat (first | apply Kd.R_alloc | apply Kd.R_drewN | apply Kd.R_drew)); exact HO192.out)) k_ hk) _ (Nat.le_refl _)) (Below.refl _ _) (Nat.le_refl _) (by simp) ?_; (case hd => rfl); (case hg => rfl); (case hr => first | (go_simp; done) | (go_simp; rfl)); (case hp => exact (Reps.one (show Kd.FK (Kd.slice 36 k36) _ _ y194 [.slice Ao27 y194.length co27] from (Kd.FK_slice_mk (Kd.V_reads' (Kd.V_mono (ok' := (fun k_ => some k_ ≠ (v191 : Value).ownBlock)) (HO198.out) (fun k_ hk => by first | exact hk.2 | exact hk | (simp only [true_and, and_assoc, ne_eq] at hk ⊢; simp only [hk, not_false_eq_true, and_self])))).2.1 (Kd.V_F (Kd.V_mono (ok' := (fun k_ => some k_ ≠ (v191 : Value).ownBlock)) (HO198.out) (fun k_ hk => by first | exact hk.2 | exact hk | (simp only [true_and, and_assoc, ne_eq] at hk ⊢; simp only [hk, not_false_eq_true, and_self])))))) (Reps.one (show Kd.FK (Kd.slice 36 k36) _ _ y199 [.slice A31 y199.length c31] from (Kd.FK_slice_mk (Kd.V_reads' (Kd.V_mono (ok' := (fun k_ => some k_ ≠ (v191 : Value).ownBlock)) (HO203.out) (fun k_ hk => by first | exact hk.2 | exact hk | (simp only [true_and, and_assoc, ne_eq] at hk ⊢; simp only [hk, not_false_eq_true, and_self])))).2.1 (Kd.V_F (Kd.V_mono (ok' := (fun k_ => some k_ ≠ (v191 : Value).ownBlock)) (HO203.out) (fun k_ hk => by first | exact hk.2 | exact hk | (simp only [true_and, and_assoc, ne_eq] at hk ⊢; simp only [hk, not_false_eq_true, and_self])))))) (Reps.none _ _))))
                  intro v205 w32 ho33 hb hg_ hnew_
                  clear hg_ hnew_
                  (first | rw [← Ny204.out] at ho33 | (simp only [Int.reduceToNat] at ho33; rw [← Ny204.out] at ho33))
                  have n0_ := Aside0.mk (Kd.N_elder' (by (with_reducible repeat (first | apply Kd.N_alloc | apply Kd.N_drewN | apply Kd.N_drew)); exact HO187.out) (by first | exact Kd.N_base ho33 | exact Kd.R_base ho33) hb)
                  have n1_ := Aside0.mk (Kd.R_below (by (with_reducible repeat (first | apply Kd.R_alloc | apply Kd.R_drewN | apply Kd.R_drew)); exact HO192.out) hb)
                  have n2_ := Aside0.mk (Kd.V_elder' (by (with_reducible repeat (first | apply Kd.V_alloc | apply Kd.V_drewN | apply Kd.V_drew)); exact HO198.out) (by first | exact Kd.N_base ho33 | exact Kd.R_base ho33) hb)
                  have n3_ := Aside0.mk (Kd.V_elder' (by (with_reducible repeat (first | apply Kd.V_alloc | apply Kd.V_drewN | apply Kd.V_drew)); exact HO203.out) (by first | exact Kd.N_base ho33 | exact Kd.R_base ho33) hb)
                  have n4_ := Aside0.mk (Kd.N_lower ho33 (below_size (by repeat (first | (with_reducible first | exact HB.out | apply below_alloc | apply pw_below_drewN | apply below_drew1) | exact HB.out))))
                  have n5_ := Aside0.mk (below_step (by repeat (first | (with_reducible first | exact HB.out | apply below_alloc | apply pw_below_drewN | apply below_drew1) | exact HB.out)) hb)
                  clear HO187
                  clear HO192
                  clear HO198
                  clear HO203
                  clear HB
                  have HO187 := n0_
                  have HO192 := n1_
                  have HO198 := n2_
                  have HO203 := n3_
                  have HO206 := n4_
                  have HB := n5_
                  clear n0_ n1_ n2_ n3_ n4_ n5_
                  clear hb ho33
                  obtain ⟨Ao34, co34, eo34⟩ := Kd.N_slice HO206.out
                  (first | subst eo34 | (injection eo34 with f1_ f2_ f3_; have f4_ := f1_.symm; have f5_ := f3_.symm; clear f1_ f2_ f3_; subst f4_; subst f5_))
                  refine hK.out _ _ trivial (fun hHeld => ?_)
                  clear hK K
                  refine norm_ (a' := ?_) ?_ ?_
                  rotate_left
                  · show Act.put _ (some 52) _ = _
                    simp only [Act.put, List.setIfInBounds_toArray, List.set_cons_zero, List.set_cons_succ, i64_w, i32_w]
                    rfl
                  refine one_ (i := 8) (N := some 53) #[true, true, true, true, true, true, true, true, true, false, false, false, false, false, false, false, false] rfl rfl (one_of HT_.out (by kernel_rfl)) (by decide) (fun K hK => ?_)
                  refine goes_ Try.func19 (by kernel_rfl) rfl #[.slice Ao34 y204.length co34] (by rfl) rfl rfl (by (try simp only [List.map_toArray, List.map_cons, List.map_nil]); first | done | rfl | (simp only [List.length_drop, List.length_take]; rfl)) ?_
                  with_reducible refine (place_Want_19.calls k (fun k_ => some k_ ≠ (v191 : Value).ownBlock) _ _ y204 t207 _ ?side1 A20.out).mono ?_
                  (case side1 => first | exact Kd.N_V (HO206.out) | exact Kd.N_V (Kd.N_mono HO206.out (fun _ hk => by simpa only [true_and] using hk)))
                  rintro e w35 ⟨v208, rfl, ho0, hb⟩
                  refine ⟨_, rfl, ?_⟩
                  have n0_ := Aside0.mk (Kd.N_elder' (by (with_reducible repeat (first | apply Kd.N_alloc | apply Kd.N_drewN | apply Kd.N_drew)); exact HO187.out) (by first | exact Kd.N_base ho0 | exact Kd.R_base ho0) hb)
                  have n1_ := Aside0.mk (Kd.R_below (by (with_reducible repeat (first | apply Kd.R_alloc | apply Kd.R_drewN | apply Kd.R_drew)); exact HO192.out) hb)
                  have n2_ := Aside0.mk (Kd.V_elder' (by (with_reducible repeat (first | apply Kd.V_alloc | apply Kd.V_drewN | apply Kd.V_drew)); exact HO198.out) (by first | exact Kd.N_base ho0 | exact Kd.R_base ho0) hb)
                  have n3_ := Aside0.mk (Kd.V_elder' (by (with_reducible repeat (first | apply Kd.V_alloc | apply Kd.V_drewN | apply Kd.V_drew)); exact HO203.out) (by first | exact Kd.N_base ho0 | exact Kd.R_base ho0) hb)
                  have n4_ := Aside0.mk (Kd.N_elder' (by (with_reducible repeat (first | apply Kd.N_alloc | apply Kd.N_drewN | apply Kd.N_drew)); exact HO206.out) (by first | exact Kd.N_base ho0 | exact Kd.R_base ho0) hb)
                  have n5_ := Aside0.mk (Kd.N_lower (Kd.N_mono (ok' := fun k_ => some k_ ≠ (v191 : Value).ownBlock) ho0 (fun k_ hk_ => Or.elim hk_ (fun hs_ => hs_) (fun hn_ => (Kd.fresh' (Kd.R_lt (by (with_reducible repeat (first | apply Kd.R_alloc | apply Kd.R_drewN | apply Kd.R_drew)); exact HO192.out)) k_ hn_)))) (below_size (by repeat (first | (with_reducible first | exact HB.out | apply below_alloc | apply pw_below_drewN | apply below_drew1) | exact HB.out))))
                  have n6_ := Aside0.mk (below_step (by repeat (first | (with_reducible first | exact HB.out | apply below_alloc | apply pw_below_drewN | apply below_drew1) | exact HB.out)) hb)
                  clear HO187
                  clear HO192
                  clear HO198
                  clear HO203
                  clear HO206
                  clear HB
                  have HO187 := n0_
                  have HO192 := n1_
                  have HO198 := n2_
                  have HO203 := n3_
                  have HO206 := n4_
                  have HO209 := n5_
                  have HB := n6_
                  clear n0_ n1_ n2_ n3_ n4_ n5_ n6_
                  (try clear hb)
                  (try clear hb2)
                  (try clear hk)
                  (try clear hi)
                  (try clear ho0)
                  obtain ⟨Ao36, co36, eo36⟩ := Kd.N_slice HO209.out
                  (first | subst eo36 | (injection eo36 with f1_ f2_ f3_; have f4_ := f1_.symm; have f5_ := f3_.symm; clear f1_ f2_ f3_; subst f4_; subst f5_))
                  refine hK.out _ _ trivial (fun hHeld => ?_)
                  clear hK K
                  refine norm_ (a' := ?_) ?_ ?_
                  rotate_left
                  · show Act.put _ (some 53) _ = _
                    simp only [Act.put, List.setIfInBounds_toArray, List.set_cons_zero, List.set_cons_succ, i64_w, i32_w]
                    rfl
                  refine one_ (i := 9) (N := some 54) #[true, true, true, true, true, true, true, true, true, true, false, false, false, false, false, false, false] rfl rfl (one_of HT_.out (by kernel_rfl)) (by decide) (fun K hK => ?_)
                  refine goes_ Try.func17 (by kernel_rfl) rfl #[.slice Ao36 t207.length co36] (by rfl) rfl rfl (by (try simp only [List.map_toArray, List.map_cons, List.map_nil]); first | done | rfl | (simp only [List.length_drop, List.length_take]; rfl)) ?_
                  with_reducible refine (place_Best.calls k _ _ t207 t210 t211 t212 _ ?side1 ?side2 A21.out).mono ?_
                  (case side1 => repeat (first | exact (Kd.N_reads' HO209.out).2.2 | (with_reducible refine Kd.C_alloc ?_ _) | (with_reducible refine Kd.C_drewN ?_ _) | (with_reducible refine Kd.C_drew ?_)))
                  (case side2 => exact (Kd.N_reads' HO209.out).2.1)
                  rintro e w37 ⟨v213, rfl, ho0, hb⟩
                  refine ⟨_, rfl, ?_⟩
                  have n0_ := Aside0.mk (Kd.N_elder' (by (with_reducible repeat (first | apply Kd.N_alloc | apply Kd.N_drewN | apply Kd.N_drew)); exact HO187.out) (Kd.R_base ho0) hb)
                  have n1_ := Aside0.mk (Kd.R_elder' (by (with_reducible repeat (first | apply Kd.R_alloc | apply Kd.R_drewN | apply Kd.R_drew)); exact HO192.out) (Kd.R_base ho0) hb)
                  have n2_ := Aside0.mk (Kd.V_elder' (by (with_reducible repeat (first | apply Kd.V_alloc | apply Kd.V_drewN | apply Kd.V_drew)); exact HO198.out) (Kd.R_base ho0) hb)
                  have n3_ := Aside0.mk (Kd.V_elder' (by (with_reducible repeat (first | apply Kd.V_alloc | apply Kd.V_drewN | apply Kd.V_drew)); exact HO203.out) (Kd.R_base ho0) hb)
                  have n4_ := Aside0.mk (Kd.N_elder' (by (with_reducible repeat (first | apply Kd.N_alloc | apply Kd.N_drewN | apply Kd.N_drew)); exact HO206.out) (Kd.R_base ho0) hb)
                  have n5_ := Aside0.mk (Kd.N_elder' (by (with_reducible repeat (first | apply Kd.N_alloc | apply Kd.N_drewN | apply Kd.N_drew)); exact HO209.out) (Kd.R_base ho0) hb)
                  have n6_ := Aside0.mk (Kd.R_lower (Kd.R_new' ho0 (Kd.R_lt (by (with_reducible repeat (first | apply Kd.R_alloc | apply Kd.R_drewN | apply Kd.R_drew)); exact HO192.out))) (below_size (by repeat (first | (with_reducible first | exact HB.out | apply below_alloc | apply pw_below_drewN | apply below_drew1) | exact HB.out))))
                  have n7_ := Aside0.mk (below_step (by repeat (first | (with_reducible first | exact HB.out | apply below_alloc | apply pw_below_drewN | apply below_drew1) | exact HB.out)) hb)
                  clear HO187
                  clear HO192
                  clear HO198
                  clear HO203
                  clear HO206
                  clear HO209
                  clear HB
                  have HO187 := n0_
                  have HO192 := n1_
                  have HO198 := n2_
                  have HO203 := n3_
                  have HO206 := n4_
                  have HO209 := n5_
                  have HO214 := n6_
                  have HB := n7_
                  clear n0_ n1_ n2_ n3_ n4_ n5_ n6_ n7_
                  (try clear hb)
                  (try clear hb2)
                  (try clear hk)
                  (try clear hi)
                  (try clear ho0)
                  refine hK.out _ _ trivial (fun hHeld => ?_)
                  clear hK K
                  refine norm_ (a' := ?_) ?_ ?_
                  rotate_left
                  · show Act.put _ (some 54) _ = _
                    simp only [Act.put, List.setIfInBounds_toArray, List.set_cons_zero, List.set_cons_succ, i64_w, i32_w]
                    rfl
                  refine pure_ (i := 10) (N := some 44) (v := ?_) (a' := ?_) #[true, true, true, true, true, true, true, true, true, true, true, false, false, false, false, false, false] rfl rfl (any_of HT_.out (by kernel_rfl)) (fun _ _ _ h => h) (Or.inl ⟨by rfl, ?_⟩) ?_ ?_
                  rotate_left
                  · intro w'
                    go_simp
                    with_reducible rfl
                  rotate_left
                  · simp only [Act.put, List.setIfInBounds_toArray, List.set_cons_zero, List.set_cons_succ, i64_w, i32_w]
                    rfl
                  refine pure_ (i := 11) (N := some 55) (v := ?_) (a' := ?_) #[true, true, true, true, true, true, true, true, true, true, true, true, false, false, false, false, false] rfl rfl (any_of HT_.out (by kernel_rfl)) (fun _ _ _ h => h) (Or.inl ⟨by rfl, ?_⟩) ?_ ?_
                  rotate_left
                  · intro w'
                    go_simp
                    with_reducible rfl
                  rotate_left
                  · simp only [Act.put, List.setIfInBounds_toArray, List.set_cons_zero, List.set_cons_succ, i64_w, i32_w]
                    rfl
                  refine pure_ (i := 12) (N := some 56) (v := ?_) (a' := ?_) #[true, true, true, true, true, true, true, true, true, true, true, true, true, false, false, false, false] rfl rfl (any_of HT_.out (by kernel_rfl)) (fun _ _ _ h => h) (Or.inl ⟨by rfl, ?_⟩) ?_ ?_
                  rotate_left
                  · intro w'
                    go_simp
                    with_reducible rfl
                  rotate_left
                  · simp only [Act.put, List.setIfInBounds_toArray, List.set_cons_zero, List.set_cons_succ, i64_w, i32_w]
                    rfl
                  refine pure_ (i := 13) (N := some 57) (v := ?_) (a' := ?_) #[true, true, true, true, true, true, true, true, true, true, true, true, true, true, false, false, false] rfl rfl (any_of HT_.out (by kernel_rfl)) (fun _ _ _ h => h) (Or.inl ⟨by rfl, ?_⟩) ?_ ?_
                  rotate_left
                  · intro w'
                    go_simp
                    with_reducible rfl
                  rotate_left
                  · simp only [Act.put, List.setIfInBounds_toArray, List.set_cons_zero, List.set_cons_succ, i64_w, i32_w]
                    rfl
                  refine pure_ (i := 14) (N := some 12) (v := ?_) (a' := ?_) #[true, true, true, true, true, true, true, true, true, true, true, true, true, true, true, false, false] rfl rfl (any_of HT_.out (by kernel_rfl)) (fun _ _ _ h => h) (Or.inl ⟨by rfl, ?_⟩) ?_ ?_
                  rotate_left
                  · intro w'
                    go_simp
                    with_reducible rfl
                  rotate_left
                  · simp only [Act.put, List.setIfInBounds_toArray, List.set_cons_zero, List.set_cons_succ, i64_w, i32_w]
                    rfl
                  refine pure_ (i := 15) (N := some 13) (v := ?_) (a' := ?_) #[true, true, true, true, true, true, true, true, true, true, true, true, true, true, true, true, false] rfl rfl (any_of HT_.out (by kernel_rfl)) (fun _ _ _ h => h) (Or.inl ⟨by rfl, ?_⟩) ?_ ?_
                  rotate_left
                  · intro w'
                    go_simp
                    with_reducible rfl
                  rotate_left
                  · simp only [Act.put, List.setIfInBounds_toArray, List.set_cons_zero, List.set_cons_succ, i64_w, i32_w]
                    rfl
                  refine pure_ (i := 16) (N := some 14) (v := ?_) (a' := ?_) #[true, true, true, true, true, true, true, true, true, true, true, true, true, true, true, true, true] rfl rfl (any_of HT_.out (by kernel_rfl)) (fun _ _ _ h => h) (Or.inl ⟨by rfl, ?_⟩) ?_ ?_
                  rotate_left
                  · intro w'
                    go_simp
                    with_reducible rfl
                  rotate_left
                  · simp only [Act.put, List.setIfInBounds_toArray, List.set_cons_zero, List.set_cons_succ, i64_w, i32_w]
                    rfl
                  refine done_ (done_of HT_.out (by kernel_rfl)) ?_
                  go_upto_if 66 with (first | ((with_reducible refine gate_callee (f := 20) rfl ?_); refine goesL_ (some 59) rfl rfl Try.func20 (by kernel_rfl) rfl #[.slice Ao27 t185.length co27] rfl (by (try simp only [List.map_toArray, List.map_cons, List.map_nil]); first | done | rfl | (simp only [List.length_drop, List.length_take]; rfl)) ?_; (with_reducible refine (place_Want_20.calls (fun k_ => ((((True ∧ some k_ ≠ (v191 : Value).ownBlock) ∧ some k_ ≠ (.slice Ao34 y204.length co34 : Value).ownBlock) ∧ some k_ ≠ (.slice Ao36 t207.length co36 : Value).ownBlock) ∧ some k_ ≠ (v213 : Value).ownBlock)) _ _ t185 t215 _ ?side1 A22.out).mono ?_); (case side1 => first | exact Kd.N_V (HO187.out) | exact Kd.N_V (Kd.N_mono HO187.out (fun _ hk => by simpa only [true_and] using hk))); rintro e w38 ⟨v216, rfl, ho0, hb⟩; refine ⟨_, rfl, ?_⟩; have n0_ := Aside0.mk (Kd.N_elder' (by (with_reducible repeat (first | apply Kd.N_alloc | apply Kd.N_drewN | apply Kd.N_drew)); exact HO187.out) (by first | exact Kd.N_base ho0 | exact Kd.R_base ho0) hb); have n1_ := Aside0.mk (Kd.R_below (by (with_reducible repeat (first | apply Kd.R_alloc | apply Kd.R_drewN | apply Kd.R_drew)); exact HO192.out) hb); have n2_ := Aside0.mk (Kd.V_elder' (by (with_reducible repeat (first | apply Kd.V_alloc | apply Kd.V_drewN | apply Kd.V_drew)); exact HO198.out) (by first | exact Kd.N_base ho0 | exact Kd.R_base ho0) hb); have n3_ := Aside0.mk (Kd.V_elder' (by (with_reducible repeat (first | apply Kd.V_alloc | apply Kd.V_drewN | apply Kd.V_drew)); exact HO203.out) (by first | exact Kd.N_base ho0 | exact Kd.R_base ho0) hb); have n4_ := Aside0.mk (Kd.N_elder' (by (with_reducible repeat (first | apply Kd.N_alloc | apply Kd.N_drewN | apply Kd.N_drew)); exact HO206.out) (by first | exact Kd.N_base ho0 | exact Kd.R_base ho0) hb); have n5_ := Aside0.mk (Kd.N_elder' (by (with_reducible repeat (first | apply Kd.N_alloc | apply Kd.N_drewN | apply Kd.N_drew)); exact HO209.out) (by first | exact Kd.N_base ho0 | exact Kd.R_base ho0) hb); have n6_ := Aside0.mk (Kd.R_below (by (with_reducible repeat (first | apply Kd.R_alloc | apply Kd.R_drewN | apply Kd.R_drew)); exact HO214.out) hb); have n7_ := Aside0.mk (Kd.N_lower (Kd.N_mono (ok' := fun k_ => some k_ ≠ (v191 : Value).ownBlock ∧ some k_ ≠ (.slice Ao34 y204.length co34 : Value).ownBlock ∧ some k_ ≠ (.slice Ao36 t207.length co36 : Value).ownBlock ∧ some k_ ≠ (v213 : Value).ownBlock) ho0 (fun k_ hk_ => ⟨Or.elim hk_ (fun hs_ => hs_.1.1.1.2) (fun hn_ => (Kd.fresh' (Kd.R_lt (by (with_reducible repeat (first | apply Kd.R_alloc | apply Kd.R_drewN | apply Kd.R_drew)); exact HO192.out)) k_ hn_)), Or.elim hk_ (fun hs_ => hs_.1.1.2) (fun hn_ => (Kd.fresh' (Kd.N_lt (by (with_reducible repeat (first | apply Kd.N_alloc | apply Kd.N_drewN | apply Kd.N_drew)); exact HO206.out)) k_ hn_)), Or.elim hk_ (fun hs_ => hs_.1.2) (fun hn_ => (Kd.fresh' (Kd.N_lt (by (with_reducible repeat (first | apply Kd.N_alloc | apply Kd.N_drewN | apply Kd.N_drew)); exact HO209.out)) k_ hn_)), Or.elim hk_ (fun hs_ => hs_.2) (fun hn_ => (Kd.fresh' (Kd.R_lt (by (with_reducible repeat (first | apply Kd.R_alloc | apply Kd.R_drewN | apply Kd.R_drew)); exact HO214.out)) k_ hn_))⟩)) (below_size (by repeat (first | (with_reducible first | exact HB.out | apply below_alloc | apply pw_below_drewN | apply below_drew1) | exact HB.out)))); have n8_ := Aside0.mk (below_step (by repeat (first | (with_reducible first | exact HB.out | apply below_alloc | apply pw_below_drewN | apply below_drew1) | exact HB.out)) hb); clear HO187; clear HO192; clear HO198; clear HO203; clear HO206; clear HO209; clear HO214; clear HB; have HO187 := n0_; have HO192 := n1_; have HO198 := n2_; have HO203 := n3_; have HO206 := n4_; have HO209 := n5_; have HO214 := n6_; have HO217 := n7_; have HB := n8_; clear n0_ n1_ n2_ n3_ n4_ n5_ n6_ n7_ n8_; (try clear hb); (try clear hb2); (try clear hk); (try clear hi); (try clear ho0); obtain ⟨Ao39, co39, eo39⟩ := Kd.N_slice HO217.out; subst eo39; have p218 : 0 ≤ (t193 : Int) := of_decide_eq_true (by first | (with_reducible assumption) | assumption); have q218 : t193 < (t215.length : Int) := of_decide_eq_true (by first | (with_reducible assumption) | assumption); obtain ⟨ad218, A218_4, c218_4, A218_6, c218_6, e218, hx218_0, hx218_1, hx218_2, hx218_3, hx218_4, hx218_5, hx218_6, hx218_7, hl218_4, hi218_4, hl218_6, hi218_6⟩ := at_T36 (Kd.N_reads' HO217.out).2.2 t193 p218 q218; cases e218; obtain ⟨ce218, hce218, hMe218, hcc218⟩ := Kd.N_get HO217.out z36 t193 p218 (by first | exact q218 | exact of_decide_eq_true (by first | (with_reducible assumption) | assumption) | (have e_ := (Kd.N_reads' HO217.out).1; omega)); obtain ⟨ua218_4, uc218_4, ua218_6, uc218_6, rfl, ul218_4, ge218_4, ul218_6, ge218_6⟩ := k36_openF hMe218; have hv218_4 := hcc218 4 _ rfl; rw [add_field _ _ 4 (by omega)] at hv218_4; replace hv218_4 := Option.some.inj (hv218_4.symm.trans hx218_4); injection hv218_4 with hva_ hvn_ hvc_; rw [hva_] at ge218_4; rw [hvc_] at ul218_4; have HL218_4 := Aside0.mk (show Kd.V (Kd.slice 40 k40) 54 _ w.heap.size _ _ ((rd_T36 t215 t193).f0.f4) from Kd.V_mk ul218_4 ge218_4); clear hva_ hvn_ hvc_ ge218_4 ul218_4; have hv218_6 := hcc218 6 _ rfl; rw [add_field _ _ 6 (by omega)] at hv218_6; replace hv218_6 := Option.some.inj (hv218_6.symm.trans hx218_6); injection hv218_6 with hva_ hvn_ hvc_; rw [hva_] at ge218_6; rw [hvc_] at ul218_6; have HL218_6 := Aside0.mk (show Kd.V k42 42 _ w.heap.size _ _ ((rd_T36 t215 t193).f1) from Kd.V_mk ul218_6 ge218_6); clear hva_ hvn_ hvc_ ge218_6 ul218_6; clear hcc218 hce218; have HR218_4 := Aside0.mk hi218_4; have HC218_4 := Aside0.mk hl218_4; clear hi218_4 hl218_4; have HR218_6 := Aside0.mk hi218_6; have HC218_6 := Aside0.mk hl218_6; clear hi218_6 hl218_6; replace p218 := eq_true p218; replace q218 := eq_true q218))
                  (try simp only [Act.put, List.setIfInBounds_toArray, List.set_cons_zero, List.set_cons_succ])
                  go_cut [] (fun wc => ∃ (kq : Nat) (x15_23 : List (S36)), Aside0 (terrkeep5_PlaceFewer.j0 kq t185 t189 t193 t211 t212 x15_23 = some r) ∧ Aside0 (kq ≤ k) ∧ Aside0 (Kd.N k36 36 wc w.heap.size (fun k_ => some k_ ≠ ((.slice (some ad218) t215.length co39) : Value).ownBlock) (.slice Ao27 t185.length co27) t185) ∧ Aside0 (Kd.N k36 36 wc w.heap.size (fun _ => True) (.slice (some ad218) t215.length co39) x15_23) ∧ Aside0 (Kd.C (Kd.slice 40 k40) wc A218_4 ((rd_T36 t215 t193).f0.f4).length ((rd_T36 t215 t193).f0.f4)) ∧ Aside0 (Kd.C k42 wc A218_6 ((rd_T36 t215 t193).f1).length ((rd_T36 t215 t193).f1)) ∧ Aside0 (Below w.heap.size w wc))
                  case first =>
                    have H := HC24.out
                    clear HC24
                    by_cases c40 : (((rd_T36 t215 t193).f1).length : Int) > 0
                    · rw [if_pos c40] at H
                      have c40b0 : decide (0 < (((rd_T36 t215 t193).f1).length : Int)) = true := decide_eq_true c40
                      have c40b1 : decide (0 < ((rd_T36 t215 t193).f1).length) = true := decide_eq_true (by omega)
                      clear c40
                      (first | rw [c40b0] | (simp only [i64_w, i32_w]; rw [c40b0]) | rw [c40b1] | skip)
                      replace H := Option.bind_eq_some_iff.mp H
                      obtain ⟨t220, A410, H⟩ := H
                      replace H : (if t193 < (t185.length : Int) then (if 0 ≤ t220 then (if t220 ≤ (((rd_T36 t185 t193).f1).length : Int) then (if 0 ≤ (wrap64 (t220 + 1)) then (if (wrap64 (t220 + 1)) ≤ (((rd_T36 t185 t193).f1).length : Int) then ((api_Box_21.f k (([(((rd_T36 t185 t193).f1).take (t220 : Int).toNat), (((rd_T36 t185 t193).f1).drop ((wrap64 (t220 + 1)) : Int).toNat)] : List (List (S42))))).bind fun t236 => (terrkeep5_PlaceFewer.j0 k t185 t189 t193 t211 t212 (t215.set (t193 : Int).toNat (⟨(⟨(rd_T36 t215 t193).f0.f0, (rd_T36 t215 t193).f0.f1, (rd_T36 t215 t193).f0.f2, (rd_T36 t215 t193).f0.f3, (rd_T36 t215 t193).f0.f4, (rd_T36 t215 t193).f0.f5⟩ : S33), t236, (rd_T36 t215 t193).f2⟩ : S36)))) else (none)) else (none)) else (none)) else (none)) else (none)) = some r := H
                      have A41 := Aside0.mk A410
                      clear A410
                      by_cases c42 : t193 < (t185.length : Int)
                      · rw [if_pos c42] at H
                        have c42b0 : decide (t193 < (t185.length : Int)) = true := decide_eq_true c42
                        clear c42
                        by_cases c43 : 0 ≤ t220
                        · rw [if_pos c43] at H
                          have c43b0 := eq_true c43
                          have c43b1 : decide (0 ≤ t220) = true := decide_eq_true c43
                          clear c43
                          by_cases c44 : t220 ≤ (((rd_T36 t185 t193).f1).length : Int)
                          · rw [if_pos c44] at H
                            have c44b0 := eq_true c44
                            have c44b1 : decide (t220 ≤ (((rd_T36 t185 t193).f1).length : Int)) = true := decide_eq_true c44
                            clear c44
                            obtain ⟨y222, hy222⟩ : ∃ y_ : List (S42), y_ = (((rd_T36 t185 t193).f1).take (t220 : Int).toNat) := ⟨_, rfl⟩
                            replace H : (if 0 ≤ (wrap64 (t220 + 1)) then (if (wrap64 (t220 + 1)) ≤ (((rd_T36 t185 t193).f1).length : Int) then ((api_Box_21.f k (([y222, (((rd_T36 t185 t193).f1).drop ((wrap64 (t220 + 1)) : Int).toNat)] : List (List (S42))))).bind fun t236 => (terrkeep5_PlaceFewer.j0 k t185 t189 t193 t211 t212 (t215.set (t193 : Int).toNat (⟨(⟨(rd_T36 t215 t193).f0.f0, (rd_T36 t215 t193).f0.f1, (rd_T36 t215 t193).f0.f2, (rd_T36 t215 t193).f0.f3, (rd_T36 t215 t193).f0.f4, (rd_T36 t215 t193).f0.f5⟩ : S33), t236, (rd_T36 t215 t193).f2⟩ : S36)))) else (none)) else (none)) = some r := by first | (rw [hy222]; with_reducible exact H) | (have H2_ := (Option.bind_some _ _).symm.trans H; rw [hy222]; with_reducible exact H2_) | (have H2_ := (Option.bind_some _ _).symm.trans H; with_reducible exact H2_) | with_reducible exact H | (rw [hy222]; exact H) | exact H
                            have Ny222 := Aside0.mk hy222
                            clear hy222
                            obtain ⟨ji45, hji45⟩ : ∃ j_ : Int, (wrap64 (t220 + 1)) = j_ := ⟨_, rfl⟩
                            replace H : (if 0 ≤ (ji45) then (if (ji45) ≤ (((rd_T36 t185 t193).f1).length : Int) then ((api_Box_21.f k (([y222, (((rd_T36 t185 t193).f1).drop ((ji45) : Int).toNat)] : List (List (S42))))).bind fun t236 => (terrkeep5_PlaceFewer.j0 k t185 t189 t193 t211 t212 (t215.set (t193 : Int).toNat (⟨(⟨(rd_T36 t215 t193).f0.f0, (rd_T36 t215 t193).f0.f1, (rd_T36 t215 t193).f0.f2, (rd_T36 t215 t193).f0.f3, (rd_T36 t215 t193).f0.f4, (rd_T36 t215 t193).f0.f5⟩ : S33), t236, (rd_T36 t215 t193).f2⟩ : S36)))) else (none)) else (none)) = some r := by first | (rw [hji45] at H; exact H) | (simp only [hji45] at H ⊢; exact H)
                            (try rw [hji45] at A41)
                            have hji45w : (IntKind.i64.wrap (t220 + 1)) = ji45 := (i64_w _).trans hji45
                            by_cases c46 : 0 ≤ (ji45)
                            · rw [if_pos c46] at H
                              have c46b0 := eq_true c46
                              have c46b1 : decide (0 ≤ (ji45)) = true := decide_eq_true c46
                              clear c46
                              by_cases c47 : (ji45) ≤ (((rd_T36 t185 t193).f1).length : Int)
                              · rw [if_pos c47] at H
                                have c47b0 := eq_true c47
                                have c47b1 : decide ((ji45) ≤ (((rd_T36 t185 t193).f1).length : Int)) = true := decide_eq_true c47
                                clear c47
                                obtain ⟨y228, hy228⟩ : ∃ y_ : List (S42), y_ = (((rd_T36 t185 t193).f1).drop ((ji45) : Int).toNat) := ⟨_, rfl⟩
                                replace H : ((api_Box_21.f k (([y222, y228] : List (List (S42))))).bind fun t236 => (terrkeep5_PlaceFewer.j0 k t185 t189 t193 t211 t212 (t215.set (t193 : Int).toNat (⟨(⟨(rd_T36 t215 t193).f0.f0, (rd_T36 t215 t193).f0.f1, (rd_T36 t215 t193).f0.f2, (rd_T36 t215 t193).f0.f3, (rd_T36 t215 t193).f0.f4, (rd_T36 t215 t193).f0.f5⟩ : S33), t236, (rd_T36 t215 t193).f2⟩ : S36)))) = some r := by first | (rw [hy228]; with_reducible exact H) | (have H2_ := (Option.bind_some _ _).symm.trans H; rw [hy228]; with_reducible exact H2_) | (have H2_ := (Option.bind_some _ _).symm.trans H; with_reducible exact H2_) | with_reducible exact H | (rw [hy228]; exact H) | exact H
                                have Ny228 := Aside0.mk hy228
                                clear hy228
                                obtain ⟨y233, hy233⟩ : ∃ y_ : List (List (S42)), y_ = (([y222, y228] : List (List (S42)))) := ⟨_, rfl⟩
                                replace H : ((api_Box_21.f k y233).bind fun t236 => (terrkeep5_PlaceFewer.j0 k t185 t189 t193 t211 t212 (t215.set (t193 : Int).toNat (⟨(⟨(rd_T36 t215 t193).f0.f0, (rd_T36 t215 t193).f0.f1, (rd_T36 t215 t193).f0.f2, (rd_T36 t215 t193).f0.f3, (rd_T36 t215 t193).f0.f4, (rd_T36 t215 t193).f0.f5⟩ : S33), t236, (rd_T36 t215 t193).f2⟩ : S36)))) = some r := by first | (rw [hy233]; with_reducible exact H) | (have H2_ := (Option.bind_some _ _).symm.trans H; rw [hy233]; with_reducible exact H2_) | (have H2_ := (Option.bind_some _ _).symm.trans H; with_reducible exact H2_) | with_reducible exact H | (rw [hy233]; exact H) | exact H
                                have Ny233 := Aside0.mk hy233
                                clear hy233
                                replace H := Option.bind_eq_some_iff.mp H
                                obtain ⟨t236, A480, H⟩ := H
                                replace H : (terrkeep5_PlaceFewer.j0 k t185 t189 t193 t211 t212 (t215.set (t193 : Int).toNat (⟨(⟨(rd_T36 t215 t193).f0.f0, (rd_T36 t215 t193).f0.f1, (rd_T36 t215 t193).f0.f2, (rd_T36 t215 t193).f0.f3, (rd_T36 t215 t193).f0.f4, (rd_T36 t215 t193).f0.f5⟩ : S33), t236, (rd_T36 t215 t193).f2⟩ : S36))) = some r := H
                                have A48 := Aside0.mk A480
                                clear A480
                                obtain ⟨y239, hy239⟩ : ∃ y_ : List (S36), y_ = (t215.set (t193 : Int).toNat (⟨(⟨(rd_T36 t215 t193).f0.f0, (rd_T36 t215 t193).f0.f1, (rd_T36 t215 t193).f0.f2, (rd_T36 t215 t193).f0.f3, (rd_T36 t215 t193).f0.f4, (rd_T36 t215 t193).f0.f5⟩ : S33), t236, (rd_T36 t215 t193).f2⟩ : S36)) := ⟨_, rfl⟩
                                replace H : (terrkeep5_PlaceFewer.j0 k t185 t189 t193 t211 t212 y239) = some r := by first | (rw [hy239]; with_reducible exact H) | (have H2_ := (Option.bind_some _ _).symm.trans H; rw [hy239]; with_reducible exact H2_) | (have H2_ := (Option.bind_some _ _).symm.trans H; with_reducible exact H2_) | with_reducible exact H | (rw [hy239]; exact H) | exact H
                                have Ny239 := Aside0.mk hy239
                                clear hy239
                                have H' := Aside0.mk H
                                clear H
                                have p219 : 0 ≤ (t193 : Int) := of_decide_eq_true (by first | (with_reducible assumption) | assumption)
                                have q219 : t193 < (t215.length : Int) := of_decide_eq_true (by first | (with_reducible assumption) | assumption)
                                obtain ⟨ad219, A219_4, c219_4, A219_6, c219_6, e219, hx219_0, hx219_1, hx219_2, hx219_3, hx219_4, hx219_5, hx219_6, hx219_7, hl219_4, hi219_4, hl219_6, hi219_6⟩ := at_T36 (Kd.N_reads' HO217.out).2.2 t193 p219 q219
                                obtain rfl : ad218 = ad219 := (by injection e219)
                                obtain ⟨ce219, hce219, hMe219, hcc219⟩ := Kd.N_get HO217.out z36 t193 p219 (by first | exact q219 | exact of_decide_eq_true (by first | (with_reducible assumption) | assumption) | (have e_ := (Kd.N_reads' HO217.out).1; omega))
                                obtain ⟨ua219_4, uc219_4, ua219_6, uc219_6, rfl, ul219_4, ge219_4, ul219_6, ge219_6⟩ := k36_openF hMe219
                                have hv219_4 := hcc219 4 _ rfl
                                rw [add_field _ _ 4 (by omega)] at hv219_4
                                replace hv219_4 := Option.some.inj (hv219_4.symm.trans hx219_4)
                                injection hv219_4 with hva_ hvn_ hvc_
                                rw [hva_] at ge219_4
                                rw [hvc_] at ul219_4
                                have HL219_4 := Aside0.mk (show Kd.V (Kd.slice 40 k40) 54 _ w.heap.size _ _ ((rd_T36 t215 t193).f0.f4) from Kd.V_mk ul219_4 ge219_4)
                                clear hva_ hvn_ hvc_ ge219_4 ul219_4
                                have hv219_6 := hcc219 6 _ rfl
                                rw [add_field _ _ 6 (by omega)] at hv219_6
                                replace hv219_6 := Option.some.inj (hv219_6.symm.trans hx219_6)
                                injection hv219_6 with hva_ hvn_ hvc_
                                rw [hva_] at ge219_6
                                rw [hvc_] at ul219_6
                                have HL219_6 := Aside0.mk (show Kd.V k42 42 _ w.heap.size _ _ ((rd_T36 t215 t193).f1) from Kd.V_mk ul219_6 ge219_6)
                                clear hva_ hvn_ hvc_ ge219_6 ul219_6
                                clear hcc219 hce219
                                have HR219_4 := Aside0.mk hi219_4
                                have HC219_4 := Aside0.mk hl219_4
                                clear hi219_4 hl219_4
                                have HR219_6 := Aside0.mk hi219_6
                                have HC219_6 := Aside0.mk hl219_6
                                clear hi219_6 hl219_6
                                replace p219 := eq_true p219
                                replace q219 := eq_true q219
                                try go_wp2_with (first | ((with_reducible refine gate_callee (f := 18) rfl ?_); refine goesL_ (some 74) rfl rfl Try.func18 (by kernel_rfl) rfl #[.int .i64 a2, .int .i64 (((rd_T36 t215 t193).f1).length : Int)] rfl (by (try simp only [List.map_toArray, List.map_cons, List.map_nil]); first | done | rfl | (simp only [List.length_drop, List.length_take]; rfl)) ?_; (with_reducible refine (terrmake_Below.calls a2 (((rd_T36 t215 t193).f1).length : Int) t220 _ A41.out).mono ?_); rintro e w' ⟨rfl, ⟨nd, rfl⟩⟩; refine ⟨_, rfl, ?_⟩; (try (rw [drewN_self w38]; generalize hq_ : World.drewN w38 _ = w38; have n0_ : Aside0 (Kd.V (Kd.slice 40 k40) 54 w38 w.heap.size (fun k_ => some k_ ≠ (v191 : Value).ownBlock ∧ some k_ ≠ (.slice Ao34 y204.length co34 : Value).ownBlock ∧ some k_ ≠ (.slice Ao36 t207.length co36 : Value).ownBlock ∧ some k_ ≠ (v213 : Value).ownBlock ∧ some k_ ≠ (.slice (some ad218) t215.length co39 : Value).ownBlock) (.slice A218_4 ((rd_T36 t215 t193).f0.f4).length c218_4) ((rd_T36 t215 t193).f0.f4)) := ⟨by rw [← hq_]; exact (by (with_reducible repeat (first | apply Kd.V_alloc | apply Kd.V_drewN | apply Kd.V_drew)); exact Kd.V_mono HL218_4.out (fun _ hk => by first | exact ⟨hk.1.1, ⟨hk.1.2.1, ⟨hk.1.2.2.1, ⟨hk.1.2.2.2, hk.2⟩⟩⟩⟩ | exact ⟨hk.1.1, ⟨hk.1.2.1, ⟨hk.1.2.2.1, ⟨hk.1.2.2.2, hk.2⟩⟩⟩⟩ | (simp only [true_and, and_assoc, ne_eq] at hk ⊢; simp only [hk, not_false_eq_true, and_self])))⟩; have n1_ : Aside0 (Kd.V k42 42 w38 w.heap.size (fun k_ => some k_ ≠ (v191 : Value).ownBlock ∧ some k_ ≠ (.slice Ao34 y204.length co34 : Value).ownBlock ∧ some k_ ≠ (.slice Ao36 t207.length co36 : Value).ownBlock ∧ some k_ ≠ (v213 : Value).ownBlock ∧ some k_ ≠ (.slice (some ad218) t215.length co39 : Value).ownBlock) (.slice A218_6 ((rd_T36 t215 t193).f1).length c218_6) ((rd_T36 t215 t193).f1)) := ⟨by rw [← hq_]; exact (by (with_reducible repeat (first | apply Kd.V_alloc | apply Kd.V_drewN | apply Kd.V_drew)); exact Kd.V_mono HL218_6.out (fun _ hk => by first | exact ⟨hk.1.1, ⟨hk.1.2.1, ⟨hk.1.2.2.1, ⟨hk.1.2.2.2, hk.2⟩⟩⟩⟩ | exact ⟨hk.1.1, ⟨hk.1.2.1, ⟨hk.1.2.2.1, ⟨hk.1.2.2.2, hk.2⟩⟩⟩⟩ | (simp only [true_and, and_assoc, ne_eq] at hk ⊢; simp only [hk, not_false_eq_true, and_self])))⟩; have n2_ : Aside0 (Kd.V (Kd.slice 40 k40) 54 w38 w.heap.size (fun k_ => some k_ ≠ (v191 : Value).ownBlock ∧ some k_ ≠ (.slice Ao34 y204.length co34 : Value).ownBlock ∧ some k_ ≠ (.slice Ao36 t207.length co36 : Value).ownBlock ∧ some k_ ≠ (v213 : Value).ownBlock ∧ some k_ ≠ (.slice (some ad218) t215.length co39 : Value).ownBlock) (.slice A219_4 ((rd_T36 t215 t193).f0.f4).length c219_4) ((rd_T36 t215 t193).f0.f4)) := ⟨by rw [← hq_]; exact (by (with_reducible repeat (first | apply Kd.V_alloc | apply Kd.V_drewN | apply Kd.V_drew)); exact Kd.V_mono HL219_4.out (fun _ hk => by first | exact ⟨hk.1.1, ⟨hk.1.2.1, ⟨hk.1.2.2.1, ⟨hk.1.2.2.2, hk.2⟩⟩⟩⟩ | exact ⟨hk.1.1, ⟨hk.1.2.1, ⟨hk.1.2.2.1, ⟨hk.1.2.2.2, hk.2⟩⟩⟩⟩ | (simp only [true_and, and_assoc, ne_eq] at hk ⊢; simp only [hk, not_false_eq_true, and_self])))⟩; have n3_ : Aside0 (Kd.V k42 42 w38 w.heap.size (fun k_ => some k_ ≠ (v191 : Value).ownBlock ∧ some k_ ≠ (.slice Ao34 y204.length co34 : Value).ownBlock ∧ some k_ ≠ (.slice Ao36 t207.length co36 : Value).ownBlock ∧ some k_ ≠ (v213 : Value).ownBlock ∧ some k_ ≠ (.slice (some ad218) t215.length co39 : Value).ownBlock) (.slice A219_6 ((rd_T36 t215 t193).f1).length c219_6) ((rd_T36 t215 t193).f1)) := ⟨by rw [← hq_]; exact (by (with_reducible repeat (first | apply Kd.V_alloc | apply Kd.V_drewN | apply Kd.V_drew)); exact Kd.V_mono HL219_6.out (fun _ hk => by first | exact ⟨hk.1.1, ⟨hk.1.2.1, ⟨hk.1.2.2.1, ⟨hk.1.2.2.2, hk.2⟩⟩⟩⟩ | exact ⟨hk.1.1, ⟨hk.1.2.1, ⟨hk.1.2.2.1, ⟨hk.1.2.2.2, hk.2⟩⟩⟩⟩ | (simp only [true_and, and_assoc, ne_eq] at hk ⊢; simp only [hk, not_false_eq_true, and_self])))⟩; have n4_ : Aside0 (Kd.N k36 36 w38 w.heap.size (fun k_ => some k_ ≠ (v191 : Value).ownBlock ∧ some k_ ≠ (.slice Ao34 y204.length co34 : Value).ownBlock ∧ some k_ ≠ (.slice Ao36 t207.length co36 : Value).ownBlock ∧ some k_ ≠ (v213 : Value).ownBlock ∧ some k_ ≠ (.slice (some ad218) t215.length co39 : Value).ownBlock) (.slice Ao27 t185.length co27) t185) := ⟨by rw [← hq_]; exact (by (with_reducible repeat (first | apply Kd.N_alloc | apply Kd.N_drewN | apply Kd.N_drew)); exact Kd.N_mono HO187.out (fun _ hk => by first | exact ⟨hk.1.1.1.1.2, ⟨hk.1.1.1.2, ⟨hk.1.1.2, ⟨hk.1.2, hk.2⟩⟩⟩⟩ | exact ⟨hk.1.1.1.1, ⟨hk.1.1.1.2, ⟨hk.1.1.2, ⟨hk.1.2, hk.2⟩⟩⟩⟩ | (simp only [true_and, and_assoc, ne_eq] at hk ⊢; simp only [hk, not_false_eq_true, and_self])))⟩; have n5_ : Aside0 (Kd.R (Kd.int .i64) 3 w38 w.heap.size (fun k_ => some k_ ≠ (v213 : Value).ownBlock) v191 t188) := ⟨by rw [← hq_]; exact (by (with_reducible repeat (first | apply Kd.R_alloc | apply Kd.R_drewN | apply Kd.R_drew)); exact Kd.R_mono HO192.out (fun _ hk => by first | exact hk.2 | exact hk | (simp only [true_and, and_assoc, ne_eq] at hk ⊢; simp only [hk, not_false_eq_true, and_self])))⟩; have n6_ : Aside0 (Kd.V k36 36 w38 w.heap.size (fun k_ => some k_ ≠ (v191 : Value).ownBlock ∧ some k_ ≠ (.slice Ao34 y204.length co34 : Value).ownBlock ∧ some k_ ≠ (.slice Ao36 t207.length co36 : Value).ownBlock ∧ some k_ ≠ (v213 : Value).ownBlock ∧ some k_ ≠ (.slice (some ad218) t215.length co39 : Value).ownBlock) (.slice Ao27 y194.length co27) y194) := ⟨by rw [← hq_]; exact (by (with_reducible repeat (first | apply Kd.V_alloc | apply Kd.V_drewN | apply Kd.V_drew)); exact Kd.V_mono HO198.out (fun _ hk => by first | exact ⟨hk.1.1.1.1.2, ⟨hk.1.1.1.2, ⟨hk.1.1.2, ⟨hk.1.2, hk.2⟩⟩⟩⟩ | exact ⟨hk.1.1.1.1, ⟨hk.1.1.1.2, ⟨hk.1.1.2, ⟨hk.1.2, hk.2⟩⟩⟩⟩ | (simp only [true_and, and_assoc, ne_eq] at hk ⊢; simp only [hk, not_false_eq_true, and_self])))⟩; have n7_ : Aside0 (Kd.V k36 36 w38 w.heap.size (fun k_ => some k_ ≠ (v191 : Value).ownBlock ∧ some k_ ≠ (.slice Ao34 y204.length co34 : Value).ownBlock ∧ some k_ ≠ (.slice Ao36 t207.length co36 : Value).ownBlock ∧ some k_ ≠ (v213 : Value).ownBlock ∧ some k_ ≠ (.slice (some ad218) t215.length co39 : Value).ownBlock) (.slice A31 y199.length c31) y199) := ⟨by rw [← hq_]; exact (by (with_reducible repeat (first | apply Kd.V_alloc | apply Kd.V_drewN | apply Kd.V_drew)); exact Kd.V_mono HO203.out (fun _ hk => by first | exact ⟨hk.1.1.1.1.2, ⟨hk.1.1.1.2, ⟨hk.1.1.2, ⟨hk.1.2, hk.2⟩⟩⟩⟩ | exact ⟨hk.1.1.1.1, ⟨hk.1.1.1.2, ⟨hk.1.1.2, ⟨hk.1.2, hk.2⟩⟩⟩⟩ | (simp only [true_and, and_assoc, ne_eq] at hk ⊢; simp only [hk, not_false_eq_true, and_self])))⟩; have n8_ : Aside0 (Kd.N (Kd.slice 36 k36) 24 w38 w.heap.size (fun k_ => some k_ ≠ (v191 : Value).ownBlock ∧ some k_ ≠ (.slice Ao36 t207.length co36 : Value).ownBlock ∧ some k_ ≠ (v213 : Value).ownBlock ∧ some k_ ≠ (.slice (some ad218) t215.length co39 : Value).ownBlock) (.slice Ao34 y204.length co34) y204) := ⟨by rw [← hq_]; exact (by (with_reducible repeat (first | apply Kd.N_alloc | apply Kd.N_drewN | apply Kd.N_drew)); exact Kd.N_mono HO206.out (fun _ hk => by first | exact ⟨hk.1.1.1, ⟨hk.1.1.2, ⟨hk.1.2, hk.2⟩⟩⟩ | exact ⟨hk.1.1.1, ⟨hk.1.1, ⟨hk.1.2, hk.2⟩⟩⟩ | (simp only [true_and, and_assoc, ne_eq] at hk ⊢; simp only [hk, not_false_eq_true, and_self])))⟩; have n9_ : Aside0 (Kd.N k36 36 w38 w.heap.size (fun k_ => some k_ ≠ (v191 : Value).ownBlock ∧ some k_ ≠ (v213 : Value).ownBlock ∧ some k_ ≠ (.slice (some ad218) t215.length co39 : Value).ownBlock) (.slice Ao36 t207.length co36) t207) := ⟨by rw [← hq_]; exact (by (with_reducible repeat (first | apply Kd.N_alloc | apply Kd.N_drewN | apply Kd.N_drew)); exact Kd.N_mono HO209.out (fun _ hk => by first | exact ⟨hk.1.1, ⟨hk.1.2, hk.2⟩⟩ | exact ⟨hk.1.1, ⟨hk.1, hk.2⟩⟩ | (simp only [true_and, and_assoc, ne_eq] at hk ⊢; simp only [hk, not_false_eq_true, and_self])))⟩; have n10_ : Aside0 (Kd.R (Kd.int .i64) 3 w38 w.heap.size (fun k_ => some k_ ≠ (v191 : Value).ownBlock) v213 t210) := ⟨by rw [← hq_]; exact (by (with_reducible repeat (first | apply Kd.R_alloc | apply Kd.R_drewN | apply Kd.R_drew)); exact Kd.R_mono HO214.out (fun _ hk => by first | exact hk.2 | exact hk | (simp only [true_and, and_assoc, ne_eq] at hk ⊢; simp only [hk, not_false_eq_true, and_self])))⟩; have n11_ : Aside0 (Kd.N k36 36 w38 w.heap.size (fun k_ => some k_ ≠ (v191 : Value).ownBlock ∧ some k_ ≠ (.slice Ao34 y204.length co34 : Value).ownBlock ∧ some k_ ≠ (.slice Ao36 t207.length co36 : Value).ownBlock ∧ some k_ ≠ (v213 : Value).ownBlock) (.slice (some ad218) t215.length co39) t215) := ⟨by rw [← hq_]; exact (by (with_reducible repeat (first | apply Kd.N_alloc | apply Kd.N_drewN | apply Kd.N_drew)); exact HO217.out)⟩; have n12_ : Aside0 (Below w.heap.size w w38) := ⟨by rw [← hq_]; exact (by repeat (first | (with_reducible first | exact HB.out | apply below_alloc | apply pw_below_drewN | apply below_drew1) | exact HB.out))⟩; have n13_ : Aside0 (Kd.C (Kd.slice 40 k40) w38 A218_4 ((rd_T36 t215 t193).f0.f4).length ((rd_T36 t215 t193).f0.f4)) := ⟨by rw [← hq_]; exact (by repeat (first | (with_reducible exact HR218_4.out) | (with_reducible refine Kd.C_alloc ?_ _) | (with_reducible refine Kd.C_drewN ?_ _) | (with_reducible refine Kd.C_drew ?_) | exact HR218_4.out))⟩; have n14_ : Aside0 (Kd.C k42 w38 A218_6 ((rd_T36 t215 t193).f1).length ((rd_T36 t215 t193).f1)) := ⟨by rw [← hq_]; exact (by repeat (first | (with_reducible exact HR218_6.out) | (with_reducible refine Kd.C_alloc ?_ _) | (with_reducible refine Kd.C_drewN ?_ _) | (with_reducible refine Kd.C_drew ?_) | exact HR218_6.out))⟩; have n15_ : Aside0 (Kd.C (Kd.slice 40 k40) w38 A219_4 ((rd_T36 t215 t193).f0.f4).length ((rd_T36 t215 t193).f0.f4)) := ⟨by rw [← hq_]; exact (by repeat (first | (with_reducible exact HR219_4.out) | (with_reducible refine Kd.C_alloc ?_ _) | (with_reducible refine Kd.C_drewN ?_ _) | (with_reducible refine Kd.C_drew ?_) | exact HR219_4.out))⟩; have n16_ : Aside0 (Kd.C k42 w38 A219_6 ((rd_T36 t215 t193).f1).length ((rd_T36 t215 t193).f1)) := ⟨by rw [← hq_]; exact (by repeat (first | (with_reducible exact HR219_6.out) | (with_reducible refine Kd.C_alloc ?_ _) | (with_reducible refine Kd.C_drewN ?_ _) | (with_reducible refine Kd.C_drew ?_) | exact HR219_6.out))⟩; clear HL218_4 HL218_6 HL219_4 HL219_6 HO187 HO192 HO198 HO203 HO206 HO209 HO214 HO217 HB HR218_4 HR218_6 HR219_4 HR219_6 hq_; have HL218_4 := n0_; have HL218_6 := n1_; have HL219_4 := n2_; have HL219_6 := n3_; have HO187 := n4_; have HO192 := n5_; have HO198 := n6_; have HO203 := n7_; have HO206 := n8_; have HO209 := n9_; have HO214 := n10_; have HO217 := n11_; have HB := n12_; have HR218_4 := n13_; have HR218_6 := n14_; have HR219_4 := n15_; have HR219_6 := n16_; clear n0_ n1_ n2_ n3_ n4_ n5_ n6_ n7_ n8_ n9_ n10_ n11_ n12_ n13_ n14_ n15_ n16_))))
                                have n0_ := Aside0.mk (Kd.N_drew HO187.out)
                                have n1_ := Aside0.mk (Kd.R_drew HO192.out)
                                have n2_ := Aside0.mk (Kd.V_drew HO198.out)
                                have n3_ := Aside0.mk (Kd.V_drew HO203.out)
                                have n4_ := Aside0.mk (Kd.N_drew HO206.out)
                                have n5_ := Aside0.mk (Kd.N_drew HO209.out)
                                have n6_ := Aside0.mk (Kd.R_drew HO214.out)
                                have n7_ := Aside0.mk (Kd.N_drew HO217.out)
                                have n8_ := Aside0.mk (Kd.V_drew HL218_4.out)
                                have n9_ := Aside0.mk (Kd.V_drew HL218_6.out)
                                have n10_ := Aside0.mk (Kd.V_drew HL219_4.out)
                                have n11_ := Aside0.mk (Kd.V_drew HL219_6.out)
                                have n12_ := Aside0.mk (Kd.C_drew HR218_4.out)
                                have n13_ := Aside0.mk (Kd.C_drew HR218_6.out)
                                have n14_ := Aside0.mk (Kd.C_drew HR219_4.out)
                                have n15_ := Aside0.mk (Kd.C_drew HR219_6.out)
                                have n16_ := Aside0.mk (below_drew1 HB.out)
                                clear HO187
                                clear HO192
                                clear HO198
                                clear HO203
                                clear HO206
                                clear HO209
                                clear HO214
                                clear HO217
                                clear HL218_4
                                clear HL218_6
                                clear HL219_4
                                clear HL219_6
                                clear HR218_4
                                clear HR218_6
                                clear HR219_4
                                clear HR219_6
                                clear HB
                                have HO187 := n0_
                                have HO192 := n1_
                                have HO198 := n2_
                                have HO203 := n3_
                                have HO206 := n4_
                                have HO209 := n5_
                                have HO214 := n6_
                                have HO217 := n7_
                                have HL218_4 := n8_
                                have HL218_6 := n9_
                                have HL219_4 := n10_
                                have HL219_6 := n11_
                                have HR218_4 := n12_
                                have HR218_6 := n13_
                                have HR219_4 := n14_
                                have HR219_6 := n15_
                                have HB := n16_
                                clear n0_ n1_ n2_ n3_ n4_ n5_ n6_ n7_ n8_ n9_ n10_ n11_ n12_ n13_ n14_ n15_ n16_
                                have p221 : 0 ≤ (t193 : Int) := of_decide_eq_true (by first | (with_reducible assumption) | assumption)
                                have q221 : t193 < (t185.length : Int) := of_decide_eq_true (by first | (with_reducible assumption) | assumption)
                                obtain ⟨ad221, A221_4, c221_4, A221_6, c221_6, e221, hx221_0, hx221_1, hx221_2, hx221_3, hx221_4, hx221_5, hx221_6, hx221_7, hl221_4, hi221_4, hl221_6, hi221_6⟩ := at_T36 (Kd.N_reads' HO187.out).2.2 t193 p221 q221
                                cases e221
                                obtain ⟨ce221, hce221, hMe221, hcc221⟩ := Kd.N_get HO187.out z36 t193 p221 (by first | exact q221 | exact of_decide_eq_true (by first | (with_reducible assumption) | assumption) | (have e_ := (Kd.N_reads' HO187.out).1; omega))
                                obtain ⟨ua221_4, uc221_4, ua221_6, uc221_6, rfl, ul221_4, ge221_4, ul221_6, ge221_6⟩ := k36_openF hMe221
                                have hv221_4 := hcc221 4 _ rfl
                                rw [add_field _ _ 4 (by omega)] at hv221_4
                                replace hv221_4 := Option.some.inj (hv221_4.symm.trans hx221_4)
                                injection hv221_4 with hva_ hvn_ hvc_
                                rw [hva_] at ge221_4
                                rw [hvc_] at ul221_4
                                have HL221_4 := Aside0.mk (show Kd.V (Kd.slice 40 k40) 54 _ w.heap.size _ _ ((rd_T36 t185 t193).f0.f4) from Kd.V_mk ul221_4 ge221_4)
                                clear hva_ hvn_ hvc_ ge221_4 ul221_4
                                have hv221_6 := hcc221 6 _ rfl
                                rw [add_field _ _ 6 (by omega)] at hv221_6
                                replace hv221_6 := Option.some.inj (hv221_6.symm.trans hx221_6)
                                injection hv221_6 with hva_ hvn_ hvc_
                                rw [hva_] at ge221_6
                                rw [hvc_] at ul221_6
                                have HL221_6 := Aside0.mk (show Kd.V k42 42 _ w.heap.size _ _ ((rd_T36 t185 t193).f1) from Kd.V_mk ul221_6 ge221_6)
                                clear hva_ hvn_ hvc_ ge221_6 ul221_6
                                clear hcc221 hce221
                                have HR221_4 := Aside0.mk hi221_4
                                have HC221_4 := Aside0.mk hl221_4
                                clear hi221_4 hl221_4
                                have HR221_6 := Aside0.mk hi221_6
                                have HC221_6 := Aside0.mk hl221_6
                                clear hi221_6 hl221_6
                                replace p221 := eq_true p221
                                replace q221 := eq_true q221
                                have q51 : (t220 : Int) ≤ ((((rd_T36 t185 t193).f1).length : Int) : Int) := of_decide_eq_true (by first | (with_reducible assumption) | assumption)
                                obtain ⟨i051, hi051, _, hsz51, _⟩ := info_parts info42
                                have hroom51 : ((rd_T36 t185 t193).f1).length ≤ c221_6 := HC221_6.out
                                have hC51 : Kd.F k42 _ _ A221_6 ((rd_T36 t185 t193).f1).length ((rd_T36 t185 t193).f1) := (Kd.V_at (base := w.heap.size) HL221_6.out).2.2
                                have hcut51 := cut_to (P := Try.prog) 34 42 .i64 Try.underlying34 hi051 A221_6 ((rd_T36 t185 t193).f1).length c221_6 t220 (of_decide_eq_true (by first | (with_reducible assumption) | assumption)) q51 hroom51
                                have hr51 := Kd.F_take (m := (t220 : Int).toNat) hC51 (by omega)
                                have hy51 : y222.length = (t220 : Int).toNat := (by rw [Ny222.out, List.length_take]; omega)
                                rw [← Ny222.out] at hr51
                                rw [← hy51] at hcut51
                                have HO226 := Aside0.mk (show Kd.V k42 42 _ w.heap.size _ (.slice A221_6 y222.length c221_6) y222 from Kd.V_mk (by omega) hr51)
                                have HC226 := Aside0.mk (show y222.length ≤ c221_6 from by omega)
                                clear hr51 hC51 hroom51 hi051 hsz51
                                have KY51 := Aside0.mk hy51
                                clear hy51
                                replace q51 := eq_true q51
                                have p227 : 0 ≤ (t193 : Int) := of_decide_eq_true (by first | (with_reducible assumption) | assumption)
                                have q227 : t193 < (t185.length : Int) := of_decide_eq_true (by first | (with_reducible assumption) | assumption)
                                obtain ⟨ad227, A227_4, c227_4, A227_6, c227_6, e227, hx227_0, hx227_1, hx227_2, hx227_3, hx227_4, hx227_5, hx227_6, hx227_7, hl227_4, hi227_4, hl227_6, hi227_6⟩ := at_T36 (Kd.N_reads' HO187.out).2.2 t193 p227 q227
                                obtain rfl : ad221 = ad227 := (by injection e227)
                                obtain ⟨ce227, hce227, hMe227, hcc227⟩ := Kd.N_get HO187.out z36 t193 p227 (by first | exact q227 | exact of_decide_eq_true (by first | (with_reducible assumption) | assumption) | (have e_ := (Kd.N_reads' HO187.out).1; omega))
                                obtain ⟨ua227_4, uc227_4, ua227_6, uc227_6, rfl, ul227_4, ge227_4, ul227_6, ge227_6⟩ := k36_openF hMe227
                                have hv227_4 := hcc227 4 _ rfl
                                rw [add_field _ _ 4 (by omega)] at hv227_4
                                replace hv227_4 := Option.some.inj (hv227_4.symm.trans hx227_4)
                                injection hv227_4 with hva_ hvn_ hvc_
                                rw [hva_] at ge227_4
                                rw [hvc_] at ul227_4
                                have HL227_4 := Aside0.mk (show Kd.V (Kd.slice 40 k40) 54 _ w.heap.size _ _ ((rd_T36 t185 t193).f0.f4) from Kd.V_mk ul227_4 ge227_4)
                                clear hva_ hvn_ hvc_ ge227_4 ul227_4
                                have hv227_6 := hcc227 6 _ rfl
                                rw [add_field _ _ 6 (by omega)] at hv227_6
                                replace hv227_6 := Option.some.inj (hv227_6.symm.trans hx227_6)
                                injection hv227_6 with hva_ hvn_ hvc_
                                rw [hva_] at ge227_6
                                rw [hvc_] at ul227_6
                                have HL227_6 := Aside0.mk (show Kd.V k42 42 _ w.heap.size _ _ ((rd_T36 t185 t193).f1) from Kd.V_mk ul227_6 ge227_6)
                                clear hva_ hvn_ hvc_ ge227_6 ul227_6
                                clear hcc227 hce227
                                have HR227_4 := Aside0.mk hi227_4
                                have HC227_4 := Aside0.mk hl227_4
                                clear hi227_4 hl227_4
                                have HR227_6 := Aside0.mk hi227_6
                                have HC227_6 := Aside0.mk hl227_6
                                clear hi227_6 hl227_6
                                replace p227 := eq_true p227
                                replace q227 := eq_true q227
                                have ea_ := Option.some.inj (hx221_4.symm.trans hx227_4)
                                injection ea_ with ea_ en_ ec_
                                subst ea_
                                subst ec_
                                clear en_
                                have ea_ := Option.some.inj (hx221_6.symm.trans hx227_6)
                                injection ea_ with ea_ en_ ec_
                                subst ea_
                                subst ec_
                                clear en_
                                have q52 : ((ji45) : Int) ≤ ((((rd_T36 t185 t193).f1).length : Int) : Int) := of_decide_eq_true (by first | (with_reducible assumption) | assumption)
                                obtain ⟨i052, hi052, _, hsz52, _⟩ := info_parts info42
                                have hroom52 : ((rd_T36 t185 t193).f1).length ≤ c221_6 := HC227_6.out
                                have hC52 : Kd.F k42 _ _ A221_6 ((rd_T36 t185 t193).f1).length ((rd_T36 t185 t193).f1) := (Kd.V_at (base := w.heap.size) HL227_6.out).2.2
                                have q052 : (0 : Int) ≤ ((ji45) : Int) := of_decide_eq_true (by first | (with_reducible assumption) | assumption)
                                have hcut52 := cut_from (P := Try.prog) 34 42 .i64 Try.underlying34 hi052 4 hsz52 A221_6 ((rd_T36 t185 t193).f1).length c221_6 (ji45) q052 q52
                                have hr52 := Kd.F_cut (m := ((ji45) : Int).toNat) (c := c221_6) hC52 (by omega) hroom52
                                obtain ⟨A52, hA52⟩ : ∃ A1, A1 = (if c221_6 = ((ji45) : Int).toNat then A221_6 else (A221_6 : Option Addr).map (·.add (((ji45) : Int).toNat * 4))) := ⟨_, rfl⟩
                                obtain ⟨c52, hc52⟩ : ∃ c1, c1 = c221_6 - ((ji45) : Int).toNat := ⟨_, rfl⟩
                                have hy52 : y228.length = ((rd_T36 t185 t193).f1).length - ((ji45) : Int).toNat := (by rw [Ny228.out, List.length_drop] <;> omega)
                                rw [show ((rd_T36 t185 t193).f1).drop ((ji45) : Int).toNat = y228 from Ny228.out.symm] at hr52
                                replace hr52 : Kd.F k42 _ _ A52 y228.length y228 := (by rw [hA52]; exact hr52)
                                rw [← hy52, ← hA52, ← hc52] at hcut52
                                have HO232 := Aside0.mk (show Kd.V k42 42 _ w.heap.size _ (.slice A52 y228.length c52) y228 from Kd.V_mk (by rw [hy52, hc52]; exact Nat.sub_le_sub_right hroom52 _) hr52)
                                have HC232 := Aside0.mk (show y228.length ≤ c52 from by rw [hy52, hc52]; exact Nat.sub_le_sub_right hroom52 _)
                                clear hr52 hC52 hroom52 hi052 hsz52 hc52
                                have KY52 := Aside0.mk hy52
                                have KA52 := Aside0.mk hA52
                                clear hy52 hA52
                                replace q52 := eq_true q52
                                refine start_ (n := 22) (S := fun w' => w'.cell? (ad221.add ((t193).toNat * 8)) = some (.int .i64 ((rd_T36 t185 t193).f0.f0)) ∧ w'.cell? ⟨(ad221.add ((t193).toNat * 8)).block, (ad221.add ((t193).toNat * 8)).off + 1, none⟩ = some (.int .i64 ((rd_T36 t185 t193).f0.f1)) ∧ w'.cell? ⟨(ad221.add ((t193).toNat * 8)).block, (ad221.add ((t193).toNat * 8)).off + 2, none⟩ = some (.int .i64 ((rd_T36 t185 t193).f0.f2)) ∧ w'.cell? ⟨(ad221.add ((t193).toNat * 8)).block, (ad221.add ((t193).toNat * 8)).off + 3, none⟩ = some (.int .i64 ((rd_T36 t185 t193).f0.f3)) ∧ w'.cell? ⟨(ad221.add ((t193).toNat * 8)).block, (ad221.add ((t193).toNat * 8)).off + 4, none⟩ = some (.slice A221_4 ((rd_T36 t185 t193).f0.f4).length c221_4) ∧ w'.cell? ⟨(ad221.add ((t193).toNat * 8)).block, (ad221.add ((t193).toNat * 8)).off + 5, none⟩ = some (.string ((rd_T36 t185 t193).f0.f5)) ∧ w'.cell? ⟨(ad221.add ((t193).toNat * 8)).block, (ad221.add ((t193).toNat * 8)).off + 6, none⟩ = some (.slice A221_6 ((rd_T36 t185 t193).f1).length c221_6) ∧ w'.cell? ⟨(ad221.add ((t193).toNat * 8)).block, (ad221.add ((t193).toNat * 8)).off + 7, none⟩ = some (.int .i64 ((rd_T36 t185 t193).f2)) ∧ w'.cell? (ad221.add ((t193).toNat * 8)) = some (.int .i64 ((rd_T36 t185 t193).f0.f0)) ∧ w'.cell? ⟨(ad221.add ((t193).toNat * 8)).block, (ad221.add ((t193).toNat * 8)).off + 1, none⟩ = some (.int .i64 ((rd_T36 t185 t193).f0.f1)) ∧ w'.cell? ⟨(ad221.add ((t193).toNat * 8)).block, (ad221.add ((t193).toNat * 8)).off + 2, none⟩ = some (.int .i64 ((rd_T36 t185 t193).f0.f2)) ∧ w'.cell? ⟨(ad221.add ((t193).toNat * 8)).block, (ad221.add ((t193).toNat * 8)).off + 3, none⟩ = some (.int .i64 ((rd_T36 t185 t193).f0.f3)) ∧ w'.cell? ⟨(ad221.add ((t193).toNat * 8)).block, (ad221.add ((t193).toNat * 8)).off + 4, none⟩ = some (.slice A221_4 ((rd_T36 t185 t193).f0.f4).length c221_4) ∧ w'.cell? ⟨(ad221.add ((t193).toNat * 8)).block, (ad221.add ((t193).toNat * 8)).off + 5, none⟩ = some (.string ((rd_T36 t185 t193).f0.f5)) ∧ w'.cell? ⟨(ad221.add ((t193).toNat * 8)).block, (ad221.add ((t193).toNat * 8)).off + 6, none⟩ = some (.slice A221_6 ((rd_T36 t185 t193).f1).length c221_6) ∧ w'.cell? ⟨(ad221.add ((t193).toNat * 8)).block, (ad221.add ((t193).toNat * 8)).off + 7, none⟩ = some (.int .i64 ((rd_T36 t185 t193).f2))) (ds := [21]) #[false, false, false, false, false, false, false, false, false, false, false, false, false, false, false, false, false, false, false, false, false, false] (by kernel_rfl) rfl rfl ⟨hx221_0, hx221_1, hx221_2, hx221_3, hx221_4, hx221_5, hx221_6, hx221_7, hx227_0, hx227_1, hx227_2, hx227_3, hx227_4, hx227_5, hx227_6, hx227_7⟩ (fun hHeld => ?_); refine with_tabW terrkeep5_PlaceFewer.tab14 terrkeep5_PlaceFewer.bits14 (fun HT_ HW_ => ?_)
                                generalize w38.drew = w50 at HO187 HO192 HO198 HO203 HO206 HO209 HO214 HO217 HL218_4 HL218_6 HL219_4 HL219_6 HR218_4 HR218_6 HR219_4 HR219_6 HB HL221_4 HL221_6 HL227_4 HL227_6 HO226 HO232 HR221_4 HR221_6 HR227_4 HR227_6 hx221_0 hx221_1 hx221_2 hx221_3 hx221_4 hx221_5 hx221_6 hx221_7 hx227_0 hx227_1 hx227_2 hx227_3 hx227_4 hx227_5 hx227_6 hx227_7 hHeld ⊢
                                refine pure_ (i := 0) (N := some 75) (v := ?_) (a' := ?_) #[true, false, false, false, false, false, false, false, false, false, false, false, false, false, false, false, false, false, false, false, false, false] rfl rfl (any_of HT_.out (by kernel_rfl)) (fun _ _ _ h => h) (Or.inl ⟨by rfl, ?_⟩) ?_ ?_
                                rotate_left
                                · intro w'
                                  go_simp
                                  with_reducible rfl
                                rotate_left
                                · simp only [Act.put, List.setIfInBounds_toArray, List.set_cons_zero, List.set_cons_succ, i64_w, i32_w]
                                  rfl
                                refine pure_ (i := 1) (N := some 76) (v := ?_) (a' := ?_) #[true, true, false, false, false, false, false, false, false, false, false, false, false, false, false, false, false, false, false, false, false, false] rfl rfl (any_of HT_.out (by kernel_rfl)) (fun _ _ _ h => h) (Or.inl ⟨by rfl, ?_⟩) ?_ ?_
                                rotate_left
                                · intro w'
                                  go_simp
                                  with_reducible rfl
                                rotate_left
                                · simp only [Act.put, List.setIfInBounds_toArray, List.set_cons_zero, List.set_cons_succ, i64_w, i32_w]
                                  rfl
                                refine pure_ (i := 2) (N := some 77) (v := ?_) (a' := ?_) #[true, true, true, false, false, false, false, false, false, false, false, false, false, false, false, false, false, false, false, false, false, false] rfl rfl (any_of HT_.out (by kernel_rfl)) (fun _ _ _ h => h) (Or.inl ⟨by rfl, ?_⟩) ?_ ?_
                                rotate_left
                                · intro w'
                                  go_simp
                                  with_reducible rfl
                                rotate_left
                                · simp only [Act.put, List.setIfInBounds_toArray, List.set_cons_zero, List.set_cons_succ, i64_w, i32_w]
                                  rfl
                                refine pure_ (i := 3) (N := some 78) (v := ?_) (a' := ?_) #[true, true, true, true, false, false, false, false, false, false, false, false, false, false, false, false, false, false, false, false, false, false] rfl rfl (any_of HT_.out (by kernel_rfl)) (fun _ _ _ h => h) (Or.inl ⟨by rfl, ?_⟩) ?_ ?_
                                rotate_left
                                · intro w'
                                  go_simp
                                  with_reducible rfl
                                rotate_left
                                · simp only [Act.put, List.setIfInBounds_toArray, List.set_cons_zero, List.set_cons_succ, i64_w, i32_w]
                                  rfl
                                refine pure_ (i := 4) (N := some 79) (v := ?_) (a' := ?_) #[true, true, true, true, true, false, false, false, false, false, false, false, false, false, false, false, false, false, false, false, false, false] rfl rfl (any_of HT_.out (by kernel_rfl)) (fun _ _ _ h => h) (Or.inl ⟨by rfl, ?_⟩) ?_ ?_
                                rotate_left
                                · intro w'
                                  go_simp
                                  with_reducible rfl
                                rotate_left
                                · simp only [Act.put, List.setIfInBounds_toArray, List.set_cons_zero, List.set_cons_succ, i64_w, i32_w]
                                  rfl
                                refine pure_ (i := 5) (N := some 80) (v := ?_) (a' := ?_) #[true, true, true, true, true, true, false, false, false, false, false, false, false, false, false, false, false, false, false, false, false, false] rfl rfl (any_of HT_.out (by kernel_rfl)) (fun _ _ _ h => h) (Or.inl ⟨by rfl, ?_⟩) ?_ ?_
                                rotate_left
                                · intro w'
                                  go_simp
                                  with_reducible rfl
                                rotate_left
                                · simp only [Act.put, List.setIfInBounds_toArray, List.set_cons_zero, List.set_cons_succ, i64_w, i32_w]
                                  rfl
                                refine pure_ (i := 7) (N := some 82) (v := ?_) (a' := ?_) #[true, true, true, true, true, true, false, true, false, false, false, false, false, false, false, false, false, false, false, false, false, false] rfl rfl (any_of HT_.out (by kernel_rfl)) (fun _ _ _ h => h) (Or.inl ⟨by rfl, ?_⟩) ?_ ?_
                                rotate_left
                                · intro w'
                                  go_simp
                                  with_reducible rfl
                                rotate_left
                                · simp only [Act.put, List.setIfInBounds_toArray, List.set_cons_zero, List.set_cons_succ, i64_w, i32_w]
                                  rfl
                                refine pure_ (i := 9) (N := some 84) (v := ?_) (a' := ?_) #[true, true, true, true, true, true, false, true, false, true, false, false, false, false, false, false, false, false, false, false, false, false] rfl rfl (any_of HT_.out (by kernel_rfl)) (fun _ _ _ h => h) (Or.inl ⟨by rfl, ?_⟩) ?_ ?_
                                rotate_left
                                · intro w'
                                  go_simp
                                  with_reducible rfl
                                rotate_left
                                · simp only [Act.put, List.setIfInBounds_toArray, List.set_cons_zero, List.set_cons_succ, i64_w, i32_w]
                                  rfl
                                refine pure_ (i := 10) (N := some 85) (v := ?_) (a' := ?_) #[true, true, true, true, true, true, false, true, false, true, true, false, false, false, false, false, false, false, false, false, false, false] rfl rfl (any_of HT_.out (by kernel_rfl)) (fun _ _ _ h => h) (Or.inl ⟨by rfl, ?_⟩) ?_ ?_
                                rotate_left
                                · intro w'
                                  go_simp
                                  with_reducible rfl
                                rotate_left
                                · simp only [Act.put, List.setIfInBounds_toArray, List.set_cons_zero, List.set_cons_succ, i64_w, i32_w]
                                  rfl
                                refine pure_ (i := 11) (N := some 86) (v := ?_) (a' := ?_) #[true, true, true, true, true, true, false, true, false, true, true, true, false, false, false, false, false, false, false, false, false, false] rfl rfl (any_of HT_.out (by kernel_rfl)) (fun _ _ _ h => h) (Or.inl ⟨by rfl, ?_⟩) ?_ ?_
                                rotate_left
                                · intro w'
                                  go_simp
                                  with_reducible rfl
                                rotate_left
                                · simp only [Act.put, List.setIfInBounds_toArray, List.set_cons_zero, List.set_cons_succ, i64_w, i32_w]
                                  rfl
                                refine pure_ (i := 12) (N := some 87) (v := ?_) (a' := ?_) #[true, true, true, true, true, true, false, true, false, true, true, true, true, false, false, false, false, false, false, false, false, false] rfl rfl (any_of HT_.out (by kernel_rfl)) (fun _ _ _ h => h) (Or.inl ⟨by rfl, ?_⟩) ?_ ?_
                                rotate_left
                                · intro w'
                                  go_simp
                                  with_reducible rfl
                                rotate_left
                                · simp only [Act.put, List.setIfInBounds_toArray, List.set_cons_zero, List.set_cons_succ, i64_w, i32_w]
                                  rfl
                                refine pure_ (i := 14) (N := some 89) (v := ?_) (a' := ?_) #[true, true, true, true, true, true, false, true, false, true, true, true, true, false, true, false, false, false, false, false, false, false] rfl rfl (any_of HT_.out (by kernel_rfl)) (fun _ _ _ h => h) (Or.inl ⟨by rfl, ?_⟩) ?_ ?_
                                rotate_left
                                · intro w'
                                  go_simp
                                  with_reducible rfl
                                rotate_left
                                · simp only [Act.put, List.setIfInBounds_toArray, List.set_cons_zero, List.set_cons_succ, i64_w, i32_w]
                                  rfl
                                refine pure_ (i := 15) (N := some 90) (v := ?_) (a' := ?_) #[true, true, true, true, true, true, false, true, false, true, true, true, true, false, true, true, false, false, false, false, false, false] rfl rfl (any_of HT_.out (by kernel_rfl)) (fun _ _ _ h => h) (Or.inl ⟨by rfl, ?_⟩) ?_ ?_
                                rotate_left
                                · intro w'
                                  go_simp
                                  with_reducible rfl
                                rotate_left
                                · simp only [Act.put, List.setIfInBounds_toArray, List.set_cons_zero, List.set_cons_succ, i64_w, i32_w]
                                  rfl
                                refine take_ (i := 6) (N := some 81) (v := ?_) (a' := ?_) #[true, true, true, true, true, true, true, true, false, true, true, true, true, false, true, true, false, false, false, false, false, false] rfl rfl (take_ofW HT_.out HW_.out (by kernel_rfl)) (fun _ _ _ h => h) (Or.inl ⟨by rfl, ?_⟩) hHeld ?_ ?_
                                rotate_left
                                · rintro w' ⟨s0, s1, s2, s3, s4, s5, s6, s7, s8, s9, s10, s11, s12, s13, s14, s15⟩
                                  go_simp
                                  with_reducible rfl
                                rotate_left
                                · simp only [Act.put, List.setIfInBounds_toArray, List.set_cons_zero, List.set_cons_succ, i64_w, i32_w]
                                  rfl
                                refine pure_ (i := 8) (N := some 83) (v := ?_) (a' := ?_) #[true, true, true, true, true, true, true, true, true, true, true, true, true, false, true, true, false, false, false, false, false, false] rfl rfl (any_of HT_.out (by kernel_rfl)) (fun _ _ _ h => h) (Or.inl ⟨by rfl, ?_⟩) ?_ ?_
                                rotate_left
                                · intro w'
                                  go_simp
                                  with_reducible rfl
                                rotate_left
                                · simp only [Act.put, List.setIfInBounds_toArray, List.set_cons_zero, List.set_cons_succ, i64_w, i32_w]
                                  rfl
                                refine take_ (i := 13) (N := some 88) (v := ?_) (a' := ?_) #[true, true, true, true, true, true, true, true, true, true, true, true, true, true, true, true, false, false, false, false, false, false] rfl rfl (take_ofW HT_.out HW_.out (by kernel_rfl)) (fun _ _ _ h => h) (Or.inl ⟨by rfl, ?_⟩) hHeld ?_ ?_
                                rotate_left
                                · rintro w' ⟨s0, s1, s2, s3, s4, s5, s6, s7, s8, s9, s10, s11, s12, s13, s14, s15⟩
                                  go_simp
                                  with_reducible rfl
                                rotate_left
                                · simp only [Act.put, List.setIfInBounds_toArray, List.set_cons_zero, List.set_cons_succ, i64_w, i32_w]
                                  rfl
                                refine pure_ (i := 16) (N := some 91) (v := ?_) (a' := ?_) #[true, true, true, true, true, true, true, true, true, true, true, true, true, true, true, true, true, false, false, false, false, false] rfl rfl (any_of HT_.out (by kernel_rfl)) (fun _ _ _ h => h) (Or.inl ⟨by rfl, ?_⟩) ?_ ?_
                                rotate_left
                                · intro w'
                                  go_simp
                                  with_reducible rfl
                                rotate_left
                                · simp only [Act.put, List.setIfInBounds_toArray, List.set_cons_zero, List.set_cons_succ, i64_w, i32_w]
                                  rfl
                                refine one_ (i := 17) (N := some 92) #[true, true, true, true, true, true, true, true, true, true, true, true, true, true, true, true, true, true, false, false, false, false] rfl rfl (one_of HT_.out (by kernel_rfl)) (by decide) (fun K hK => ?_)
                                refine Kd.N_lit_step (Kd.slice 42 k42) _ 34 ?hg (N' := 92) ?hd (xs := ([y222, y228] : List (List (S42)))) (inner := [.slice A221_6 y222.length c221_6, .slice A52 y228.length c52]) (ok := (fun k_ => some k_ ≠ (.slice (some ad221) t185.length co27 : Value).ownBlock ∧ some k_ ≠ (v191 : Value).ownBlock ∧ some k_ ≠ (.slice Ao34 y204.length co34 : Value).ownBlock ∧ some k_ ≠ (.slice Ao36 t207.length co36 : Value).ownBlock ∧ some k_ ≠ (v213 : Value).ownBlock ∧ some k_ ≠ (.slice (some ad218) t215.length co39 : Value).ownBlock)) (okp := (fun k_ => some k_ ≠ (.slice (some ad221) t185.length co27 : Value).ownBlock ∧ some k_ ≠ (v191 : Value).ownBlock ∧ some k_ ≠ (.slice Ao34 y204.length co34 : Value).ownBlock ∧ some k_ ≠ (.slice Ao36 t207.length co36 : Value).ownBlock ∧ some k_ ≠ (v213 : Value).ownBlock ∧ some k_ ≠ (.slice (some ad218) t215.length co39 : Value).ownBlock)) ?hr ?hp (fun _ hk => hk) ((show ∀ k_, w50.heap.size ≤ k_ → (fun k_ => some k_ ≠ (.slice (some ad221) t185.length co27 : Value).ownBlock ∧ some k_ ≠ (v191 : Value).ownBlock ∧ some k_ ≠ (.slice Ao34 y204.length co34 : Value).ownBlock ∧ some k_ ≠ (.slice Ao36 t207.length co36 : Value).ownBlock ∧ some k_ ≠ (v213 : Value).ownBlock ∧ some k_ ≠ (.slice (some ad218) t215.length co39 : Value).ownBlock) k_ from fun k_ hk => ⟨Kd.fresh' (Kd.N_lt (by (with_reducible repeat (first | apply Kd.N_alloc | apply Kd.N_drewN | apply Kd.N_drew)); exact HO187.out)) k_ hk, Kd.fresh' (Kd.R_lt (by (with_reducible repeat (first | apply Kd.R_alloc | apply Kd.R_drewN | apply Kd.R_drew)); exact HO192.out)) k_ hk, Kd.fresh' (Kd.N_lt (by (with_reducible repeat (first | apply Kd.N_alloc | apply Kd.N_drewN | apply Kd.N_drew)); exact HO206.out)) k_ hk, Kd.fresh' (Kd.N_lt (by (with_reducible repeat (first | apply Kd.N_alloc | apply Kd.N_drewN | apply Kd.N_drew)); exact HO209.out)) k_ hk, Kd.fresh' (Kd.R_lt (by (with_reducible repeat (first | apply Kd.R_alloc | apply Kd.R_drewN | apply Kd.R_drew)); exact HO214.out)) k_ hk, Kd.fresh' (Kd.N_lt (by (with_reducible repeat (first | apply Kd.N_alloc | apply Kd.N_drewN | apply Kd.N_drew)); exact HO217.out)) k_ hk⟩) _ (Nat.le_refl _)) (Below.refl _ _) (Nat.le_refl _) (by simp) ?_; (case hd => rfl); (case hg => rfl); (case hr => first | (go_simp; done) | (go_simp; rfl)); (case hp => exact (Reps.one (show Kd.FK (Kd.slice 42 k42) _ _ y222 [.slice A221_6 y222.length c221_6] from (Kd.FK_slice_mk (Kd.V_reads' (Kd.V_mono (ok' := (fun k_ => some k_ ≠ (.slice (some ad221) t185.length co27 : Value).ownBlock ∧ some k_ ≠ (v191 : Value).ownBlock ∧ some k_ ≠ (.slice Ao34 y204.length co34 : Value).ownBlock ∧ some k_ ≠ (.slice Ao36 t207.length co36 : Value).ownBlock ∧ some k_ ≠ (v213 : Value).ownBlock ∧ some k_ ≠ (.slice (some ad218) t215.length co39 : Value).ownBlock)) (HO226.out) (fun k_ hk => by first | exact ⟨hk.2, ⟨hk.1.1.1.1.1.2, ⟨hk.1.1.1.1.2, ⟨hk.1.1.1.2, ⟨hk.1.1.2, hk.1.2⟩⟩⟩⟩⟩ | exact ⟨hk.2, ⟨hk.1.1.1.1.1, ⟨hk.1.1.1.1.2, ⟨hk.1.1.1.2, ⟨hk.1.1.2, hk.1.2⟩⟩⟩⟩⟩ | (simp only [true_and, and_assoc, ne_eq] at hk ⊢; simp only [hk, not_false_eq_true, and_self])))).2.1 (Kd.V_F (Kd.V_mono (ok' := (fun k_ => some k_ ≠ (.slice (some ad221) t185.length co27 : Value).ownBlock ∧ some k_ ≠ (v191 : Value).ownBlock ∧ some k_ ≠ (.slice Ao34 y204.length co34 : Value).ownBlock ∧ some k_ ≠ (.slice Ao36 t207.length co36 : Value).ownBlock ∧ some k_ ≠ (v213 : Value).ownBlock ∧ some k_ ≠ (.slice (some ad218) t215.length co39 : Value).ownBlock)) (HO226.out) (fun k_ hk => by first | exact ⟨hk.2, ⟨hk.1.1.1.1.1.2, ⟨hk.1.1.1.1.2, ⟨hk.1.1.1.2, ⟨hk.1.1.2, hk.1.2⟩⟩⟩⟩⟩ | exact ⟨hk.2, ⟨hk.1.1.1.1.1, ⟨hk.1.1.1.1.2, ⟨hk.1.1.1.2, ⟨hk.1.1.2, hk.1.2⟩⟩⟩⟩⟩ | (simp only [true_and, and_assoc, ne_eq] at hk ⊢; simp only [hk, not_false_eq_true, and_self])))))) (Reps.one (show Kd.FK (Kd.slice 42 k42) _ _ y228 [.slice A52 y228.length c52] from (Kd.FK_slice_mk (Kd.V_reads' (Kd.V_mono (ok' := (fun k_ => some k_ ≠ (.slice (some ad221) t185.length co27 : Value).ownBlock ∧ some k_ ≠ (v191 : Value).ownBlock ∧ some k_ ≠ (.slice Ao34 y204.length co34 : Value).ownBlock ∧ some k_ ≠ (.slice Ao36 t207.length co36 : Value).ownBlock ∧ some k_ ≠ (v213 : Value).ownBlock ∧ some k_ ≠ (.slice (some ad218) t215.length co39 : Value).ownBlock)) (HO232.out) (fun k_ hk => by first | exact ⟨hk.2, ⟨hk.1.1.1.1.1.2, ⟨hk.1.1.1.1.2, ⟨hk.1.1.1.2, ⟨hk.1.1.2, hk.1.2⟩⟩⟩⟩⟩ | exact ⟨hk.2, ⟨hk.1.1.1.1.1, ⟨hk.1.1.1.1.2, ⟨hk.1.1.1.2, ⟨hk.1.1.2, hk.1.2⟩⟩⟩⟩⟩ | (simp only [true_and, and_assoc, ne_eq] at hk ⊢; simp only [hk, not_false_eq_true, and_self])))).2.1 (Kd.V_F (Kd.V_mono (ok' := (fun k_ => some k_ ≠ (.slice (some ad221) t185.length co27 : Value).ownBlock ∧ some k_ ≠ (v191 : Value).ownBlock ∧ some k_ ≠ (.slice Ao34 y204.length co34 : Value).ownBlock ∧ some k_ ≠ (.slice Ao36 t207.length co36 : Value).ownBlock ∧ some k_ ≠ (v213 : Value).ownBlock ∧ some k_ ≠ (.slice (some ad218) t215.length co39 : Value).ownBlock)) (HO232.out) (fun k_ hk => by first | exact ⟨hk.2, ⟨hk.1.1.1.1.1.2, ⟨hk.1.1.1.1.2, ⟨hk.1.1.1.2, ⟨hk.1.1.2, hk.1.2⟩⟩⟩⟩⟩ | exact ⟨hk.2, ⟨hk.1.1.1.1.1, ⟨hk.1.1.1.1.2, ⟨hk.1.1.1.2, ⟨hk.1.1.2, hk.1.2⟩⟩⟩⟩⟩ | (simp only [true_and, and_assoc, ne_eq] at hk ⊢; simp only [hk, not_false_eq_true, and_self])))))) (Reps.none _ _))))
                                intro v234 w53 ho54 hb hg_ hnew_
                                have HS0_ := (hb.cell (World.block_lt_of_cell? _ _ (hHeld.1))).trans (hHeld.1)
                                have HS1_ := (hb.cell (World.block_lt_of_cell? _ _ (hHeld.2.1))).trans (hHeld.2.1)
                                have HS2_ := (hb.cell (World.block_lt_of_cell? _ _ (hHeld.2.2.1))).trans (hHeld.2.2.1)
                                have HS3_ := (hb.cell (World.block_lt_of_cell? _ _ (hHeld.2.2.2.1))).trans (hHeld.2.2.2.1)
                                have HS4_ := (hb.cell (World.block_lt_of_cell? _ _ (hHeld.2.2.2.2.1))).trans (hHeld.2.2.2.2.1)
                                have HS5_ := (hb.cell (World.block_lt_of_cell? _ _ (hHeld.2.2.2.2.2.1))).trans (hHeld.2.2.2.2.2.1)
                                have HS6_ := (hb.cell (World.block_lt_of_cell? _ _ (hHeld.2.2.2.2.2.2.1))).trans (hHeld.2.2.2.2.2.2.1)
                                have HS7_ := (hb.cell (World.block_lt_of_cell? _ _ (hHeld.2.2.2.2.2.2.2.1))).trans (hHeld.2.2.2.2.2.2.2.1)
                                have HS8_ := (hb.cell (World.block_lt_of_cell? _ _ (hHeld.2.2.2.2.2.2.2.2.1))).trans (hHeld.2.2.2.2.2.2.2.2.1)
                                have HS9_ := (hb.cell (World.block_lt_of_cell? _ _ (hHeld.2.2.2.2.2.2.2.2.2.1))).trans (hHeld.2.2.2.2.2.2.2.2.2.1)
                                have HS10_ := (hb.cell (World.block_lt_of_cell? _ _ (hHeld.2.2.2.2.2.2.2.2.2.2.1))).trans (hHeld.2.2.2.2.2.2.2.2.2.2.1)
                                have HS11_ := (hb.cell (World.block_lt_of_cell? _ _ (hHeld.2.2.2.2.2.2.2.2.2.2.2.1))).trans (hHeld.2.2.2.2.2.2.2.2.2.2.2.1)
                                have HS12_ := (hb.cell (World.block_lt_of_cell? _ _ (hHeld.2.2.2.2.2.2.2.2.2.2.2.2.1))).trans (hHeld.2.2.2.2.2.2.2.2.2.2.2.2.1)
                                have HS13_ := (hb.cell (World.block_lt_of_cell? _ _ (hHeld.2.2.2.2.2.2.2.2.2.2.2.2.2.1))).trans (hHeld.2.2.2.2.2.2.2.2.2.2.2.2.2.1)
                                have HS14_ := (hb.cell (World.block_lt_of_cell? _ _ (hHeld.2.2.2.2.2.2.2.2.2.2.2.2.2.2.1))).trans (hHeld.2.2.2.2.2.2.2.2.2.2.2.2.2.2.1)
                                have HS15_ := (hb.cell (World.block_lt_of_cell? _ _ (hHeld.2.2.2.2.2.2.2.2.2.2.2.2.2.2.2))).trans (hHeld.2.2.2.2.2.2.2.2.2.2.2.2.2.2.2)
                                clear hg_ hnew_
                                (first | rw [← Ny233.out] at ho54 | (simp only [Int.reduceToNat] at ho54; rw [← Ny233.out] at ho54))
                                have n0_ := Aside0.mk (Kd.N_elder' (by (with_reducible repeat (first | apply Kd.N_alloc | apply Kd.N_drewN | apply Kd.N_drew)); exact HO187.out) (by first | exact Kd.N_base ho54 | exact Kd.R_base ho54) hb)
                                have n1_ := Aside0.mk (Kd.R_below (by (with_reducible repeat (first | apply Kd.R_alloc | apply Kd.R_drewN | apply Kd.R_drew)); exact HO192.out) hb)
                                have n2_ := Aside0.mk (Kd.V_elder' (by (with_reducible repeat (first | apply Kd.V_alloc | apply Kd.V_drewN | apply Kd.V_drew)); exact HO198.out) (by first | exact Kd.N_base ho54 | exact Kd.R_base ho54) hb)
                                have n3_ := Aside0.mk (Kd.V_elder' (by (with_reducible repeat (first | apply Kd.V_alloc | apply Kd.V_drewN | apply Kd.V_drew)); exact HO203.out) (by first | exact Kd.N_base ho54 | exact Kd.R_base ho54) hb)
                                have n4_ := Aside0.mk (Kd.N_elder' (by (with_reducible repeat (first | apply Kd.N_alloc | apply Kd.N_drewN | apply Kd.N_drew)); exact HO206.out) (by first | exact Kd.N_base ho54 | exact Kd.R_base ho54) hb)
                                have n5_ := Aside0.mk (Kd.N_elder' (by (with_reducible repeat (first | apply Kd.N_alloc | apply Kd.N_drewN | apply Kd.N_drew)); exact HO209.out) (by first | exact Kd.N_base ho54 | exact Kd.R_base ho54) hb)
                                have n6_ := Aside0.mk (Kd.R_below (by (with_reducible repeat (first | apply Kd.R_alloc | apply Kd.R_drewN | apply Kd.R_drew)); exact HO214.out) hb)
                                have n7_ := Aside0.mk (Kd.N_elder' (by (with_reducible repeat (first | apply Kd.N_alloc | apply Kd.N_drewN | apply Kd.N_drew)); exact HO217.out) (by first | exact Kd.N_base ho54 | exact Kd.R_base ho54) hb)
                                have n8_ := Aside0.mk (Kd.V_elder' (by (with_reducible repeat (first | apply Kd.V_alloc | apply Kd.V_drewN | apply Kd.V_drew)); exact HL218_4.out) (by first | exact Kd.N_base ho54 | exact Kd.R_base ho54) hb)
                                have n9_ := Aside0.mk (Kd.V_elder' (by (with_reducible repeat (first | apply Kd.V_alloc | apply Kd.V_drewN | apply Kd.V_drew)); exact HL218_6.out) (by first | exact Kd.N_base ho54 | exact Kd.R_base ho54) hb)
                                have n10_ := Aside0.mk (Kd.V_elder' (by (with_reducible repeat (first | apply Kd.V_alloc | apply Kd.V_drewN | apply Kd.V_drew)); exact HL219_4.out) (by first | exact Kd.N_base ho54 | exact Kd.R_base ho54) hb)
                                have n11_ := Aside0.mk (Kd.V_elder' (by (with_reducible repeat (first | apply Kd.V_alloc | apply Kd.V_drewN | apply Kd.V_drew)); exact HL219_6.out) (by first | exact Kd.N_base ho54 | exact Kd.R_base ho54) hb)
                                have n12_ := Aside0.mk (Kd.V_elder' (by (with_reducible repeat (first | apply Kd.V_alloc | apply Kd.V_drewN | apply Kd.V_drew)); exact HL221_4.out) (by first | exact Kd.N_base ho54 | exact Kd.R_base ho54) hb)
                                have n13_ := Aside0.mk (Kd.V_elder' (by (with_reducible repeat (first | apply Kd.V_alloc | apply Kd.V_drewN | apply Kd.V_drew)); exact HL221_6.out) (by first | exact Kd.N_base ho54 | exact Kd.R_base ho54) hb)
                                have n14_ := Aside0.mk (Kd.V_elder' (by (with_reducible repeat (first | apply Kd.V_alloc | apply Kd.V_drewN | apply Kd.V_drew)); exact HO226.out) (by first | exact Kd.N_base ho54 | exact Kd.R_base ho54) hb)
                                have n15_ := Aside0.mk (Kd.V_elder' (by (with_reducible repeat (first | apply Kd.V_alloc | apply Kd.V_drewN | apply Kd.V_drew)); exact HL227_4.out) (by first | exact Kd.N_base ho54 | exact Kd.R_base ho54) hb)
                                have n16_ := Aside0.mk (Kd.V_elder' (by (with_reducible repeat (first | apply Kd.V_alloc | apply Kd.V_drewN | apply Kd.V_drew)); exact HL227_6.out) (by first | exact Kd.N_base ho54 | exact Kd.R_base ho54) hb)
                                have n17_ := Aside0.mk (Kd.V_elder' (by (with_reducible repeat (first | apply Kd.V_alloc | apply Kd.V_drewN | apply Kd.V_drew)); exact HO232.out) (by first | exact Kd.N_base ho54 | exact Kd.R_base ho54) hb)
                                have n18_ := Aside0.mk (Kd.N_lower ho54 (below_size (by repeat (first | (with_reducible first | exact HB.out | apply below_alloc | apply pw_below_drewN | apply below_drew1) | exact HB.out))))
                                have n19_ := Aside0.mk (Kd.C_below (by repeat (first | (with_reducible exact HR218_4.out) | (with_reducible refine Kd.C_alloc ?_ _) | (with_reducible refine Kd.C_drewN ?_ _) | (with_reducible refine Kd.C_drew ?_) | exact HR218_4.out)) hb)
                                have n20_ := Aside0.mk (Kd.C_below (by repeat (first | (with_reducible exact HR218_6.out) | (with_reducible refine Kd.C_alloc ?_ _) | (with_reducible refine Kd.C_drewN ?_ _) | (with_reducible refine Kd.C_drew ?_) | exact HR218_6.out)) hb)
                                have n21_ := Aside0.mk (Kd.C_below (by repeat (first | (with_reducible exact HR219_4.out) | (with_reducible refine Kd.C_alloc ?_ _) | (with_reducible refine Kd.C_drewN ?_ _) | (with_reducible refine Kd.C_drew ?_) | exact HR219_4.out)) hb)
                                have n22_ := Aside0.mk (Kd.C_below (by repeat (first | (with_reducible exact HR219_6.out) | (with_reducible refine Kd.C_alloc ?_ _) | (with_reducible refine Kd.C_drewN ?_ _) | (with_reducible refine Kd.C_drew ?_) | exact HR219_6.out)) hb)
                                have n23_ := Aside0.mk (Kd.C_below (by repeat (first | (with_reducible exact HR221_4.out) | (with_reducible refine Kd.C_alloc ?_ _) | (with_reducible refine Kd.C_drewN ?_ _) | (with_reducible refine Kd.C_drew ?_) | exact HR221_4.out)) hb)
                                have n24_ := Aside0.mk (Kd.C_below (by repeat (first | (with_reducible exact HR221_6.out) | (with_reducible refine Kd.C_alloc ?_ _) | (with_reducible refine Kd.C_drewN ?_ _) | (with_reducible refine Kd.C_drew ?_) | exact HR221_6.out)) hb)
                                have n25_ := Aside0.mk (Kd.C_below (by repeat (first | (with_reducible exact HR227_4.out) | (with_reducible refine Kd.C_alloc ?_ _) | (with_reducible refine Kd.C_drewN ?_ _) | (with_reducible refine Kd.C_drew ?_) | exact HR227_4.out)) hb)
                                have n26_ := Aside0.mk (Kd.C_below (by repeat (first | (with_reducible exact HR227_6.out) | (with_reducible refine Kd.C_alloc ?_ _) | (with_reducible refine Kd.C_drewN ?_ _) | (with_reducible refine Kd.C_drew ?_) | exact HR227_6.out)) hb)
                                have n27_ := Aside0.mk (below_step (by repeat (first | (with_reducible first | exact HB.out | apply below_alloc | apply pw_below_drewN | apply below_drew1) | exact HB.out)) hb)
                                clear HO187
                                clear HO192
                                clear HO198
                                clear HO203
                                clear HO206
                                clear HO209
                                clear HO214
                                clear HO217
                                clear HL218_4
                                clear HL218_6
                                clear HL219_4
                                clear HL219_6
                                clear HL221_4
                                clear HL221_6
                                clear HO226
                                clear HL227_4
                                clear HL227_6
                                clear HO232
                                clear HR218_4
                                clear HR218_6
                                clear HR219_4
                                clear HR219_6
                                clear HR221_4
                                clear HR221_6
                                clear HR227_4
                                clear HR227_6
                                clear HB
                                have HO187 := n0_
                                have HO192 := n1_
                                have HO198 := n2_
                                have HO203 := n3_
                                have HO206 := n4_
                                have HO209 := n5_
                                have HO214 := n6_
                                have HO217 := n7_
                                have HL218_4 := n8_
                                have HL218_6 := n9_
                                have HL219_4 := n10_
                                have HL219_6 := n11_
                                have HL221_4 := n12_
                                have HL221_6 := n13_
                                have HO226 := n14_
                                have HL227_4 := n15_
                                have HL227_6 := n16_
                                have HO232 := n17_
                                have HO235 := n18_
                                have HR218_4 := n19_
                                have HR218_6 := n20_
                                have HR219_4 := n21_
                                have HR219_6 := n22_
                                have HR221_4 := n23_
                                have HR221_6 := n24_
                                have HR227_4 := n25_
                                have HR227_6 := n26_
                                have HB := n27_
                                clear n0_ n1_ n2_ n3_ n4_ n5_ n6_ n7_ n8_ n9_ n10_ n11_ n12_ n13_ n14_ n15_ n16_ n17_ n18_ n19_ n20_ n21_ n22_ n23_ n24_ n25_ n26_ n27_
                                clear hb ho54
                                obtain ⟨Ao55, co55, eo55⟩ := Kd.N_slice HO235.out
                                (first | subst eo55 | (injection eo55 with f1_ f2_ f3_; have f4_ := f1_.symm; have f5_ := f3_.symm; clear f1_ f2_ f3_; subst f4_; subst f5_))
                                refine hK.out _ _ ⟨HS0_, HS1_, HS2_, HS3_, HS4_, HS5_, HS6_, HS7_, HS8_, HS9_, HS10_, HS11_, HS12_, HS13_, HS14_, HS15_⟩ (fun hHeld => ?_)
                                clear hK K
                                refine norm_ (a' := ?_) ?_ ?_
                                rotate_left
                                · show Act.put _ (some 92) _ = _
                                  simp only [Act.put, List.setIfInBounds_toArray, List.set_cons_zero, List.set_cons_succ, i64_w, i32_w]
                                  rfl
                                refine one_ (i := 18) (N := some 93) #[true, true, true, true, true, true, true, true, true, true, true, true, true, true, true, true, true, true, true, false, false, false] rfl rfl (one_of HT_.out (by kernel_rfl)) (by decide) (fun K hK => ?_)
                                refine goes_ Try.func21 (by kernel_rfl) rfl #[.slice Ao55 y233.length co55] (by rfl) rfl rfl (by (try simp only [List.map_toArray, List.map_cons, List.map_nil]); first | done | rfl | (simp only [List.length_drop, List.length_take]; rfl)) ?_
                                with_reducible refine (api_Box_21.calls k _ _ y233 t236 _ ?side1 ?side2 A48.out).mono ?_
                                (case side1 => repeat (first | exact (Kd.N_reads' HO235.out).2.2 | (with_reducible refine Kd.C_alloc ?_ _) | (with_reducible refine Kd.C_drewN ?_ _) | (with_reducible refine Kd.C_drew ?_)))
                                (case side2 => exact (Kd.N_reads' HO235.out).2.1)
                                rintro e w56 ⟨v237, rfl, ho0, hb⟩
                                have HS0_ := (hb.cell (World.block_lt_of_cell? _ _ (hHeld.1))).trans (hHeld.1)
                                have HS1_ := (hb.cell (World.block_lt_of_cell? _ _ (hHeld.2.1))).trans (hHeld.2.1)
                                have HS2_ := (hb.cell (World.block_lt_of_cell? _ _ (hHeld.2.2.1))).trans (hHeld.2.2.1)
                                have HS3_ := (hb.cell (World.block_lt_of_cell? _ _ (hHeld.2.2.2.1))).trans (hHeld.2.2.2.1)
                                have HS4_ := (hb.cell (World.block_lt_of_cell? _ _ (hHeld.2.2.2.2.1))).trans (hHeld.2.2.2.2.1)
                                have HS5_ := (hb.cell (World.block_lt_of_cell? _ _ (hHeld.2.2.2.2.2.1))).trans (hHeld.2.2.2.2.2.1)
                                have HS6_ := (hb.cell (World.block_lt_of_cell? _ _ (hHeld.2.2.2.2.2.2.1))).trans (hHeld.2.2.2.2.2.2.1)
                                have HS7_ := (hb.cell (World.block_lt_of_cell? _ _ (hHeld.2.2.2.2.2.2.2.1))).trans (hHeld.2.2.2.2.2.2.2.1)
                                have HS8_ := (hb.cell (World.block_lt_of_cell? _ _ (hHeld.2.2.2.2.2.2.2.2.1))).trans (hHeld.2.2.2.2.2.2.2.2.1)
                                have HS9_ := (hb.cell (World.block_lt_of_cell? _ _ (hHeld.2.2.2.2.2.2.2.2.2.1))).trans (hHeld.2.2.2.2.2.2.2.2.2.1)
                                have HS10_ := (hb.cell (World.block_lt_of_cell? _ _ (hHeld.2.2.2.2.2.2.2.2.2.2.1))).trans (hHeld.2.2.2.2.2.2.2.2.2.2.1)
                                have HS11_ := (hb.cell (World.block_lt_of_cell? _ _ (hHeld.2.2.2.2.2.2.2.2.2.2.2.1))).trans (hHeld.2.2.2.2.2.2.2.2.2.2.2.1)
                                have HS12_ := (hb.cell (World.block_lt_of_cell? _ _ (hHeld.2.2.2.2.2.2.2.2.2.2.2.2.1))).trans (hHeld.2.2.2.2.2.2.2.2.2.2.2.2.1)
                                have HS13_ := (hb.cell (World.block_lt_of_cell? _ _ (hHeld.2.2.2.2.2.2.2.2.2.2.2.2.2.1))).trans (hHeld.2.2.2.2.2.2.2.2.2.2.2.2.2.1)
                                have HS14_ := (hb.cell (World.block_lt_of_cell? _ _ (hHeld.2.2.2.2.2.2.2.2.2.2.2.2.2.2.1))).trans (hHeld.2.2.2.2.2.2.2.2.2.2.2.2.2.2.1)
                                have HS15_ := (hb.cell (World.block_lt_of_cell? _ _ (hHeld.2.2.2.2.2.2.2.2.2.2.2.2.2.2.2))).trans (hHeld.2.2.2.2.2.2.2.2.2.2.2.2.2.2.2)
                                refine ⟨_, rfl, ?_⟩
                                have n0_ := Aside0.mk (Kd.N_elder' (by (with_reducible repeat (first | apply Kd.N_alloc | apply Kd.N_drewN | apply Kd.N_drew)); exact HO187.out) (Kd.R_base ho0) hb)
                                have n1_ := Aside0.mk (Kd.R_below (by (with_reducible repeat (first | apply Kd.R_alloc | apply Kd.R_drewN | apply Kd.R_drew)); exact HO192.out) hb)
                                have n2_ := Aside0.mk (Kd.V_elder' (by (with_reducible repeat (first | apply Kd.V_alloc | apply Kd.V_drewN | apply Kd.V_drew)); exact HO198.out) (Kd.R_base ho0) hb)
                                have n3_ := Aside0.mk (Kd.V_elder' (by (with_reducible repeat (first | apply Kd.V_alloc | apply Kd.V_drewN | apply Kd.V_drew)); exact HO203.out) (Kd.R_base ho0) hb)
                                have n4_ := Aside0.mk (Kd.N_elder' (by (with_reducible repeat (first | apply Kd.N_alloc | apply Kd.N_drewN | apply Kd.N_drew)); exact HO206.out) (Kd.R_base ho0) hb)
                                have n5_ := Aside0.mk (Kd.N_elder' (by (with_reducible repeat (first | apply Kd.N_alloc | apply Kd.N_drewN | apply Kd.N_drew)); exact HO209.out) (Kd.R_base ho0) hb)
                                have n6_ := Aside0.mk (Kd.R_below (by (with_reducible repeat (first | apply Kd.R_alloc | apply Kd.R_drewN | apply Kd.R_drew)); exact HO214.out) hb)
                                have n7_ := Aside0.mk (Kd.N_elder' (by (with_reducible repeat (first | apply Kd.N_alloc | apply Kd.N_drewN | apply Kd.N_drew)); exact HO217.out) (Kd.R_base ho0) hb)
                                have n8_ := Aside0.mk (Kd.V_elder' (by (with_reducible repeat (first | apply Kd.V_alloc | apply Kd.V_drewN | apply Kd.V_drew)); exact HL218_4.out) (Kd.R_base ho0) hb)
                                have n9_ := Aside0.mk (Kd.V_elder' (by (with_reducible repeat (first | apply Kd.V_alloc | apply Kd.V_drewN | apply Kd.V_drew)); exact HL218_6.out) (Kd.R_base ho0) hb)
                                have n10_ := Aside0.mk (Kd.V_elder' (by (with_reducible repeat (first | apply Kd.V_alloc | apply Kd.V_drewN | apply Kd.V_drew)); exact HL219_4.out) (Kd.R_base ho0) hb)
                                have n11_ := Aside0.mk (Kd.V_elder' (by (with_reducible repeat (first | apply Kd.V_alloc | apply Kd.V_drewN | apply Kd.V_drew)); exact HL219_6.out) (Kd.R_base ho0) hb)
                                have n12_ := Aside0.mk (Kd.V_elder' (by (with_reducible repeat (first | apply Kd.V_alloc | apply Kd.V_drewN | apply Kd.V_drew)); exact HL221_4.out) (Kd.R_base ho0) hb)
                                have n13_ := Aside0.mk (Kd.V_elder' (by (with_reducible repeat (first | apply Kd.V_alloc | apply Kd.V_drewN | apply Kd.V_drew)); exact HL221_6.out) (Kd.R_base ho0) hb)
                                have n14_ := Aside0.mk (Kd.V_elder' (by (with_reducible repeat (first | apply Kd.V_alloc | apply Kd.V_drewN | apply Kd.V_drew)); exact HO226.out) (Kd.R_base ho0) hb)
                                have n15_ := Aside0.mk (Kd.V_elder' (by (with_reducible repeat (first | apply Kd.V_alloc | apply Kd.V_drewN | apply Kd.V_drew)); exact HL227_4.out) (Kd.R_base ho0) hb)
                                have n16_ := Aside0.mk (Kd.V_elder' (by (with_reducible repeat (first | apply Kd.V_alloc | apply Kd.V_drewN | apply Kd.V_drew)); exact HL227_6.out) (Kd.R_base ho0) hb)
                                have n17_ := Aside0.mk (Kd.V_elder' (by (with_reducible repeat (first | apply Kd.V_alloc | apply Kd.V_drewN | apply Kd.V_drew)); exact HO232.out) (Kd.R_base ho0) hb)
                                have n18_ := Aside0.mk (Kd.N_elder' (by (with_reducible repeat (first | apply Kd.N_alloc | apply Kd.N_drewN | apply Kd.N_drew)); exact HO235.out) (Kd.R_base ho0) hb)
                                have n19_ := Aside0.mk (Kd.R_lower ho0 (below_size (by repeat (first | (with_reducible first | exact HB.out | apply below_alloc | apply pw_below_drewN | apply below_drew1) | exact HB.out))))
                                have n20_ := Aside0.mk (Kd.C_below (by repeat (first | (with_reducible exact HR218_4.out) | (with_reducible refine Kd.C_alloc ?_ _) | (with_reducible refine Kd.C_drewN ?_ _) | (with_reducible refine Kd.C_drew ?_) | exact HR218_4.out)) hb)
                                have n21_ := Aside0.mk (Kd.C_below (by repeat (first | (with_reducible exact HR218_6.out) | (with_reducible refine Kd.C_alloc ?_ _) | (with_reducible refine Kd.C_drewN ?_ _) | (with_reducible refine Kd.C_drew ?_) | exact HR218_6.out)) hb)
                                have n22_ := Aside0.mk (Kd.C_below (by repeat (first | (with_reducible exact HR219_4.out) | (with_reducible refine Kd.C_alloc ?_ _) | (with_reducible refine Kd.C_drewN ?_ _) | (with_reducible refine Kd.C_drew ?_) | exact HR219_4.out)) hb)
                                have n23_ := Aside0.mk (Kd.C_below (by repeat (first | (with_reducible exact HR219_6.out) | (with_reducible refine Kd.C_alloc ?_ _) | (with_reducible refine Kd.C_drewN ?_ _) | (with_reducible refine Kd.C_drew ?_) | exact HR219_6.out)) hb)
                                have n24_ := Aside0.mk (Kd.C_below (by repeat (first | (with_reducible exact HR221_4.out) | (with_reducible refine Kd.C_alloc ?_ _) | (with_reducible refine Kd.C_drewN ?_ _) | (with_reducible refine Kd.C_drew ?_) | exact HR221_4.out)) hb)
                                have n25_ := Aside0.mk (Kd.C_below (by repeat (first | (with_reducible exact HR221_6.out) | (with_reducible refine Kd.C_alloc ?_ _) | (with_reducible refine Kd.C_drewN ?_ _) | (with_reducible refine Kd.C_drew ?_) | exact HR221_6.out)) hb)
                                have n26_ := Aside0.mk (Kd.C_below (by repeat (first | (with_reducible exact HR227_4.out) | (with_reducible refine Kd.C_alloc ?_ _) | (with_reducible refine Kd.C_drewN ?_ _) | (with_reducible refine Kd.C_drew ?_) | exact HR227_4.out)) hb)
                                have n27_ := Aside0.mk (Kd.C_below (by repeat (first | (with_reducible exact HR227_6.out) | (with_reducible refine Kd.C_alloc ?_ _) | (with_reducible refine Kd.C_drewN ?_ _) | (with_reducible refine Kd.C_drew ?_) | exact HR227_6.out)) hb)
                                have n28_ := Aside0.mk (below_step (by repeat (first | (with_reducible first | exact HB.out | apply below_alloc | apply pw_below_drewN | apply below_drew1) | exact HB.out)) hb)
                                clear HO187
                                clear HO192
                                clear HO198
                                clear HO203
                                clear HO206
                                clear HO209
                                clear HO214
                                clear HO217
                                clear HL218_4
                                clear HL218_6
                                clear HL219_4
                                clear HL219_6
                                clear HL221_4
                                clear HL221_6
                                clear HO226
                                clear HL227_4
                                clear HL227_6
                                clear HO232
                                clear HO235
                                clear HR218_4
                                clear HR218_6
                                clear HR219_4
                                clear HR219_6
                                clear HR221_4
                                clear HR221_6
                                clear HR227_4
                                clear HR227_6
                                clear HB
                                have HO187 := n0_
                                have HO192 := n1_
                                have HO198 := n2_
                                have HO203 := n3_
                                have HO206 := n4_
                                have HO209 := n5_
                                have HO214 := n6_
                                have HO217 := n7_
                                have HL218_4 := n8_
                                have HL218_6 := n9_
                                have HL219_4 := n10_
                                have HL219_6 := n11_
                                have HL221_4 := n12_
                                have HL221_6 := n13_
                                have HO226 := n14_
                                have HL227_4 := n15_
                                have HL227_6 := n16_
                                have HO232 := n17_
                                have HO235 := n18_
                                have HO238 := n19_
                                have HR218_4 := n20_
                                have HR218_6 := n21_
                                have HR219_4 := n22_
                                have HR219_6 := n23_
                                have HR221_4 := n24_
                                have HR221_6 := n25_
                                have HR227_4 := n26_
                                have HR227_6 := n27_
                                have HB := n28_
                                clear n0_ n1_ n2_ n3_ n4_ n5_ n6_ n7_ n8_ n9_ n10_ n11_ n12_ n13_ n14_ n15_ n16_ n17_ n18_ n19_ n20_ n21_ n22_ n23_ n24_ n25_ n26_ n27_ n28_
                                (try clear hb)
                                (try clear hb2)
                                (try clear hk)
                                (try clear hi)
                                (try clear ho0)
                                have p49 : 0 ≤ (t193 : Int) := of_decide_eq_true (by first | (with_reducible assumption) | assumption)
                                have q49 : (t193 : Int) < ((t215.length : Int) : Int) := of_decide_eq_true (by first | (with_reducible assumption) | assumption)
                                obtain ⟨go49, co49, eo49, gb49, gl49, cl49, HG49⟩ := Kd.N_form HO217.out (by omega)
                                (first | cases eo49 | (injection eo49 with ea_ en_ ec_; (first | subst ea_ | (injection ea_ with ea_; subst ea_)); subst ec_; clear en_))
                                have GB49 := Aside0.mk gb49
                                have GG49 := Aside0.mk HG49
                                clear gb49 gl49 HG49
                                (first | simp only [add_plain] at hx218_0 | skip)
                                (first | simp only [add_plain] at hx218_1 | skip)
                                (first | simp only [add_plain] at hx218_2 | skip)
                                (first | simp only [add_plain] at hx218_3 | skip)
                                (first | simp only [add_plain] at hx218_4 | skip)
                                (first | simp only [add_plain] at hx218_5 | skip)
                                (first | simp only [add_plain] at hx218_6 | skip)
                                (first | simp only [add_plain] at hx218_7 | skip)
                                (first | simp only [add_plain] at hx219_0 | skip)
                                (first | simp only [add_plain] at hx219_1 | skip)
                                (first | simp only [add_plain] at hx219_2 | skip)
                                (first | simp only [add_plain] at hx219_3 | skip)
                                (first | simp only [add_plain] at hx219_4 | skip)
                                (first | simp only [add_plain] at hx219_5 | skip)
                                (first | simp only [add_plain] at hx219_6 | skip)
                                (first | simp only [add_plain] at hx219_7 | skip)
                                obtain ⟨ce49, hcl49, hM49, hcc49, hfr49⟩ := Kd.N_elem HO217.out z36 (t193 : Int) p49 q49
                                obtain ⟨ua49_4, uc49_4, ua49_6, uc49_6, rfl, ul49_4, ge49_4, ul49_6, ge49_6⟩ := k36_openF hM49
                                have hx49_0 : World.cell? _ ⟨go49, (t193 : Int).toNat * 8, none⟩ = some (.int .i64 ((rd_T36 t215 t193).f0.f0)) := hcc49 0 _ rfl
                                have hx49_1 : World.cell? _ ⟨go49, (t193 : Int).toNat * 8 + 1, none⟩ = some (.int .i64 ((rd_T36 t215 t193).f0.f1)) := hcc49 1 _ rfl
                                have hx49_2 : World.cell? _ ⟨go49, (t193 : Int).toNat * 8 + 2, none⟩ = some (.int .i64 ((rd_T36 t215 t193).f0.f2)) := hcc49 2 _ rfl
                                have hx49_3 : World.cell? _ ⟨go49, (t193 : Int).toNat * 8 + 3, none⟩ = some (.int .i64 ((rd_T36 t215 t193).f0.f3)) := hcc49 3 _ rfl
                                have hx49_4 : World.cell? _ ⟨go49, (t193 : Int).toNat * 8 + 4, none⟩ = some (.slice ua49_4 ((rd_T36 t215 t193).f0.f4).length uc49_4) := hcc49 4 _ rfl
                                have hx49_5 : World.cell? _ ⟨go49, (t193 : Int).toNat * 8 + 5, none⟩ = some (.string ((rd_T36 t215 t193).f0.f5)) := hcc49 5 _ rfl
                                have hx49_6 : World.cell? _ ⟨go49, (t193 : Int).toNat * 8 + 6, none⟩ = some (.slice ua49_6 ((rd_T36 t215 t193).f1).length uc49_6) := hcc49 6 _ rfl
                                have hx49_7 : World.cell? _ ⟨go49, (t193 : Int).toNat * 8 + 7, none⟩ = some (.int .i64 ((rd_T36 t215 t193).f2)) := hcc49 7 _ rfl
                                have hf49_0 : World.frozen? _ ⟨go49, (t193 : Int).toNat * 8, none⟩ = false := hfr49 0
                                have hf49_1 : World.frozen? _ ⟨go49, (t193 : Int).toNat * 8 + 1, none⟩ = false := hfr49 1
                                have hf49_2 : World.frozen? _ ⟨go49, (t193 : Int).toNat * 8 + 2, none⟩ = false := hfr49 2
                                have hf49_3 : World.frozen? _ ⟨go49, (t193 : Int).toNat * 8 + 3, none⟩ = false := hfr49 3
                                have hf49_4 : World.frozen? _ ⟨go49, (t193 : Int).toNat * 8 + 4, none⟩ = false := hfr49 4
                                have hf49_5 : World.frozen? _ ⟨go49, (t193 : Int).toNat * 8 + 5, none⟩ = false := hfr49 5
                                have hf49_6 : World.frozen? _ ⟨go49, (t193 : Int).toNat * 8 + 6, none⟩ = false := hfr49 6
                                have hf49_7 : World.frozen? _ ⟨go49, (t193 : Int).toNat * 8 + 7, none⟩ = false := hfr49 7
                                clear hcl49 hcc49 hfr49 hM49
                                replace p49 := eq_true p49
                                replace q49 := eq_true q49
                                have HX57 := Aside0.mk (show Kd.N k36 36 _ w.heap.size (fun k_ => some k_ ≠ (v191 : Value).ownBlock ∧ some k_ ≠ (.slice Ao34 y204.length co34 : Value).ownBlock ∧ some k_ ≠ (.slice Ao36 t207.length co36 : Value).ownBlock ∧ some k_ ≠ (v213 : Value).ownBlock ∧ some k_ ≠ (.slice Ao55 y233.length co55 : Value).ownBlock ∧ some k_ ≠ (v237 : Value).ownBlock) (.slice (some ⟨go49, 0, none⟩) t215.length co39) t215 from (Kd.N_mono (HO217.out) (fun k_ hk => by first | exact ⟨hk.1.1.1, ⟨hk.1.1.2.1, ⟨hk.1.1.2.2.1, ⟨hk.1.1.2.2.2, ⟨hk.1.2, hk.2⟩⟩⟩⟩⟩ | exact ⟨hk.1.1.1, ⟨hk.1.1.2.1, ⟨hk.1.1.2.2.1, ⟨hk.1.1.2.2.2, ⟨hk.1.2, hk.2⟩⟩⟩⟩⟩ | (simp only [true_and, and_assoc, ne_eq] at hk ⊢; simp only [hk, not_false_eq_true, and_self]))))
                                replace HX57 := Aside0.mk (show Kd.N k36 36 _ w.heap.size (fun k_ => some k_ ≠ (v191 : Value).ownBlock ∧ some k_ ≠ (.slice Ao34 y204.length co34 : Value).ownBlock ∧ some k_ ≠ (.slice Ao36 t207.length co36 : Value).ownBlock ∧ some k_ ≠ (v213 : Value).ownBlock ∧ some k_ ≠ (.slice Ao55 y233.length co55 : Value).ownBlock) (.slice (some ⟨go49, 0, none⟩) t215.length co39) t215 from Kd.N_mono HX57.out (fun k_ hk => ⟨hk.1, ⟨hk.2.1, ⟨hk.2.2.1, ⟨hk.2.2.2.1, hk.2.2.2.2.1⟩⟩⟩⟩))
                                obtain ⟨ce57, hcl57, hM57, hcc57, hfr57⟩ := Kd.N_elem HX57.out z36 (t193 : Int) (of_decide_eq_true (by first | (with_reducible assumption) | assumption)) (by have h_ : (t193 : Int) < ((t215.length : Int) : Int) := of_decide_eq_true (by first | (with_reducible assumption) | assumption); first | exact h_ | (have e_ := (Kd.N_reads' HO217.out).1; omega) | simpa using h_)
                                obtain ⟨ua57_4, uc57_4, ua57_6, uc57_6, rfl, ul57_4, ge57_4, ul57_6, ge57_6⟩ := k36_openF hM57
                                obtain ⟨Az57, cz57, ez57⟩ := Kd.R_slice HO238.out
                                subst ez57
                                have hz57 := Kd.R_mono (ok' := (fun k_ => ((fun k_ => some k_ ≠ (v191 : Value).ownBlock ∧ some k_ ≠ (.slice Ao34 y204.length co34 : Value).ownBlock ∧ some k_ ≠ (.slice Ao36 t207.length co36 : Value).ownBlock ∧ some k_ ≠ (v213 : Value).ownBlock ∧ some k_ ≠ (.slice Ao55 y233.length co55 : Value).ownBlock)) k_ ∧ k_ ≠ go49)) (Kd.R_apart' (Kd.R_apart' (Kd.R_apart' (Kd.R_apart' (Kd.R_apart' (Kd.R_apart' (HO238.out) (Kd.R_typed HO192.out) (by decide)) (Kd.N_typed HO206.out) (by decide)) (Kd.N_typed HO209.out) (by decide)) (Kd.R_typed HO214.out) (by decide)) (Kd.N_typed HO235.out) (by decide)) (Kd.N_typed HO217.out) (by decide)) (fun k_ hk => ⟨⟨hk.1.1.1.1.1.2, ⟨hk.1.1.1.1.2, ⟨hk.1.1.1.2, ⟨hk.1.1.2, hk.1.2⟩⟩⟩⟩, fun e_ => (hk.2) (by rw [e_]; rfl)⟩)
                                have HP57 := (Kd.N_seg HX57.out (t193 : Int) (of_decide_eq_true (by first | (with_reducible assumption) | assumption)) (by have h_ : (t193 : Int) < ((t215.length : Int) : Int) := of_decide_eq_true (by first | (with_reducible assumption) | assumption); first | exact h_ | (have e_ := (Kd.N_reads' HO217.out).1; omega) | simpa using h_) (seg := [(.slice Az57 t236.length cz57)]) (j := 6) hcl57 hcc57 (show 7 ≤ 8 from by decide) (x' := (⟨(⟨(rd_T36 t215 t193).f0.f0, (rd_T36 t215 t193).f0.f1, (rd_T36 t215 t193).f0.f2, (rd_T36 t215 t193).f0.f3, (rd_T36 t215 t193).f0.f4, (rd_T36 t215 t193).f0.f5⟩ : S33), t236, (rd_T36 t215 t193).f2⟩ : S36)) ((k36_mkF _ _ (⟨(⟨(rd_T36 t215 t193).f0.f0, (rd_T36 t215 t193).f0.f1, (rd_T36 t215 t193).f0.f2, (rd_T36 t215 t193).f0.f3, (rd_T36 t215 t193).f0.f4, (rd_T36 t215 t193).f0.f5⟩ : S33), t236, (rd_T36 t215 t193).f2⟩ : S36) ul57_4 ge57_4 (Kd.R_reads' hz57).2.1 (Kd.R_F hz57))) (fun _ hk => hk)).1
                                rw [← Ny239.out] at HP57
                                have HQ57 := Aside0.mk HP57
                                clear hcl57 hcc57 hfr57 hM57 HP57
                                refine hK.out _ _ ⟨HS0_, HS1_, HS2_, HS3_, HS4_, HS5_, HS6_, HS7_, HS8_, HS9_, HS10_, HS11_, HS12_, HS13_, HS14_, HS15_⟩ (fun hHeld => ?_)
                                clear hK K
                                refine norm_ (a' := ?_) ?_ ?_
                                rotate_left
                                · show Act.put _ (some 93) _ = _
                                  simp only [Act.put, List.setIfInBounds_toArray, List.set_cons_zero, List.set_cons_succ, i64_w, i32_w]
                                  rfl
                                refine pure_ (i := 19) (N := some 94) (v := ?_) (a' := ?_) #[true, true, true, true, true, true, true, true, true, true, true, true, true, true, true, true, true, true, true, true, false, false] rfl rfl (any_of HT_.out (by kernel_rfl)) (fun _ _ _ h => h) (Or.inl ⟨by rfl, ?_⟩) ?_ ?_
                                rotate_left
                                · intro w'
                                  go_simp
                                  with_reducible rfl
                                rotate_left
                                · simp only [Act.put, List.setIfInBounds_toArray, List.set_cons_zero, List.set_cons_succ, i64_w, i32_w]
                                  rfl
                                refine pure_ (i := 20) (N := some 95) (v := ?_) (a' := ?_) #[true, true, true, true, true, true, true, true, true, true, true, true, true, true, true, true, true, true, true, true, true, false] rfl rfl (any_of HT_.out (by kernel_rfl)) (fun _ _ _ h => h) (Or.inl ⟨by rfl, ?_⟩) ?_ ?_
                                rotate_left
                                · intro w'
                                  go_simp
                                  with_reducible rfl
                                rotate_left
                                · simp only [Act.put, List.setIfInBounds_toArray, List.set_cons_zero, List.set_cons_succ, i64_w, i32_w]
                                  rfl
                                refine last_ (i := 21) (N := none) #[true, true, true, true, true, true, true, true, true, true, true, true, true, true, true, true, true, true, true, true, true, true] rfl rfl (one_of HT_.out (by kernel_rfl)) (by decide) (fun K hK => ?_)
                                refine skip_ (w1 := ?_) (by rfl) rfl ?_ ?_
                                rotate_left
                                · go_simp
                                  rfl
                                refine hK.out _ _ ?_
                                clear hK K
                                refine done_ (done_of HT_.out (by kernel_rfl)) ?_
                                try go_wp2
                                go_meet
                                case rel => exact ⟨_, (y239), H', ⟨by first | exact Nat.le_refl _ | omega⟩, ⟨by (with_reducible repeat (first | apply Kd.N_alloc | apply Kd.N_drewN | apply Kd.N_drew)); exact Kd.N_mono (Kd.N_far (p := ⟨go49, (t193 : Int).toNat * 8 + 6, none⟩) (Kd.N_mono HO187.out (fun k_ hk => (⟨hk, fun e_ => hk.1.1.2.2.2.2 (by rw [e_]; rfl)⟩ : _ ∧ k_ ≠ go49))) (fun _ hk => by first | exact hk.2 | exact hk | (simp only [true_and, and_assoc, ne_eq] at hk ⊢; simp only [hk, not_false_eq_true, and_self])) (.slice Az57 t236.length cz57)) (fun _ hk => hk.1.1.1.2.2.2.2)⟩, ⟨by (with_reducible repeat (first | apply Kd.N_alloc | apply Kd.N_drewN | apply Kd.N_drew)); exact Kd.N_mono HQ57.out (fun _ hk => trivial)⟩, ⟨(Kd.V_reads' (by (with_reducible repeat (first | apply Kd.V_alloc | apply Kd.V_drewN | apply Kd.V_drew)); exact (Kd.V_mono (Kd.V_far (p := ⟨go49, (t193 : Int).toNat * 8 + 6, none⟩) (Kd.V_mono HL218_4.out (fun k_ hk => (⟨hk, fun e_ => hk.1.1.2.2.2.2 (by rw [e_]; rfl)⟩ : _ ∧ k_ ≠ go49))) (fun _ hk => by first | exact hk.2 | exact hk | (simp only [true_and, and_assoc, ne_eq] at hk ⊢; simp only [hk, not_false_eq_true, and_self])) (.slice Az57 t236.length cz57)) (fun _ h_ => h_.1)))).2.2⟩, ⟨(Kd.V_reads' (by (with_reducible repeat (first | apply Kd.V_alloc | apply Kd.V_drewN | apply Kd.V_drew)); exact (Kd.V_mono (Kd.V_far (p := ⟨go49, (t193 : Int).toNat * 8 + 6, none⟩) (Kd.V_mono HL218_6.out (fun k_ hk => (⟨hk, fun e_ => hk.1.1.2.2.2.2 (by rw [e_]; rfl)⟩ : _ ∧ k_ ≠ go49))) (fun _ hk => by first | exact hk.2 | exact hk | (simp only [true_and, and_assoc, ne_eq] at hk ⊢; simp only [hk, not_false_eq_true, and_self])) (.slice Az57 t236.length cz57)) (fun _ h_ => h_.1)))).2.2⟩, ⟨by repeat (first | (with_reducible first | exact HB.out | apply below_alloc | apply pw_below_drewN | apply below_drew1 | refine below_set ?_ GB49.out) | exact HB.out)⟩⟩
                              · rw [if_neg c47] at H
                                exact absurd H (by simp)
                            · rw [if_neg c46] at H
                              exact absurd H (by simp)
                          · rw [if_neg c44] at H
                            exact absurd H (by simp)
                        · rw [if_neg c43] at H
                          exact absurd H (by simp)
                      · rw [if_neg c42] at H
                        exact absurd H (by simp)
                    · rw [if_neg c40] at H
                      have c40b0 : decide (0 < (((rd_T36 t215 t193).f1).length : Int)) = false := decide_eq_false c40
                      have c40b1 : decide (0 < ((rd_T36 t215 t193).f1).length) = false := decide_eq_false (by omega)
                      clear c40
                      (first | rw [c40b0] | (simp only [i64_w, i32_w]; rw [c40b0]) | rw [c40b1] | skip)
                      have H' := Aside0.mk H
                      clear H
                      go_wp2
                      go_meet
                      case rel => exact ⟨_, (t215), H', ⟨by first | exact Nat.le_refl _ | omega⟩, ⟨by (with_reducible repeat (first | apply Kd.N_alloc | apply Kd.N_drewN | apply Kd.N_drew)); exact Kd.N_mono HO187.out (fun _ hk => by first | exact hk.2 | exact hk | (simp only [true_and, and_assoc, ne_eq] at hk ⊢; simp only [hk, not_false_eq_true, and_self]))⟩, ⟨by (with_reducible repeat (first | apply Kd.N_alloc | apply Kd.N_drewN | apply Kd.N_drew)); exact Kd.N_mono HO217.out (fun _ hk => trivial)⟩, ⟨by repeat (first | (with_reducible exact HR218_4.out) | (with_reducible refine Kd.C_alloc ?_ _) | (with_reducible refine Kd.C_drewN ?_ _) | (with_reducible refine Kd.C_drew ?_) | exact HR218_4.out)⟩, ⟨by repeat (first | (with_reducible exact HR218_6.out) | (with_reducible refine Kd.C_alloc ?_ _) | (with_reducible refine Kd.C_drewN ?_ _) | (with_reducible refine Kd.C_drew ?_) | exact HR218_6.out)⟩, ⟨by repeat (first | (with_reducible first | exact HB.out | apply below_alloc | apply pw_below_drewN | apply below_drew1) | exact HB.out)⟩⟩
                  case rest =>
                    clear HC24
                    try clear c1
                    try clear c2
                    try clear p2
                    try clear q2
                    try clear hx2
                    try clear c4
                    try clear p4
                    try clear q4
                    try clear hx4
                    try clear hf4
                    try clear c5
                    try clear p5
                    try clear q5
                    try clear c21
                    try clear hx21
                    try clear c22
                    try clear p22
                    try clear q22
                    try clear hx22
                    try clear c40
                    try clear c40b0
                    try clear c40b1
                    try clear c42
                    try clear c43
                    try clear c44
                    try clear c46
                    try clear c47
                    try clear c49
                    try clear p49
                    try clear q49
                    try clear hx49
                    try clear hf49
                    try clear q51
                    try clear c52
                    try clear q52
                    try clear c57
                    try clear hx218_0
                    try clear hx218_1
                    try clear hx218_2
                    try clear hx218_3
                    try clear hx218_4
                    try clear hx218_5
                    try clear hx218_6
                    try clear hx218_7
                    try clear hx219_0
                    try clear hx219_1
                    try clear hx219_2
                    try clear hx219_3
                    try clear hx219_4
                    try clear hx219_5
                    try clear hx219_6
                    try clear hx219_7
                    try clear hx221_0
                    try clear hx221_1
                    try clear hx221_2
                    try clear hx221_3
                    try clear hx221_4
                    try clear hx221_5
                    try clear hx221_6
                    try clear hx221_7
                    try clear hx227_0
                    try clear hx227_1
                    try clear hx227_2
                    try clear hx227_3
                    try clear hx227_4
                    try clear hx227_5
                    try clear hx227_6
                    try clear hx227_7
                    try clear hx49_0
                    try clear hx49_1
                    try clear hx49_2
                    try clear hx49_3
                    try clear hx49_4
                    try clear hx49_5
                    try clear hx49_6
                    try clear hx49_7
                    try clear p221
                    try clear p227
                    try clear p49
                    try clear q052
                    try clear q221
                    try clear q227
                    try clear q49
                    try clear q51
                    try clear q52
                    obtain ⟨kq, x15_23, HA, HJ23, HO_7, HO_15, HR218_4, HR218_6, HB⟩ := hcut
                    have hl15_23 := (Kd.N_reads' HO_15.out).1
                    rw [hl15_23] at HO_15
                    (try simp only [hl15_23])
                    (try simp only [hl15_23] at HO_7)
                    cases kq with
                    | zero => exact absurd HA.out (by simp [terrkeep5_PlaceFewer.j0])
                    | succ kj23 =>
                      have H := HA.out
                      clear HA
                      simp only [terrkeep5_PlaceFewer.j0] at H
                      replace H := Option.bind_eq_some_iff.mp H
                      obtain ⟨⟨t240, t241, t242⟩, A580, H⟩ := H
                      replace H : (if 0 ≤ t193 then (if t193 ≤ (wrap64 (t193 + 1)) then (if (wrap64 (t193 + 1)) ≤ (t185.length : Int) then ((place_Best.f kj23 ((t185.take ((wrap64 (t193 + 1)) : Int).toNat).drop (t193 : Int).toNat)).bind fun bt250 => (if t212 = 0 then (if t242 = 0 then (if bt250.2.2 = 0 then (if t211 > t189 then (some false) else (if t241 > t189 then (some false) else (if t193 < (t185.length : Int) then (if t189 > (wrap64 (t211 + ((rd_T36 t185 t193).f2))) then (some false) else (if (((rd_T36 t185 t193).f1).length : Int) = 0 then (if bt250.2.1 = 0 then (some true) else (if (((rd_T36 t185 t193).f1).length : Int) > 0 then (some (bt250.2.1 == ((rd_T36 t185 t193).f2))) else (some false))) else (if (((rd_T36 t185 t193).f1).length : Int) > 0 then (some (bt250.2.1 == ((rd_T36 t185 t193).f2))) else (some false)))) else (none)))) else (some false)) else (some false)) else (some false))) else (none)) else (none)) else (none)) = some r := H
                      have A58 := Aside0.mk A580
                      clear A580
                      by_cases c59 : 0 ≤ t193
                      · rw [if_pos c59] at H
                        have c59b0 := eq_true c59
                        have c59b1 : decide (0 ≤ t193) = true := decide_eq_true c59
                        clear c59
                        by_cases c60 : t193 ≤ (wrap64 (t193 + 1))
                        · rw [if_pos c60] at H
                          have c60b0 := eq_true c60
                          have c60b1 : decide (t193 ≤ (wrap64 (t193 + 1))) = true := decide_eq_true c60
                          by_cases c61 : (wrap64 (t193 + 1)) ≤ (t185.length : Int)
                          · rw [if_pos c61] at H
                            have c61b0 := eq_true c61
                            have c61b1 : decide ((wrap64 (t193 + 1)) ≤ (t185.length : Int)) = true := decide_eq_true c61
                            obtain ⟨y245, hy245⟩ : ∃ y_ : List (S36), y_ = ((t185.take ((wrap64 (t193 + 1)) : Int).toNat).drop (t193 : Int).toNat) := ⟨_, rfl⟩
                            replace H : ((place_Best.f kj23 y245).bind fun bt250 => (if t212 = 0 then (if t242 = 0 then (if bt250.2.2 = 0 then (if t211 > t189 then (some false) else (if t241 > t189 then (some false) else (if t193 < (t185.length : Int) then (if t189 > (wrap64 (t211 + ((rd_T36 t185 t193).f2))) then (some false) else (if (((rd_T36 t185 t193).f1).length : Int) = 0 then (if bt250.2.1 = 0 then (some true) else (if (((rd_T36 t185 t193).f1).length : Int) > 0 then (some (bt250.2.1 == ((rd_T36 t185 t193).f2))) else (some false))) else (if (((rd_T36 t185 t193).f1).length : Int) > 0 then (some (bt250.2.1 == ((rd_T36 t185 t193).f2))) else (some false)))) else (none)))) else (some false)) else (some false)) else (some false))) = some r := by first | (rw [hy245]; with_reducible exact H) | (have H2_ := (Option.bind_some _ _).symm.trans H; rw [hy245]; with_reducible exact H2_) | (have H2_ := (Option.bind_some _ _).symm.trans H; with_reducible exact H2_) | with_reducible exact H | (rw [hy245]; exact H) | exact H
                            have Ny245 := Aside0.mk hy245
                            clear hy245
                            replace H := Option.bind_eq_some_iff.mp H
                            obtain ⟨⟨t250, t251, t252⟩, A620, H⟩ := H
                            replace H : (if t212 = 0 then (if t242 = 0 then (if t252 = 0 then (if t211 > t189 then (some false) else (if t241 > t189 then (some false) else (if t193 < (t185.length : Int) then (if t189 > (wrap64 (t211 + ((rd_T36 t185 t193).f2))) then (some false) else (if (((rd_T36 t185 t193).f1).length : Int) = 0 then (if t251 = 0 then (some true) else (if (((rd_T36 t185 t193).f1).length : Int) > 0 then (some (t251 == ((rd_T36 t185 t193).f2))) else (some false))) else (if (((rd_T36 t185 t193).f1).length : Int) > 0 then (some (t251 == ((rd_T36 t185 t193).f2))) else (some false)))) else (none)))) else (some false)) else (some false)) else (some false)) = some r := H
                            have A62 := Aside0.mk A620
                            clear A620
                            by_cases c63 : t212 = 0
                            · rw [if_pos c63] at H
                              have c63b0 : (t212 == 0) = true := beq_iff_eq.mpr c63
                              have c63b1 : (t212 != 0) = false := bne_eq_false_iff_eq.mpr c63
                              clear c63
                              by_cases c64 : t242 = 0
                              · rw [if_pos c64] at H
                                have c64b0 : (t242 == 0) = true := beq_iff_eq.mpr c64
                                have c64b1 : (t242 != 0) = false := bne_eq_false_iff_eq.mpr c64
                                clear c64
                                by_cases c65 : t252 = 0
                                · rw [if_pos c65] at H
                                  have c65b0 : (t252 == 0) = true := beq_iff_eq.mpr c65
                                  have c65b1 : (t252 != 0) = false := bne_eq_false_iff_eq.mpr c65
                                  clear c65
                                  by_cases c66 : t211 > t189
                                  · rw [if_pos c66] at H
                                    have c66b0 : decide (t189 < t211) = true := decide_eq_true c66
                                    clear c66
                                    exact absurd (H.trans (congrArg some hr)) (by decide)
                                  · rw [if_neg c66] at H
                                    have c66b0 : decide (t189 < t211) = false := decide_eq_false c66
                                    clear c66
                                    by_cases c67 : t241 > t189
                                    · rw [if_pos c67] at H
                                      have c67b0 : decide (t189 < t241) = true := decide_eq_true c67
                                      clear c67
                                      exact absurd (H.trans (congrArg some hr)) (by decide)
                                    · rw [if_neg c67] at H
                                      have c67b0 : decide (t189 < t241) = false := decide_eq_false c67
                                      clear c67
                                      by_cases c68 : t193 < (t185.length : Int)
                                      · rw [if_pos c68] at H
                                        have c68b0 : decide (t193 < (t185.length : Int)) = true := decide_eq_true c68
                                        clear c68
                                        by_cases c69 : t189 > (wrap64 (t211 + ((rd_T36 t185 t193).f2)))
                                        · rw [if_pos c69] at H
                                          have c69b0 : decide ((wrap64 (t211 + ((rd_T36 t185 t193).f2))) < t189) = true := decide_eq_true c69
                                          clear c69
                                          exact absurd (H.trans (congrArg some hr)) (by decide)
                                        · rw [if_neg c69] at H
                                          have c69b0 : decide ((wrap64 (t211 + ((rd_T36 t185 t193).f2))) < t189) = false := decide_eq_false c69
                                          clear c69
                                          by_cases c70 : (((rd_T36 t185 t193).f1).length : Int) = 0
                                          · rw [if_pos c70] at H
                                            have c70b0 : ((((rd_T36 t185 t193).f1).length : Int) == 0) = true := beq_iff_eq.mpr c70
                                            have c70b1 : ((((rd_T36 t185 t193).f1).length : Int) != 0) = false := bne_eq_false_iff_eq.mpr c70
                                            clear c70
                                            by_cases c71 : t251 = 0
                                            · rw [if_pos c71] at H
                                              have c71b0 : (t251 == 0) = true := beq_iff_eq.mpr c71
                                              have c71b1 : (t251 != 0) = false := bne_eq_false_iff_eq.mpr c71
                                              clear c71
                                              clear hr
                                              obtain rfl := Option.some.inj H
                                              go_wp2_with (first | ((with_reducible refine gate_callee (f := 17) rfl ?_); refine goesL_ (some 98) rfl rfl Try.func17 (by kernel_rfl) rfl #[.slice (some ad218) x15_23.length co39] rfl (by (try simp only [List.map_toArray, List.map_cons, List.map_nil]); first | done | rfl | (simp only [List.length_drop, List.length_take]; rfl)) ?_; (with_reducible refine (place_Best.calls kj23 _ _ x15_23 t240 t241 t242 _ ?side1 ?side2 A58.out).mono ?_); (case side1 => repeat (first | exact (Kd.N_reads' HO_15.out).2.2 | (with_reducible refine Kd.C_alloc ?_ _) | (with_reducible refine Kd.C_drewN ?_ _) | (with_reducible refine Kd.C_drew ?_))); (case side2 => exact (Kd.N_reads' HO_15.out).2.1); rintro e w72 ⟨v243, rfl, ho0, hb⟩; refine ⟨_, rfl, ?_⟩; have n0_ := Aside0.mk (Kd.N_elder' (by (with_reducible repeat (first | apply Kd.N_alloc | apply Kd.N_drewN | apply Kd.N_drew)); exact HO_7.out) (Kd.R_base ho0) hb); have n1_ := Aside0.mk (Kd.N_elder' (by (with_reducible repeat (first | apply Kd.N_alloc | apply Kd.N_drewN | apply Kd.N_drew)); exact HO_15.out) (Kd.R_base ho0) hb); have n2_ := Aside0.mk (Kd.R_lower ho0 (below_size (by repeat (first | (with_reducible first | exact HB.out | apply below_alloc | apply pw_below_drewN | apply below_drew1) | exact HB.out)))); have n3_ := Aside0.mk (Kd.C_below (by repeat (first | (with_reducible exact HR218_4.out) | (with_reducible refine Kd.C_alloc ?_ _) | (with_reducible refine Kd.C_drewN ?_ _) | (with_reducible refine Kd.C_drew ?_) | exact HR218_4.out)) hb); have n4_ := Aside0.mk (Kd.C_below (by repeat (first | (with_reducible exact HR218_6.out) | (with_reducible refine Kd.C_alloc ?_ _) | (with_reducible refine Kd.C_drewN ?_ _) | (with_reducible refine Kd.C_drew ?_) | exact HR218_6.out)) hb); have n5_ := Aside0.mk (below_step (by repeat (first | (with_reducible first | exact HB.out | apply below_alloc | apply pw_below_drewN | apply below_drew1) | exact HB.out)) hb); clear HO_7; clear HO_15; clear HR218_4; clear HR218_6; clear HB; have HO_7 := n0_; have HO_15 := n1_; have HO244 := n2_; have HR218_4 := n3_; have HR218_6 := n4_; have HB := n5_; clear n0_ n1_ n2_ n3_ n4_ n5_; (try clear hb); (try clear hb2); (try clear hk); (try clear hi); (try clear ho0); have q73 : ((wrap64 (t193 + 1)) : Int) ≤ ((t185.length : Int) : Int) := of_decide_eq_true (by first | (with_reducible assumption) | assumption); obtain ⟨i073, hi073, _, hsz73, _⟩ := info_parts info36; have hroom73 : t185.length ≤ co27 := (Kd.N_reads' HO_7.out).2.1; have hC73 : Kd.F k36 _ _ Ao27 t185.length t185 := (Kd.V_at (base := w.heap.size) (Kd.N_V HO_7.out)).2.2; have ql73 : (t193 : Int) ≤ ((wrap64 (t193 + 1)) : Int) := of_decide_eq_true (by first | (with_reducible assumption) | assumption); have q073 : (0 : Int) ≤ (t193 : Int) := of_decide_eq_true (by first | (with_reducible assumption) | assumption); have hcut73 := cut_mid (P := Try.prog) 24 36 .i64 .i64 Try.underlying24 hi073 8 hsz73 Ao27 t185.length co27 t193 (wrap64 (t193 + 1)) q073 ql73 q73 hroom73; have hr73 := Kd.F_mid (lo := (t193 : Int).toNat) (hi := ((wrap64 (t193 + 1)) : Int).toNat) (c := co27) hC73 (by omega) (by omega) hroom73; obtain ⟨A73, hA73⟩ : ∃ A1, A1 = (if co27 = (t193 : Int).toNat then Ao27 else (Ao27 : Option Addr).map (·.add ((t193 : Int).toNat * 8))) := ⟨_, rfl⟩; obtain ⟨c73, hc73⟩ : ∃ c1, c1 = co27 - (t193 : Int).toNat := ⟨_, rfl⟩; have hy73 : y245.length = ((wrap64 (t193 + 1)) : Int).toNat - (t193 : Int).toNat := (by rw [Ny245.out, List.length_drop, List.length_take] <;> omega); rw [show ((t185).take ((wrap64 (t193 + 1)) : Int).toNat).drop (t193 : Int).toNat = y245 from Ny245.out.symm] at hr73; replace hr73 : Kd.F k36 _ _ A73 y245.length y245 := (by rw [hA73]; exact hr73); rw [← hy73, ← hA73, ← hc73] at hcut73; rw [hji17] at hcut73; have HO249 := Aside0.mk (show Kd.V k36 36 _ w.heap.size _ (.slice A73 y245.length c73) y245 from Kd.V_mk (by rw [hy73, hc73]; exact Nat.sub_le_sub_right (Nat.le_trans (by omega) hroom73) _) hr73); have HC249 := Aside0.mk (show y245.length ≤ c73 from by rw [hy73, hc73]; exact Nat.sub_le_sub_right (Nat.le_trans (by omega) hroom73) _); clear hr73 hC73 hroom73 hi073 hsz73 hc73; have KY73 := Aside0.mk hy73; have KA73 := Aside0.mk hA73; clear hy73 hA73; replace q73 := eq_true q73) | ((with_reducible refine gate_callee (f := 17) rfl ?_); refine goesL_ (some 108) rfl rfl Try.func17 (by kernel_rfl) rfl #[.slice A73 y245.length c73] rfl (by (try simp only [List.map_toArray, List.map_cons, List.map_nil]); first | done | rfl | (simp only [List.length_drop, List.length_take]; rfl)) ?_; (with_reducible refine (place_Best.calls kj23 _ _ y245 t250 t251 t252 _ ?side1 ?side2 A62.out).mono ?_); (case side1 => repeat (first | exact (Kd.V_reads' HO249.out).2.2 | (with_reducible refine Kd.C_alloc ?_ _) | (with_reducible refine Kd.C_drewN ?_ _) | (with_reducible refine Kd.C_drew ?_))); (case side2 => exact (Kd.V_reads' HO249.out).2.1); rintro e w74 ⟨v253, rfl, ho0, hb⟩; refine ⟨_, rfl, ?_⟩; have n0_ := Aside0.mk (Kd.N_elder' (by (with_reducible repeat (first | apply Kd.N_alloc | apply Kd.N_drewN | apply Kd.N_drew)); exact HO_7.out) (Kd.R_base ho0) hb); have n1_ := Aside0.mk (Kd.N_elder' (by (with_reducible repeat (first | apply Kd.N_alloc | apply Kd.N_drewN | apply Kd.N_drew)); exact HO_15.out) (Kd.R_base ho0) hb); have n2_ := Aside0.mk (Kd.R_elder' (by (with_reducible repeat (first | apply Kd.R_alloc | apply Kd.R_drewN | apply Kd.R_drew)); exact HO244.out) (Kd.R_base ho0) hb); have n3_ := Aside0.mk (Kd.V_elder' (by (with_reducible repeat (first | apply Kd.V_alloc | apply Kd.V_drewN | apply Kd.V_drew)); exact HO249.out) (Kd.R_base ho0) hb); have n4_ := Aside0.mk (Kd.R_lower (Kd.R_new' ho0 (Kd.R_lt (by (with_reducible repeat (first | apply Kd.R_alloc | apply Kd.R_drewN | apply Kd.R_drew)); exact HO244.out))) (below_size (by repeat (first | (with_reducible first | exact HB.out | apply below_alloc | apply pw_below_drewN | apply below_drew1) | exact HB.out)))); have n5_ := Aside0.mk (Kd.C_below (by repeat (first | (with_reducible exact HR218_4.out) | (with_reducible refine Kd.C_alloc ?_ _) | (with_reducible refine Kd.C_drewN ?_ _) | (with_reducible refine Kd.C_drew ?_) | exact HR218_4.out)) hb); have n6_ := Aside0.mk (Kd.C_below (by repeat (first | (with_reducible exact HR218_6.out) | (with_reducible refine Kd.C_alloc ?_ _) | (with_reducible refine Kd.C_drewN ?_ _) | (with_reducible refine Kd.C_drew ?_) | exact HR218_6.out)) hb); have n7_ := Aside0.mk (below_step (by repeat (first | (with_reducible first | exact HB.out | apply below_alloc | apply pw_below_drewN | apply below_drew1) | exact HB.out)) hb); clear HO_7; clear HO_15; clear HO244; clear HO249; clear HR218_4; clear HR218_6; clear HB; have HO_7 := n0_; have HO_15 := n1_; have HO244 := n2_; have HO249 := n3_; have HO254 := n4_; have HR218_4 := n5_; have HR218_6 := n6_; have HB := n7_; clear n0_ n1_ n2_ n3_ n4_ n5_ n6_ n7_; (try clear hb); (try clear hb2); (try clear hk); (try clear hi); (try clear ho0); have p255 : 0 ≤ (t193 : Int) := of_decide_eq_true (by first | (with_reducible assumption) | assumption); have q255 : t193 < (t185.length : Int) := of_decide_eq_true (by first | (with_reducible assumption) | assumption); obtain ⟨ad255, A255_4, c255_4, A255_6, c255_6, e255, hx255_0, hx255_1, hx255_2, hx255_3, hx255_4, hx255_5, hx255_6, hx255_7, hl255_4, hi255_4, hl255_6, hi255_6⟩ := at_T36 (Kd.N_reads' HO_7.out).2.2 t193 p255 q255; cases e255; obtain ⟨ce255, hce255, hMe255, hcc255⟩ := Kd.N_get HO_7.out z36 t193 p255 (by first | exact q255 | exact of_decide_eq_true (by first | (with_reducible assumption) | assumption) | (have e_ := (Kd.N_reads' HO_7.out).1; omega)); obtain ⟨ua255_4, uc255_4, ua255_6, uc255_6, rfl, ul255_4, ge255_4, ul255_6, ge255_6⟩ := k36_openF hMe255; have hv255_4 := hcc255 4 _ rfl; rw [add_field _ _ 4 (by omega)] at hv255_4; replace hv255_4 := Option.some.inj (hv255_4.symm.trans hx255_4); injection hv255_4 with hva_ hvn_ hvc_; rw [hva_] at ge255_4; rw [hvc_] at ul255_4; have HL255_4 := Aside0.mk (show Kd.V (Kd.slice 40 k40) 54 _ w.heap.size _ _ ((rd_T36 t185 t193).f0.f4) from Kd.V_mk ul255_4 ge255_4); clear hva_ hvn_ hvc_ ge255_4 ul255_4; have hv255_6 := hcc255 6 _ rfl; rw [add_field _ _ 6 (by omega)] at hv255_6; replace hv255_6 := Option.some.inj (hv255_6.symm.trans hx255_6); injection hv255_6 with hva_ hvn_ hvc_; rw [hva_] at ge255_6; rw [hvc_] at ul255_6; have HL255_6 := Aside0.mk (show Kd.V k42 42 _ w.heap.size _ _ ((rd_T36 t185 t193).f1) from Kd.V_mk ul255_6 ge255_6); clear hva_ hvn_ hvc_ ge255_6 ul255_6; clear hcc255 hce255; have HR255_4 := Aside0.mk hi255_4; have HC255_4 := Aside0.mk hl255_4; clear hi255_4 hl255_4; have HR255_6 := Aside0.mk hi255_6; have HC255_6 := Aside0.mk hl255_6; clear hi255_6 hl255_6; replace p255 := eq_true p255; replace q255 := eq_true q255; have p256 : 0 ≤ (t193 : Int) := of_decide_eq_true (by first | (with_reducible assumption) | assumption); have q256 : t193 < (t185.length : Int) := of_decide_eq_true (by first | (with_reducible assumption) | assumption); obtain ⟨ad256, A256_4, c256_4, A256_6, c256_6, e256, hx256_0, hx256_1, hx256_2, hx256_3, hx256_4, hx256_5, hx256_6, hx256_7, hl256_4, hi256_4, hl256_6, hi256_6⟩ := at_T36 (Kd.N_reads' HO_7.out).2.2 t193 p256 q256; obtain rfl : ad255 = ad256 := (by injection e256); obtain ⟨ce256, hce256, hMe256, hcc256⟩ := Kd.N_get HO_7.out z36 t193 p256 (by first | exact q256 | exact of_decide_eq_true (by first | (with_reducible assumption) | assumption) | (have e_ := (Kd.N_reads' HO_7.out).1; omega)); obtain ⟨ua256_4, uc256_4, ua256_6, uc256_6, rfl, ul256_4, ge256_4, ul256_6, ge256_6⟩ := k36_openF hMe256; have hv256_4 := hcc256 4 _ rfl; rw [add_field _ _ 4 (by omega)] at hv256_4; replace hv256_4 := Option.some.inj (hv256_4.symm.trans hx256_4); injection hv256_4 with hva_ hvn_ hvc_; rw [hva_] at ge256_4; rw [hvc_] at ul256_4; have HL256_4 := Aside0.mk (show Kd.V (Kd.slice 40 k40) 54 _ w.heap.size _ _ ((rd_T36 t185 t193).f0.f4) from Kd.V_mk ul256_4 ge256_4); clear hva_ hvn_ hvc_ ge256_4 ul256_4; have hv256_6 := hcc256 6 _ rfl; rw [add_field _ _ 6 (by omega)] at hv256_6; replace hv256_6 := Option.some.inj (hv256_6.symm.trans hx256_6); injection hv256_6 with hva_ hvn_ hvc_; rw [hva_] at ge256_6; rw [hvc_] at ul256_6; have HL256_6 := Aside0.mk (show Kd.V k42 42 _ w.heap.size _ _ ((rd_T36 t185 t193).f1) from Kd.V_mk ul256_6 ge256_6); clear hva_ hvn_ hvc_ ge256_6 ul256_6; clear hcc256 hce256; have HR256_4 := Aside0.mk hi256_4; have HC256_4 := Aside0.mk hl256_4; clear hi256_4 hl256_4; have HR256_6 := Aside0.mk hi256_6; have HC256_6 := Aside0.mk hl256_6; clear hi256_6 hl256_6; replace p256 := eq_true p256; replace q256 := eq_true q256; have ea_ := Option.some.inj (hx255_4.symm.trans hx256_4); injection ea_ with ea_ en_ ec_; subst ea_; subst ec_; clear en_; have ea_ := Option.some.inj (hx255_6.symm.trans hx256_6); injection ea_ with ea_ en_ ec_; subst ea_; subst ec_; clear en_))
                                              go_ret
                                              exact ⟨by first | rfl | (simp [errW_none, errW_some] <;> rfl) | (simp only [← hji17]; first | rfl | (simp [errW_none, errW_some] <;> rfl)) | (simp [*, errW_none, errW_some] <;> rfl), by repeat (first | (with_reducible first | exact HB.out | apply below_alloc | apply pw_below_drewN | apply below_drew1) | exact HB.out)⟩
                                            · rw [if_neg c71] at H
                                              have c71b0 : (t251 == 0) = false := beq_eq_false_iff_ne.mpr c71
                                              have c71b1 : (t251 != 0) = true := bne_iff_ne.mpr c71
                                              by_cases c75 : (((rd_T36 t185 t193).f1).length : Int) > 0
                                              · rw [if_pos c75] at H
                                                have c75b0 : decide (0 < (((rd_T36 t185 t193).f1).length : Int)) = true := decide_eq_true c75
                                                have c75b1 : decide (0 < ((rd_T36 t185 t193).f1).length) = true := decide_eq_true (by omega)
                                                clear c75
                                                clear hr
                                                obtain rfl := Option.some.inj H
                                                go_wp2_with (first | ((with_reducible refine gate_callee (f := 17) rfl ?_); refine goesL_ (some 98) rfl rfl Try.func17 (by kernel_rfl) rfl #[.slice (some ad218) x15_23.length co39] rfl (by (try simp only [List.map_toArray, List.map_cons, List.map_nil]); first | done | rfl | (simp only [List.length_drop, List.length_take]; rfl)) ?_; (with_reducible refine (place_Best.calls kj23 _ _ x15_23 t240 t241 t242 _ ?side1 ?side2 A58.out).mono ?_); (case side1 => repeat (first | exact (Kd.N_reads' HO_15.out).2.2 | (with_reducible refine Kd.C_alloc ?_ _) | (with_reducible refine Kd.C_drewN ?_ _) | (with_reducible refine Kd.C_drew ?_))); (case side2 => exact (Kd.N_reads' HO_15.out).2.1); rintro e w76 ⟨v243, rfl, ho0, hb⟩; refine ⟨_, rfl, ?_⟩; have n0_ := Aside0.mk (Kd.N_elder' (by (with_reducible repeat (first | apply Kd.N_alloc | apply Kd.N_drewN | apply Kd.N_drew)); exact HO_7.out) (Kd.R_base ho0) hb); have n1_ := Aside0.mk (Kd.N_elder' (by (with_reducible repeat (first | apply Kd.N_alloc | apply Kd.N_drewN | apply Kd.N_drew)); exact HO_15.out) (Kd.R_base ho0) hb); have n2_ := Aside0.mk (Kd.R_lower ho0 (below_size (by repeat (first | (with_reducible first | exact HB.out | apply below_alloc | apply pw_below_drewN | apply below_drew1) | exact HB.out)))); have n3_ := Aside0.mk (Kd.C_below (by repeat (first | (with_reducible exact HR218_4.out) | (with_reducible refine Kd.C_alloc ?_ _) | (with_reducible refine Kd.C_drewN ?_ _) | (with_reducible refine Kd.C_drew ?_) | exact HR218_4.out)) hb); have n4_ := Aside0.mk (Kd.C_below (by repeat (first | (with_reducible exact HR218_6.out) | (with_reducible refine Kd.C_alloc ?_ _) | (with_reducible refine Kd.C_drewN ?_ _) | (with_reducible refine Kd.C_drew ?_) | exact HR218_6.out)) hb); have n5_ := Aside0.mk (below_step (by repeat (first | (with_reducible first | exact HB.out | apply below_alloc | apply pw_below_drewN | apply below_drew1) | exact HB.out)) hb); clear HO_7; clear HO_15; clear HR218_4; clear HR218_6; clear HB; have HO_7 := n0_; have HO_15 := n1_; have HO244 := n2_; have HR218_4 := n3_; have HR218_6 := n4_; have HB := n5_; clear n0_ n1_ n2_ n3_ n4_ n5_; (try clear hb); (try clear hb2); (try clear hk); (try clear hi); (try clear ho0); have q77 : ((wrap64 (t193 + 1)) : Int) ≤ ((t185.length : Int) : Int) := of_decide_eq_true (by first | (with_reducible assumption) | assumption); obtain ⟨i077, hi077, _, hsz77, _⟩ := info_parts info36; have hroom77 : t185.length ≤ co27 := (Kd.N_reads' HO_7.out).2.1; have hC77 : Kd.F k36 _ _ Ao27 t185.length t185 := (Kd.V_at (base := w.heap.size) (Kd.N_V HO_7.out)).2.2; have ql77 : (t193 : Int) ≤ ((wrap64 (t193 + 1)) : Int) := of_decide_eq_true (by first | (with_reducible assumption) | assumption); have q077 : (0 : Int) ≤ (t193 : Int) := of_decide_eq_true (by first | (with_reducible assumption) | assumption); have hcut77 := cut_mid (P := Try.prog) 24 36 .i64 .i64 Try.underlying24 hi077 8 hsz77 Ao27 t185.length co27 t193 (wrap64 (t193 + 1)) q077 ql77 q77 hroom77; have hr77 := Kd.F_mid (lo := (t193 : Int).toNat) (hi := ((wrap64 (t193 + 1)) : Int).toNat) (c := co27) hC77 (by omega) (by omega) hroom77; obtain ⟨A77, hA77⟩ : ∃ A1, A1 = (if co27 = (t193 : Int).toNat then Ao27 else (Ao27 : Option Addr).map (·.add ((t193 : Int).toNat * 8))) := ⟨_, rfl⟩; obtain ⟨c77, hc77⟩ : ∃ c1, c1 = co27 - (t193 : Int).toNat := ⟨_, rfl⟩; have hy77 : y245.length = ((wrap64 (t193 + 1)) : Int).toNat - (t193 : Int).toNat := (by rw [Ny245.out, List.length_drop, List.length_take] <;> omega); rw [show ((t185).take ((wrap64 (t193 + 1)) : Int).toNat).drop (t193 : Int).toNat = y245 from Ny245.out.symm] at hr77; replace hr77 : Kd.F k36 _ _ A77 y245.length y245 := (by rw [hA77]; exact hr77); rw [← hy77, ← hA77, ← hc77] at hcut77; rw [hji17] at hcut77; have HO249 := Aside0.mk (show Kd.V k36 36 _ w.heap.size _ (.slice A77 y245.length c77) y245 from Kd.V_mk (by rw [hy77, hc77]; exact Nat.sub_le_sub_right (Nat.le_trans (by omega) hroom77) _) hr77); have HC249 := Aside0.mk (show y245.length ≤ c77 from by rw [hy77, hc77]; exact Nat.sub_le_sub_right (Nat.le_trans (by omega) hroom77) _); clear hr77 hC77 hroom77 hi077 hsz77 hc77; have KY77 := Aside0.mk hy77; have KA77 := Aside0.mk hA77; clear hy77 hA77; replace q77 := eq_true q77) | ((with_reducible refine gate_callee (f := 17) rfl ?_); refine goesL_ (some 108) rfl rfl Try.func17 (by kernel_rfl) rfl #[.slice A77 y245.length c77] rfl (by (try simp only [List.map_toArray, List.map_cons, List.map_nil]); first | done | rfl | (simp only [List.length_drop, List.length_take]; rfl)) ?_; (with_reducible refine (place_Best.calls kj23 _ _ y245 t250 t251 t252 _ ?side1 ?side2 A62.out).mono ?_); (case side1 => repeat (first | exact (Kd.V_reads' HO249.out).2.2 | (with_reducible refine Kd.C_alloc ?_ _) | (with_reducible refine Kd.C_drewN ?_ _) | (with_reducible refine Kd.C_drew ?_))); (case side2 => exact (Kd.V_reads' HO249.out).2.1); rintro e w78 ⟨v253, rfl, ho0, hb⟩; refine ⟨_, rfl, ?_⟩; have n0_ := Aside0.mk (Kd.N_elder' (by (with_reducible repeat (first | apply Kd.N_alloc | apply Kd.N_drewN | apply Kd.N_drew)); exact HO_7.out) (Kd.R_base ho0) hb); have n1_ := Aside0.mk (Kd.N_elder' (by (with_reducible repeat (first | apply Kd.N_alloc | apply Kd.N_drewN | apply Kd.N_drew)); exact HO_15.out) (Kd.R_base ho0) hb); have n2_ := Aside0.mk (Kd.R_elder' (by (with_reducible repeat (first | apply Kd.R_alloc | apply Kd.R_drewN | apply Kd.R_drew)); exact HO244.out) (Kd.R_base ho0) hb); have n3_ := Aside0.mk (Kd.V_elder' (by (with_reducible repeat (first | apply Kd.V_alloc | apply Kd.V_drewN | apply Kd.V_drew)); exact HO249.out) (Kd.R_base ho0) hb); have n4_ := Aside0.mk (Kd.R_lower (Kd.R_new' ho0 (Kd.R_lt (by (with_reducible repeat (first | apply Kd.R_alloc | apply Kd.R_drewN | apply Kd.R_drew)); exact HO244.out))) (below_size (by repeat (first | (with_reducible first | exact HB.out | apply below_alloc | apply pw_below_drewN | apply below_drew1) | exact HB.out)))); have n5_ := Aside0.mk (Kd.C_below (by repeat (first | (with_reducible exact HR218_4.out) | (with_reducible refine Kd.C_alloc ?_ _) | (with_reducible refine Kd.C_drewN ?_ _) | (with_reducible refine Kd.C_drew ?_) | exact HR218_4.out)) hb); have n6_ := Aside0.mk (Kd.C_below (by repeat (first | (with_reducible exact HR218_6.out) | (with_reducible refine Kd.C_alloc ?_ _) | (with_reducible refine Kd.C_drewN ?_ _) | (with_reducible refine Kd.C_drew ?_) | exact HR218_6.out)) hb); have n7_ := Aside0.mk (below_step (by repeat (first | (with_reducible first | exact HB.out | apply below_alloc | apply pw_below_drewN | apply below_drew1) | exact HB.out)) hb); clear HO_7; clear HO_15; clear HO244; clear HO249; clear HR218_4; clear HR218_6; clear HB; have HO_7 := n0_; have HO_15 := n1_; have HO244 := n2_; have HO249 := n3_; have HO254 := n4_; have HR218_4 := n5_; have HR218_6 := n6_; have HB := n7_; clear n0_ n1_ n2_ n3_ n4_ n5_ n6_ n7_; (try clear hb); (try clear hb2); (try clear hk); (try clear hi); (try clear ho0); have p255 : 0 ≤ (t193 : Int) := of_decide_eq_true (by first | (with_reducible assumption) | assumption); have q255 : t193 < (t185.length : Int) := of_decide_eq_true (by first | (with_reducible assumption) | assumption); obtain ⟨ad255, A255_4, c255_4, A255_6, c255_6, e255, hx255_0, hx255_1, hx255_2, hx255_3, hx255_4, hx255_5, hx255_6, hx255_7, hl255_4, hi255_4, hl255_6, hi255_6⟩ := at_T36 (Kd.N_reads' HO_7.out).2.2 t193 p255 q255; cases e255; obtain ⟨ce255, hce255, hMe255, hcc255⟩ := Kd.N_get HO_7.out z36 t193 p255 (by first | exact q255 | exact of_decide_eq_true (by first | (with_reducible assumption) | assumption) | (have e_ := (Kd.N_reads' HO_7.out).1; omega)); obtain ⟨ua255_4, uc255_4, ua255_6, uc255_6, rfl, ul255_4, ge255_4, ul255_6, ge255_6⟩ := k36_openF hMe255; have hv255_4 := hcc255 4 _ rfl; rw [add_field _ _ 4 (by omega)] at hv255_4; replace hv255_4 := Option.some.inj (hv255_4.symm.trans hx255_4); injection hv255_4 with hva_ hvn_ hvc_; rw [hva_] at ge255_4; rw [hvc_] at ul255_4; have HL255_4 := Aside0.mk (show Kd.V (Kd.slice 40 k40) 54 _ w.heap.size _ _ ((rd_T36 t185 t193).f0.f4) from Kd.V_mk ul255_4 ge255_4); clear hva_ hvn_ hvc_ ge255_4 ul255_4; have hv255_6 := hcc255 6 _ rfl; rw [add_field _ _ 6 (by omega)] at hv255_6; replace hv255_6 := Option.some.inj (hv255_6.symm.trans hx255_6); injection hv255_6 with hva_ hvn_ hvc_; rw [hva_] at ge255_6; rw [hvc_] at ul255_6; have HL255_6 := Aside0.mk (show Kd.V k42 42 _ w.heap.size _ _ ((rd_T36 t185 t193).f1) from Kd.V_mk ul255_6 ge255_6); clear hva_ hvn_ hvc_ ge255_6 ul255_6; clear hcc255 hce255; have HR255_4 := Aside0.mk hi255_4; have HC255_4 := Aside0.mk hl255_4; clear hi255_4 hl255_4; have HR255_6 := Aside0.mk hi255_6; have HC255_6 := Aside0.mk hl255_6; clear hi255_6 hl255_6; replace p255 := eq_true p255; replace q255 := eq_true q255; have p256 : 0 ≤ (t193 : Int) := of_decide_eq_true (by first | (with_reducible assumption) | assumption); have q256 : t193 < (t185.length : Int) := of_decide_eq_true (by first | (with_reducible assumption) | assumption); obtain ⟨ad256, A256_4, c256_4, A256_6, c256_6, e256, hx256_0, hx256_1, hx256_2, hx256_3, hx256_4, hx256_5, hx256_6, hx256_7, hl256_4, hi256_4, hl256_6, hi256_6⟩ := at_T36 (Kd.N_reads' HO_7.out).2.2 t193 p256 q256; obtain rfl : ad255 = ad256 := (by injection e256); obtain ⟨ce256, hce256, hMe256, hcc256⟩ := Kd.N_get HO_7.out z36 t193 p256 (by first | exact q256 | exact of_decide_eq_true (by first | (with_reducible assumption) | assumption) | (have e_ := (Kd.N_reads' HO_7.out).1; omega)); obtain ⟨ua256_4, uc256_4, ua256_6, uc256_6, rfl, ul256_4, ge256_4, ul256_6, ge256_6⟩ := k36_openF hMe256; have hv256_4 := hcc256 4 _ rfl; rw [add_field _ _ 4 (by omega)] at hv256_4; replace hv256_4 := Option.some.inj (hv256_4.symm.trans hx256_4); injection hv256_4 with hva_ hvn_ hvc_; rw [hva_] at ge256_4; rw [hvc_] at ul256_4; have HL256_4 := Aside0.mk (show Kd.V (Kd.slice 40 k40) 54 _ w.heap.size _ _ ((rd_T36 t185 t193).f0.f4) from Kd.V_mk ul256_4 ge256_4); clear hva_ hvn_ hvc_ ge256_4 ul256_4; have hv256_6 := hcc256 6 _ rfl; rw [add_field _ _ 6 (by omega)] at hv256_6; replace hv256_6 := Option.some.inj (hv256_6.symm.trans hx256_6); injection hv256_6 with hva_ hvn_ hvc_; rw [hva_] at ge256_6; rw [hvc_] at ul256_6; have HL256_6 := Aside0.mk (show Kd.V k42 42 _ w.heap.size _ _ ((rd_T36 t185 t193).f1) from Kd.V_mk ul256_6 ge256_6); clear hva_ hvn_ hvc_ ge256_6 ul256_6; clear hcc256 hce256; have HR256_4 := Aside0.mk hi256_4; have HC256_4 := Aside0.mk hl256_4; clear hi256_4 hl256_4; have HR256_6 := Aside0.mk hi256_6; have HC256_6 := Aside0.mk hl256_6; clear hi256_6 hl256_6; replace p256 := eq_true p256; replace q256 := eq_true q256; have ea_ := Option.some.inj (hx255_4.symm.trans hx256_4); injection ea_ with ea_ en_ ec_; subst ea_; subst ec_; clear en_; have ea_ := Option.some.inj (hx255_6.symm.trans hx256_6); injection ea_ with ea_ en_ ec_; subst ea_; subst ec_; clear en_; have p257 : 0 ≤ (t193 : Int) := of_decide_eq_true (by first | (with_reducible assumption) | assumption); have q257 : t193 < (t185.length : Int) := of_decide_eq_true (by first | (with_reducible assumption) | assumption); obtain ⟨ad257, A257_4, c257_4, A257_6, c257_6, e257, hx257_0, hx257_1, hx257_2, hx257_3, hx257_4, hx257_5, hx257_6, hx257_7, hl257_4, hi257_4, hl257_6, hi257_6⟩ := at_T36 (Kd.N_reads' HO_7.out).2.2 t193 p257 q257; obtain rfl : ad255 = ad257 := (by injection e257); obtain ⟨ce257, hce257, hMe257, hcc257⟩ := Kd.N_get HO_7.out z36 t193 p257 (by first | exact q257 | exact of_decide_eq_true (by first | (with_reducible assumption) | assumption) | (have e_ := (Kd.N_reads' HO_7.out).1; omega)); obtain ⟨ua257_4, uc257_4, ua257_6, uc257_6, rfl, ul257_4, ge257_4, ul257_6, ge257_6⟩ := k36_openF hMe257; have hv257_4 := hcc257 4 _ rfl; rw [add_field _ _ 4 (by omega)] at hv257_4; replace hv257_4 := Option.some.inj (hv257_4.symm.trans hx257_4); injection hv257_4 with hva_ hvn_ hvc_; rw [hva_] at ge257_4; rw [hvc_] at ul257_4; have HL257_4 := Aside0.mk (show Kd.V (Kd.slice 40 k40) 54 _ w.heap.size _ _ ((rd_T36 t185 t193).f0.f4) from Kd.V_mk ul257_4 ge257_4); clear hva_ hvn_ hvc_ ge257_4 ul257_4; have hv257_6 := hcc257 6 _ rfl; rw [add_field _ _ 6 (by omega)] at hv257_6; replace hv257_6 := Option.some.inj (hv257_6.symm.trans hx257_6); injection hv257_6 with hva_ hvn_ hvc_; rw [hva_] at ge257_6; rw [hvc_] at ul257_6; have HL257_6 := Aside0.mk (show Kd.V k42 42 _ w.heap.size _ _ ((rd_T36 t185 t193).f1) from Kd.V_mk ul257_6 ge257_6); clear hva_ hvn_ hvc_ ge257_6 ul257_6; clear hcc257 hce257; have HR257_4 := Aside0.mk hi257_4; have HC257_4 := Aside0.mk hl257_4; clear hi257_4 hl257_4; have HR257_6 := Aside0.mk hi257_6; have HC257_6 := Aside0.mk hl257_6; clear hi257_6 hl257_6; replace p257 := eq_true p257; replace q257 := eq_true q257; have ea_ := Option.some.inj (hx255_4.symm.trans hx257_4); injection ea_ with ea_ en_ ec_; subst ea_; subst ec_; clear en_; have ea_ := Option.some.inj (hx255_6.symm.trans hx257_6); injection ea_ with ea_ en_ ec_; subst ea_; subst ec_; clear en_; have p258 : 0 ≤ (t193 : Int) := of_decide_eq_true (by first | (with_reducible assumption) | assumption); have q258 : t193 < (t185.length : Int) := of_decide_eq_true (by first | (with_reducible assumption) | assumption); obtain ⟨ad258, A258_4, c258_4, A258_6, c258_6, e258, hx258_0, hx258_1, hx258_2, hx258_3, hx258_4, hx258_5, hx258_6, hx258_7, hl258_4, hi258_4, hl258_6, hi258_6⟩ := at_T36 (Kd.N_reads' HO_7.out).2.2 t193 p258 q258; obtain rfl : ad255 = ad258 := (by injection e258); obtain ⟨ce258, hce258, hMe258, hcc258⟩ := Kd.N_get HO_7.out z36 t193 p258 (by first | exact q258 | exact of_decide_eq_true (by first | (with_reducible assumption) | assumption) | (have e_ := (Kd.N_reads' HO_7.out).1; omega)); obtain ⟨ua258_4, uc258_4, ua258_6, uc258_6, rfl, ul258_4, ge258_4, ul258_6, ge258_6⟩ := k36_openF hMe258; have hv258_4 := hcc258 4 _ rfl; rw [add_field _ _ 4 (by omega)] at hv258_4; replace hv258_4 := Option.some.inj (hv258_4.symm.trans hx258_4); injection hv258_4 with hva_ hvn_ hvc_; rw [hva_] at ge258_4; rw [hvc_] at ul258_4; have HL258_4 := Aside0.mk (show Kd.V (Kd.slice 40 k40) 54 _ w.heap.size _ _ ((rd_T36 t185 t193).f0.f4) from Kd.V_mk ul258_4 ge258_4); clear hva_ hvn_ hvc_ ge258_4 ul258_4; have hv258_6 := hcc258 6 _ rfl; rw [add_field _ _ 6 (by omega)] at hv258_6; replace hv258_6 := Option.some.inj (hv258_6.symm.trans hx258_6); injection hv258_6 with hva_ hvn_ hvc_; rw [hva_] at ge258_6; rw [hvc_] at ul258_6; have HL258_6 := Aside0.mk (show Kd.V k42 42 _ w.heap.size _ _ ((rd_T36 t185 t193).f1) from Kd.V_mk ul258_6 ge258_6); clear hva_ hvn_ hvc_ ge258_6 ul258_6; clear hcc258 hce258; have HR258_4 := Aside0.mk hi258_4; have HC258_4 := Aside0.mk hl258_4; clear hi258_4 hl258_4; have HR258_6 := Aside0.mk hi258_6; have HC258_6 := Aside0.mk hl258_6; clear hi258_6 hl258_6; replace p258 := eq_true p258; replace q258 := eq_true q258; have ea_ := Option.some.inj (hx255_4.symm.trans hx258_4); injection ea_ with ea_ en_ ec_; subst ea_; subst ec_; clear en_; have ea_ := Option.some.inj (hx255_6.symm.trans hx258_6); injection ea_ with ea_ en_ ec_; subst ea_; subst ec_; clear en_))
                                                go_ret
                                                exact ⟨by first | rfl | (simp [errW_none, errW_some] <;> rfl) | (simp only [← hji17]; first | rfl | (simp [errW_none, errW_some] <;> rfl)) | (simp [*, errW_none, errW_some] <;> rfl), by repeat (first | (with_reducible first | exact HB.out | apply below_alloc | apply pw_below_drewN | apply below_drew1) | exact HB.out)⟩
                                              · rw [if_neg c75] at H
                                                have c75b0 : decide (0 < (((rd_T36 t185 t193).f1).length : Int)) = false := decide_eq_false c75
                                                have c75b1 : decide (0 < ((rd_T36 t185 t193).f1).length) = false := decide_eq_false (by omega)
                                                clear c75
                                                exact absurd (H.trans (congrArg some hr)) (by decide)
                                          · rw [if_neg c70] at H
                                            have c70b0 : ((((rd_T36 t185 t193).f1).length : Int) == 0) = false := beq_eq_false_iff_ne.mpr c70
                                            have c70b1 : ((((rd_T36 t185 t193).f1).length : Int) != 0) = true := bne_iff_ne.mpr c70
                                            have c70b2 : ¬ (((rd_T36 t185 t193).f1) = []) := fun h_ => c70 (by rw [h_]; rfl)
                                            by_cases c79 : (((rd_T36 t185 t193).f1).length : Int) > 0
                                            · rw [if_pos c79] at H
                                              have c79b0 : decide (0 < (((rd_T36 t185 t193).f1).length : Int)) = true := decide_eq_true c79
                                              have c79b1 : decide (0 < ((rd_T36 t185 t193).f1).length) = true := decide_eq_true (by omega)
                                              clear c79
                                              clear hr
                                              obtain rfl := Option.some.inj H
                                              go_wp2_with (first | ((with_reducible refine gate_callee (f := 17) rfl ?_); refine goesL_ (some 98) rfl rfl Try.func17 (by kernel_rfl) rfl #[.slice (some ad218) x15_23.length co39] rfl (by (try simp only [List.map_toArray, List.map_cons, List.map_nil]); first | done | rfl | (simp only [List.length_drop, List.length_take]; rfl)) ?_; (with_reducible refine (place_Best.calls kj23 _ _ x15_23 t240 t241 t242 _ ?side1 ?side2 A58.out).mono ?_); (case side1 => repeat (first | exact (Kd.N_reads' HO_15.out).2.2 | (with_reducible refine Kd.C_alloc ?_ _) | (with_reducible refine Kd.C_drewN ?_ _) | (with_reducible refine Kd.C_drew ?_))); (case side2 => exact (Kd.N_reads' HO_15.out).2.1); rintro e w80 ⟨v243, rfl, ho0, hb⟩; refine ⟨_, rfl, ?_⟩; have n0_ := Aside0.mk (Kd.N_elder' (by (with_reducible repeat (first | apply Kd.N_alloc | apply Kd.N_drewN | apply Kd.N_drew)); exact HO_7.out) (Kd.R_base ho0) hb); have n1_ := Aside0.mk (Kd.N_elder' (by (with_reducible repeat (first | apply Kd.N_alloc | apply Kd.N_drewN | apply Kd.N_drew)); exact HO_15.out) (Kd.R_base ho0) hb); have n2_ := Aside0.mk (Kd.R_lower ho0 (below_size (by repeat (first | (with_reducible first | exact HB.out | apply below_alloc | apply pw_below_drewN | apply below_drew1) | exact HB.out)))); have n3_ := Aside0.mk (Kd.C_below (by repeat (first | (with_reducible exact HR218_4.out) | (with_reducible refine Kd.C_alloc ?_ _) | (with_reducible refine Kd.C_drewN ?_ _) | (with_reducible refine Kd.C_drew ?_) | exact HR218_4.out)) hb); have n4_ := Aside0.mk (Kd.C_below (by repeat (first | (with_reducible exact HR218_6.out) | (with_reducible refine Kd.C_alloc ?_ _) | (with_reducible refine Kd.C_drewN ?_ _) | (with_reducible refine Kd.C_drew ?_) | exact HR218_6.out)) hb); have n5_ := Aside0.mk (below_step (by repeat (first | (with_reducible first | exact HB.out | apply below_alloc | apply pw_below_drewN | apply below_drew1) | exact HB.out)) hb); clear HO_7; clear HO_15; clear HR218_4; clear HR218_6; clear HB; have HO_7 := n0_; have HO_15 := n1_; have HO244 := n2_; have HR218_4 := n3_; have HR218_6 := n4_; have HB := n5_; clear n0_ n1_ n2_ n3_ n4_ n5_; (try clear hb); (try clear hb2); (try clear hk); (try clear hi); (try clear ho0); have q81 : ((wrap64 (t193 + 1)) : Int) ≤ ((t185.length : Int) : Int) := of_decide_eq_true (by first | (with_reducible assumption) | assumption); obtain ⟨i081, hi081, _, hsz81, _⟩ := info_parts info36; have hroom81 : t185.length ≤ co27 := (Kd.N_reads' HO_7.out).2.1; have hC81 : Kd.F k36 _ _ Ao27 t185.length t185 := (Kd.V_at (base := w.heap.size) (Kd.N_V HO_7.out)).2.2; have ql81 : (t193 : Int) ≤ ((wrap64 (t193 + 1)) : Int) := of_decide_eq_true (by first | (with_reducible assumption) | assumption); have q081 : (0 : Int) ≤ (t193 : Int) := of_decide_eq_true (by first | (with_reducible assumption) | assumption); have hcut81 := cut_mid (P := Try.prog) 24 36 .i64 .i64 Try.underlying24 hi081 8 hsz81 Ao27 t185.length co27 t193 (wrap64 (t193 + 1)) q081 ql81 q81 hroom81; have hr81 := Kd.F_mid (lo := (t193 : Int).toNat) (hi := ((wrap64 (t193 + 1)) : Int).toNat) (c := co27) hC81 (by omega) (by omega) hroom81; obtain ⟨A81, hA81⟩ : ∃ A1, A1 = (if co27 = (t193 : Int).toNat then Ao27 else (Ao27 : Option Addr).map (·.add ((t193 : Int).toNat * 8))) := ⟨_, rfl⟩; obtain ⟨c81, hc81⟩ : ∃ c1, c1 = co27 - (t193 : Int).toNat := ⟨_, rfl⟩; have hy81 : y245.length = ((wrap64 (t193 + 1)) : Int).toNat - (t193 : Int).toNat := (by rw [Ny245.out, List.length_drop, List.length_take] <;> omega); rw [show ((t185).take ((wrap64 (t193 + 1)) : Int).toNat).drop (t193 : Int).toNat = y245 from Ny245.out.symm] at hr81; replace hr81 : Kd.F k36 _ _ A81 y245.length y245 := (by rw [hA81]; exact hr81); rw [← hy81, ← hA81, ← hc81] at hcut81; rw [hji17] at hcut81; have HO249 := Aside0.mk (show Kd.V k36 36 _ w.heap.size _ (.slice A81 y245.length c81) y245 from Kd.V_mk (by rw [hy81, hc81]; exact Nat.sub_le_sub_right (Nat.le_trans (by omega) hroom81) _) hr81); have HC249 := Aside0.mk (show y245.length ≤ c81 from by rw [hy81, hc81]; exact Nat.sub_le_sub_right (Nat.le_trans (by omega) hroom81) _); clear hr81 hC81 hroom81 hi081 hsz81 hc81; have KY81 := Aside0.mk hy81; have KA81 := Aside0.mk hA81; clear hy81 hA81; replace q81 := eq_true q81) | ((with_reducible refine gate_callee (f := 17) rfl ?_); refine goesL_ (some 108) rfl rfl Try.func17 (by kernel_rfl) rfl #[.slice A81 y245.length c81] rfl (by (try simp only [List.map_toArray, List.map_cons, List.map_nil]); first | done | rfl | (simp only [List.length_drop, List.length_take]; rfl)) ?_; (with_reducible refine (place_Best.calls kj23 _ _ y245 t250 t251 t252 _ ?side1 ?side2 A62.out).mono ?_); (case side1 => repeat (first | exact (Kd.V_reads' HO249.out).2.2 | (with_reducible refine Kd.C_alloc ?_ _) | (with_reducible refine Kd.C_drewN ?_ _) | (with_reducible refine Kd.C_drew ?_))); (case side2 => exact (Kd.V_reads' HO249.out).2.1); rintro e w82 ⟨v253, rfl, ho0, hb⟩; refine ⟨_, rfl, ?_⟩; have n0_ := Aside0.mk (Kd.N_elder' (by (with_reducible repeat (first | apply Kd.N_alloc | apply Kd.N_drewN | apply Kd.N_drew)); exact HO_7.out) (Kd.R_base ho0) hb); have n1_ := Aside0.mk (Kd.N_elder' (by (with_reducible repeat (first | apply Kd.N_alloc | apply Kd.N_drewN | apply Kd.N_drew)); exact HO_15.out) (Kd.R_base ho0) hb); have n2_ := Aside0.mk (Kd.R_elder' (by (with_reducible repeat (first | apply Kd.R_alloc | apply Kd.R_drewN | apply Kd.R_drew)); exact HO244.out) (Kd.R_base ho0) hb); have n3_ := Aside0.mk (Kd.V_elder' (by (with_reducible repeat (first | apply Kd.V_alloc | apply Kd.V_drewN | apply Kd.V_drew)); exact HO249.out) (Kd.R_base ho0) hb); have n4_ := Aside0.mk (Kd.R_lower (Kd.R_new' ho0 (Kd.R_lt (by (with_reducible repeat (first | apply Kd.R_alloc | apply Kd.R_drewN | apply Kd.R_drew)); exact HO244.out))) (below_size (by repeat (first | (with_reducible first | exact HB.out | apply below_alloc | apply pw_below_drewN | apply below_drew1) | exact HB.out)))); have n5_ := Aside0.mk (Kd.C_below (by repeat (first | (with_reducible exact HR218_4.out) | (with_reducible refine Kd.C_alloc ?_ _) | (with_reducible refine Kd.C_drewN ?_ _) | (with_reducible refine Kd.C_drew ?_) | exact HR218_4.out)) hb); have n6_ := Aside0.mk (Kd.C_below (by repeat (first | (with_reducible exact HR218_6.out) | (with_reducible refine Kd.C_alloc ?_ _) | (with_reducible refine Kd.C_drewN ?_ _) | (with_reducible refine Kd.C_drew ?_) | exact HR218_6.out)) hb); have n7_ := Aside0.mk (below_step (by repeat (first | (with_reducible first | exact HB.out | apply below_alloc | apply pw_below_drewN | apply below_drew1) | exact HB.out)) hb); clear HO_7; clear HO_15; clear HO244; clear HO249; clear HR218_4; clear HR218_6; clear HB; have HO_7 := n0_; have HO_15 := n1_; have HO244 := n2_; have HO249 := n3_; have HO254 := n4_; have HR218_4 := n5_; have HR218_6 := n6_; have HB := n7_; clear n0_ n1_ n2_ n3_ n4_ n5_ n6_ n7_; (try clear hb); (try clear hb2); (try clear hk); (try clear hi); (try clear ho0); have p255 : 0 ≤ (t193 : Int) := of_decide_eq_true (by first | (with_reducible assumption) | assumption); have q255 : t193 < (t185.length : Int) := of_decide_eq_true (by first | (with_reducible assumption) | assumption); obtain ⟨ad255, A255_4, c255_4, A255_6, c255_6, e255, hx255_0, hx255_1, hx255_2, hx255_3, hx255_4, hx255_5, hx255_6, hx255_7, hl255_4, hi255_4, hl255_6, hi255_6⟩ := at_T36 (Kd.N_reads' HO_7.out).2.2 t193 p255 q255; cases e255; obtain ⟨ce255, hce255, hMe255, hcc255⟩ := Kd.N_get HO_7.out z36 t193 p255 (by first | exact q255 | exact of_decide_eq_true (by first | (with_reducible assumption) | assumption) | (have e_ := (Kd.N_reads' HO_7.out).1; omega)); obtain ⟨ua255_4, uc255_4, ua255_6, uc255_6, rfl, ul255_4, ge255_4, ul255_6, ge255_6⟩ := k36_openF hMe255; have hv255_4 := hcc255 4 _ rfl; rw [add_field _ _ 4 (by omega)] at hv255_4; replace hv255_4 := Option.some.inj (hv255_4.symm.trans hx255_4); injection hv255_4 with hva_ hvn_ hvc_; rw [hva_] at ge255_4; rw [hvc_] at ul255_4; have HL255_4 := Aside0.mk (show Kd.V (Kd.slice 40 k40) 54 _ w.heap.size _ _ ((rd_T36 t185 t193).f0.f4) from Kd.V_mk ul255_4 ge255_4); clear hva_ hvn_ hvc_ ge255_4 ul255_4; have hv255_6 := hcc255 6 _ rfl; rw [add_field _ _ 6 (by omega)] at hv255_6; replace hv255_6 := Option.some.inj (hv255_6.symm.trans hx255_6); injection hv255_6 with hva_ hvn_ hvc_; rw [hva_] at ge255_6; rw [hvc_] at ul255_6; have HL255_6 := Aside0.mk (show Kd.V k42 42 _ w.heap.size _ _ ((rd_T36 t185 t193).f1) from Kd.V_mk ul255_6 ge255_6); clear hva_ hvn_ hvc_ ge255_6 ul255_6; clear hcc255 hce255; have HR255_4 := Aside0.mk hi255_4; have HC255_4 := Aside0.mk hl255_4; clear hi255_4 hl255_4; have HR255_6 := Aside0.mk hi255_6; have HC255_6 := Aside0.mk hl255_6; clear hi255_6 hl255_6; replace p255 := eq_true p255; replace q255 := eq_true q255; have p256 : 0 ≤ (t193 : Int) := of_decide_eq_true (by first | (with_reducible assumption) | assumption); have q256 : t193 < (t185.length : Int) := of_decide_eq_true (by first | (with_reducible assumption) | assumption); obtain ⟨ad256, A256_4, c256_4, A256_6, c256_6, e256, hx256_0, hx256_1, hx256_2, hx256_3, hx256_4, hx256_5, hx256_6, hx256_7, hl256_4, hi256_4, hl256_6, hi256_6⟩ := at_T36 (Kd.N_reads' HO_7.out).2.2 t193 p256 q256; obtain rfl : ad255 = ad256 := (by injection e256); obtain ⟨ce256, hce256, hMe256, hcc256⟩ := Kd.N_get HO_7.out z36 t193 p256 (by first | exact q256 | exact of_decide_eq_true (by first | (with_reducible assumption) | assumption) | (have e_ := (Kd.N_reads' HO_7.out).1; omega)); obtain ⟨ua256_4, uc256_4, ua256_6, uc256_6, rfl, ul256_4, ge256_4, ul256_6, ge256_6⟩ := k36_openF hMe256; have hv256_4 := hcc256 4 _ rfl; rw [add_field _ _ 4 (by omega)] at hv256_4; replace hv256_4 := Option.some.inj (hv256_4.symm.trans hx256_4); injection hv256_4 with hva_ hvn_ hvc_; rw [hva_] at ge256_4; rw [hvc_] at ul256_4; have HL256_4 := Aside0.mk (show Kd.V (Kd.slice 40 k40) 54 _ w.heap.size _ _ ((rd_T36 t185 t193).f0.f4) from Kd.V_mk ul256_4 ge256_4); clear hva_ hvn_ hvc_ ge256_4 ul256_4; have hv256_6 := hcc256 6 _ rfl; rw [add_field _ _ 6 (by omega)] at hv256_6; replace hv256_6 := Option.some.inj (hv256_6.symm.trans hx256_6); injection hv256_6 with hva_ hvn_ hvc_; rw [hva_] at ge256_6; rw [hvc_] at ul256_6; have HL256_6 := Aside0.mk (show Kd.V k42 42 _ w.heap.size _ _ ((rd_T36 t185 t193).f1) from Kd.V_mk ul256_6 ge256_6); clear hva_ hvn_ hvc_ ge256_6 ul256_6; clear hcc256 hce256; have HR256_4 := Aside0.mk hi256_4; have HC256_4 := Aside0.mk hl256_4; clear hi256_4 hl256_4; have HR256_6 := Aside0.mk hi256_6; have HC256_6 := Aside0.mk hl256_6; clear hi256_6 hl256_6; replace p256 := eq_true p256; replace q256 := eq_true q256; have ea_ := Option.some.inj (hx255_4.symm.trans hx256_4); injection ea_ with ea_ en_ ec_; subst ea_; subst ec_; clear en_; have ea_ := Option.some.inj (hx255_6.symm.trans hx256_6); injection ea_ with ea_ en_ ec_; subst ea_; subst ec_; clear en_; have p259 : 0 ≤ (t193 : Int) := of_decide_eq_true (by first | (with_reducible assumption) | assumption); have q259 : t193 < (t185.length : Int) := of_decide_eq_true (by first | (with_reducible assumption) | assumption); obtain ⟨ad259, A259_4, c259_4, A259_6, c259_6, e259, hx259_0, hx259_1, hx259_2, hx259_3, hx259_4, hx259_5, hx259_6, hx259_7, hl259_4, hi259_4, hl259_6, hi259_6⟩ := at_T36 (Kd.N_reads' HO_7.out).2.2 t193 p259 q259; obtain rfl : ad255 = ad259 := (by injection e259); obtain ⟨ce259, hce259, hMe259, hcc259⟩ := Kd.N_get HO_7.out z36 t193 p259 (by first | exact q259 | exact of_decide_eq_true (by first | (with_reducible assumption) | assumption) | (have e_ := (Kd.N_reads' HO_7.out).1; omega)); obtain ⟨ua259_4, uc259_4, ua259_6, uc259_6, rfl, ul259_4, ge259_4, ul259_6, ge259_6⟩ := k36_openF hMe259; have hv259_4 := hcc259 4 _ rfl; rw [add_field _ _ 4 (by omega)] at hv259_4; replace hv259_4 := Option.some.inj (hv259_4.symm.trans hx259_4); injection hv259_4 with hva_ hvn_ hvc_; rw [hva_] at ge259_4; rw [hvc_] at ul259_4; have HL259_4 := Aside0.mk (show Kd.V (Kd.slice 40 k40) 54 _ w.heap.size _ _ ((rd_T36 t185 t193).f0.f4) from Kd.V_mk ul259_4 ge259_4); clear hva_ hvn_ hvc_ ge259_4 ul259_4; have hv259_6 := hcc259 6 _ rfl; rw [add_field _ _ 6 (by omega)] at hv259_6; replace hv259_6 := Option.some.inj (hv259_6.symm.trans hx259_6); injection hv259_6 with hva_ hvn_ hvc_; rw [hva_] at ge259_6; rw [hvc_] at ul259_6; have HL259_6 := Aside0.mk (show Kd.V k42 42 _ w.heap.size _ _ ((rd_T36 t185 t193).f1) from Kd.V_mk ul259_6 ge259_6); clear hva_ hvn_ hvc_ ge259_6 ul259_6; clear hcc259 hce259; have HR259_4 := Aside0.mk hi259_4; have HC259_4 := Aside0.mk hl259_4; clear hi259_4 hl259_4; have HR259_6 := Aside0.mk hi259_6; have HC259_6 := Aside0.mk hl259_6; clear hi259_6 hl259_6; replace p259 := eq_true p259; replace q259 := eq_true q259; have ea_ := Option.some.inj (hx255_4.symm.trans hx259_4); injection ea_ with ea_ en_ ec_; subst ea_; subst ec_; clear en_; have ea_ := Option.some.inj (hx255_6.symm.trans hx259_6); injection ea_ with ea_ en_ ec_; subst ea_; subst ec_; clear en_; have p260 : 0 ≤ (t193 : Int) := of_decide_eq_true (by first | (with_reducible assumption) | assumption); have q260 : t193 < (t185.length : Int) := of_decide_eq_true (by first | (with_reducible assumption) | assumption); obtain ⟨ad260, A260_4, c260_4, A260_6, c260_6, e260, hx260_0, hx260_1, hx260_2, hx260_3, hx260_4, hx260_5, hx260_6, hx260_7, hl260_4, hi260_4, hl260_6, hi260_6⟩ := at_T36 (Kd.N_reads' HO_7.out).2.2 t193 p260 q260; obtain rfl : ad255 = ad260 := (by injection e260); obtain ⟨ce260, hce260, hMe260, hcc260⟩ := Kd.N_get HO_7.out z36 t193 p260 (by first | exact q260 | exact of_decide_eq_true (by first | (with_reducible assumption) | assumption) | (have e_ := (Kd.N_reads' HO_7.out).1; omega)); obtain ⟨ua260_4, uc260_4, ua260_6, uc260_6, rfl, ul260_4, ge260_4, ul260_6, ge260_6⟩ := k36_openF hMe260; have hv260_4 := hcc260 4 _ rfl; rw [add_field _ _ 4 (by omega)] at hv260_4; replace hv260_4 := Option.some.inj (hv260_4.symm.trans hx260_4); injection hv260_4 with hva_ hvn_ hvc_; rw [hva_] at ge260_4; rw [hvc_] at ul260_4; have HL260_4 := Aside0.mk (show Kd.V (Kd.slice 40 k40) 54 _ w.heap.size _ _ ((rd_T36 t185 t193).f0.f4) from Kd.V_mk ul260_4 ge260_4); clear hva_ hvn_ hvc_ ge260_4 ul260_4; have hv260_6 := hcc260 6 _ rfl; rw [add_field _ _ 6 (by omega)] at hv260_6; replace hv260_6 := Option.some.inj (hv260_6.symm.trans hx260_6); injection hv260_6 with hva_ hvn_ hvc_; rw [hva_] at ge260_6; rw [hvc_] at ul260_6; have HL260_6 := Aside0.mk (show Kd.V k42 42 _ w.heap.size _ _ ((rd_T36 t185 t193).f1) from Kd.V_mk ul260_6 ge260_6); clear hva_ hvn_ hvc_ ge260_6 ul260_6; clear hcc260 hce260; have HR260_4 := Aside0.mk hi260_4; have HC260_4 := Aside0.mk hl260_4; clear hi260_4 hl260_4; have HR260_6 := Aside0.mk hi260_6; have HC260_6 := Aside0.mk hl260_6; clear hi260_6 hl260_6; replace p260 := eq_true p260; replace q260 := eq_true q260; have ea_ := Option.some.inj (hx255_4.symm.trans hx260_4); injection ea_ with ea_ en_ ec_; subst ea_; subst ec_; clear en_; have ea_ := Option.some.inj (hx255_6.symm.trans hx260_6); injection ea_ with ea_ en_ ec_; subst ea_; subst ec_; clear en_))
                                              go_ret
                                              exact ⟨by first | rfl | (simp [errW_none, errW_some] <;> rfl) | (simp only [← hji17]; first | rfl | (simp [errW_none, errW_some] <;> rfl)) | (simp [*, errW_none, errW_some] <;> rfl), by repeat (first | (with_reducible first | exact HB.out | apply below_alloc | apply pw_below_drewN | apply below_drew1) | exact HB.out)⟩
                                            · rw [if_neg c79] at H
                                              have c79b0 : decide (0 < (((rd_T36 t185 t193).f1).length : Int)) = false := decide_eq_false c79
                                              have c79b1 : decide (0 < ((rd_T36 t185 t193).f1).length) = false := decide_eq_false (by omega)
                                              clear c79
                                              exact absurd (H.trans (congrArg some hr)) (by decide)
                                      · rw [if_neg c68] at H
                                        exact absurd H (by simp)
                                · rw [if_neg c65] at H
                                  have c65b0 : (t252 == 0) = false := beq_eq_false_iff_ne.mpr c65
                                  have c65b1 : (t252 != 0) = true := bne_iff_ne.mpr c65
                                  exact absurd (H.trans (congrArg some hr)) (by decide)
                              · rw [if_neg c64] at H
                                have c64b0 : (t242 == 0) = false := beq_eq_false_iff_ne.mpr c64
                                have c64b1 : (t242 != 0) = true := bne_iff_ne.mpr c64
                                exact absurd (H.trans (congrArg some hr)) (by decide)
                            · rw [if_neg c63] at H
                              have c63b0 : (t212 == 0) = false := beq_eq_false_iff_ne.mpr c63
                              have c63b1 : (t212 != 0) = true := bne_iff_ne.mpr c63
                              exact absurd (H.trans (congrArg some hr)) (by decide)
                          · rw [if_neg c61] at H
                            exact absurd H (by simp)
                        · rw [if_neg c60] at H
                          exact absurd H (by simp)
                      · rw [if_neg c59] at H
                        exact absurd H (by simp)
                · rw [if_neg c23] at H
                  exact absurd H (by simp)
              · rw [if_neg c19] at H
                exact absurd H (by simp)
            · rw [if_neg c18] at H
              exact absurd H (by simp)
          · rw [if_neg c16] at H
            exact absurd H (by simp)
        · rw [if_neg c15] at H
          exact absurd H (by simp)
    · rw [if_neg c8] at H
      have c8b0 : (t190 == 0) = false := beq_eq_false_iff_ne.mpr c8
      have c8b1 : (t190 != 0) = true := bne_iff_ne.mpr c8
      exact absurd (H.trans (congrArg some hr)) (by decide)
  · replace c5 := Bool.eq_false_iff.mpr c5
    subst c5
    have H1 : (some false) = some r := by rw [if_neg (show ¬ (false = true) by decide)] at H; exact H
    clear H
    have H := H1
    clear H1
    exact absurd (H.trans (congrArg some hr)) (by decide)

/-- THE ONE PURE STATEMENT of terrkeep5_PlaceFewer: yours. -/
def terrkeep5_PlaceFewer.Pure : Prop := ∀ (l0 : List Int) (a1 : Int) (a2 : Int), l0.length ≤ maxLen → l0.length * 8 ≤ 140737488351232 → (∀ x ∈ l0, (Lit.int .i64 x).wf = true) → (Lit.int .i64 a1).wf = true → (Lit.int .i64 a2).wf = true → ∃ k, terrkeep5_PlaceFewer.f k l0 a1 a2 = some true
theorem terrkeep5_PlaceFewer.walk (P : terrkeep5_PlaceFewer.Pure) (a0 : Option Addr) (len0 cap0 : Nat) (z0 : List Int) (a1 : Int) (a2 : Int) (w : World) (w0 : (a0 = none ∧ len0 = 0 ∧ cap0 = 0 ∧ z0 = []) ∨ ∃ x, a0 = some x ∧ len0 ≤ cap0 ∧ cap0 ≤ maxLen ∧ z0.length = cap0 ∧ (∀ i, i < z0.length → w.cell? (x.add i) = some (.int .i64 (z0.getD i 0))) ∧ ∀ n ∈ z0, (Lit.int .i64 n).wf = true) (y0 : len0 * 8 ≤ 140737488351232) (w1 : (Lit.int .i64 a1).wf = true) (w2 : (Lit.int .i64 a2).wf = true) :
    Calls Try.prog 3 #[.slice a0 len0 cap0, .int .i64 a1, .int .i64 a2] w fun e w' => e = .returned (.bool true) ∧ Below w.heap.size w w' := by
  obtain ⟨l0, rfl, hr0, hm0, hw0, hc0⟩ := ReadsInt.ofRowC w0
  obtain ⟨k, h⟩ := P l0 a1 a2 hm0 y0 hw0 w1 w2
  refine (terrkeep5_PlaceFewer.calls k _ _ l0 a1 a2 true w (Kd.C_of_reads (d := (0 : Int)) (h1 := fun _ => rfl) hr0) hc0 h rfl).mono ?_
  rintro e w' ⟨rfl, hd⟩
  exact ⟨rfl, hd⟩
end Go.Proofs.Ytdmhnjpblpfbfaa.Q
