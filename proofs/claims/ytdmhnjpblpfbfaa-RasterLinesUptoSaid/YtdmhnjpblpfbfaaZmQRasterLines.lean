/- What the Go function terrlaw5_RasterLines comes to, and its contract. Condition: its printed twin gives an answer, which is true. -/
import Derived.Test.YtdmhnjpblpfbfaaZmUniJ
import Derived.Test.YtdmhnjpblpfbfaaZmQf38
import Derived.Test.YtdmhnjpblpfbfaaZmQf45
import Derived.Test.YtdmhnjpblpfbfaaZmQf50
import Derived.Test.YtdmhnjpblpfbfaaZmQf52
import Derived.Test.YtdmhnjpblpfbfaaZmQf51
import Derived.Test.YtdmhnjpblpfbfaaZmQf35
import Derived.Test.YtdmhnjpblpfbfaaZmQf36
import Derived.Test.YtdmhnjpblpfbfaaZmQf37
namespace Go.Proofs.Ytdmhnjpblpfbfaa.Q
open Go.RowKit Go.Proofs.YtdmhnjpblpfbfaaW.PrintWords Go.Proofs.YtdmhnjpblpfbfaaW.PrintLast Go.Proofs.YtdmhnjpblpfbfaaW.PrintMore
attribute [local go_sem] max2_int min2_int max_two min_two max_three min_three max_four min_four
set_option linter.unusedVariables false
set_option linter.unusedSimpArgs false
attribute [local go_sem high] eqA42
/-! ### terrlaw5_RasterLines: function 14 -/
mutual
def terrlaw5_RasterLines.l0 : Nat → List (List (S40)) → List (S40) → Int → Int → List Int → List (S40) → Int → Int → Int → Int → Int → Int → Option (Bool)
  | 0, _, _, _, _, _, _, _, _, _, _, _, _ => none
  | k + 1, x0, x1, x2, x3, x11, x68, x69, x70, x391000, x391001, x391002, x391003 => if x70 < x69 then (if 0 ≤ x70 then (if x70 < (x68.length : Int) then ((terrref5_Short.f ((rd_T40 x68 x70).f0)).bind fun t393 => ((terrref5_Short.f ((rd_T40 x68 x70).f1)).bind fun t394 => ((some (([t393, t394] : List Int) : List Int)).bind fun y395 => (if x11.length + y395.length < 17592186044416 then (terrlaw5_RasterLines.l0 k x0 x1 x2 x3 (x11 ++ y395) x68 x69 (wrap64 (x70 + 1)) x391000 x391001 x391002 x391003) else (none))))) else (none)) else (none)) else ((raster_Square.f x2 x3).bind fun bt401 => (if ((!(bt401.1 == x391000) || (!(bt401.2.1 == x391001))) || ((!(bt401.2.2.1 == x391002) || (!(bt401.2.2.2 == x391003))))) = true then (terrlaw5_RasterLines.j1 k x0 x1 x2 x3 true x391000 x391001 x391002 x391003) else ((raster_Total.f k x11).bind fun t405 => ((terrlaw5_sum.f k x11).bind fun t406 => (terrlaw5_RasterLines.j1 k x0 x1 x2 x3 (t405 != t406) x391000 x391001 x391002 x391003)))))
def terrlaw5_RasterLines.j1 : Nat → List (List (S40)) → List (S40) → Int → Int → Bool → Int → Int → Int → Int → Option (Bool)
  | 0, _, _, _, _, _, _, _, _, _ => none
  | k + 1, x0, x1, x2, x3, x95, x391000, x391001, x391002, x391003 => if x95 = true then (some false) else ((raster_Lines.f k x0).bind fun t407 => ((raster_Dots.f k x1).bind fun t410 => (if (t407.length : Int) = 4096 then (terrlaw5_RasterLines.j2 k x0 x1 x2 x3 t407 t410 ((t410.length : Int) != 4096) x391000 x391001 x391002 x391003) else (terrlaw5_RasterLines.j2 k x0 x1 x2 x3 t407 t410 true x391000 x391001 x391002 x391003))))
def terrlaw5_RasterLines.j2 : Nat → List (List (S40)) → List (S40) → Int → Int → List Int → List Int → Bool → Int → Int → Int → Int → Option (Bool)
  | 0, _, _, _, _, _, _, _, _, _, _, _ => none
  | k + 1, x0, x1, x2, x3, x14, x15, x107, x391000, x391001, x391002, x391003 => if x107 = true then (some false) else (terrlaw5_RasterLines.l1 k x1 x2 x3 x14 x15 0 0 x0 (x0.length : Int) 0 x391000 x391001 x391002 x391003)
def terrlaw5_RasterLines.l1 : Nat → List (S40) → Int → Int → List Int → List Int → Int → Int → List (List (S40)) → Int → Int → Int → Int → Int → Int → Option (Bool)
  | 0, _, _, _, _, _, _, _, _, _, _, _, _, _, _ => none
  | k + 1, x1, x2, x3, x14, x15, x16, x17, x108, x109, x110, x391000, x391001, x391002, x391003 => if x110 < x109 then (if 0 ≤ x110 then (if x110 < (x108.length : Int) then (terrlaw5_RasterLines.l2 k x1 x2 x3 x14 x15 x16 x17 (rd_L2 x108 x110) 1 x108 x109 x110 x391000 x391001 x391002 x391003) else (none)) else (none)) else (terrlaw5_RasterLines.l3 k x2 x3 x14 x15 x16 x17 x1 (x1.length : Int) 0 x391000 x391001 x391002 x391003)
def terrlaw5_RasterLines.l2 : Nat → List (S40) → Int → Int → List Int → List Int → Int → Int → List (S40) → Int → List (List (S40)) → Int → Int → Int → Int → Int → Int → Option (Bool)
  | 0, _, _, _, _, _, _, _, _, _, _, _, _, _, _, _, _ => none
  | k + 1, x1, x2, x3, x14, x15, x16, x17, x19, x20, x108, x109, x110, x391000, x391001, x391002, x391003 => if x20 < (x19.length : Int) then (if 0 ≤ (wrap64 (x20 - 1)) then (if (wrap64 (x20 - 1)) < (x19.length : Int) then ((terrref5_Short.f ((rd_T40 x19 (wrap64 (x20 - 1))).f0)).bind fun t415 => ((terrref5_Short.f ((rd_T40 x19 (wrap64 (x20 - 1))).f1)).bind fun t417 => (if 0 ≤ x20 then ((terrref5_Short.f ((rd_T40 x19 x20).f0)).bind fun t419 => ((terrref5_Short.f ((rd_T40 x19 x20).f1)).bind fun t421 => ((terrref5_Hits.f k x391000 x391001 x391002 x391003 t415 t417 t419 t421).bind fun t424 => (if t424 = true then (terrlaw5_RasterLines.l2 k x1 x2 x3 x14 x15 (wrap64 (x16 + 1)) x17 x19 (wrap64 (x20 + 1)) x108 x109 x110 x391000 x391001 x391002 x391003) else (terrlaw5_RasterLines.l2 k x1 x2 x3 x14 x15 x16 x17 x19 (wrap64 (x20 + 1)) x108 x109 x110 x391000 x391001 x391002 x391003))))) else (none)))) else (none)) else (none)) else (terrlaw5_RasterLines.l1 k x1 x2 x3 x14 x15 x16 x17 x108 x109 (wrap64 (x110 + 1)) x391000 x391001 x391002 x391003)
def terrlaw5_RasterLines.l3 : Nat → Int → Int → List Int → List Int → Int → Int → List (S40) → Int → Int → Int → Int → Int → Int → Option (Bool)
  | 0, _, _, _, _, _, _, _, _, _, _, _, _, _ => none
  | k + 1, x2, x3, x14, x15, x16, x17, x155, x156, x157, x391000, x391001, x391002, x391003 => if x157 < x156 then (if 0 ≤ x157 then (if x157 < (x155.length : Int) then (if ((rd_T40 x155 x157).f0) ≥ x391000 then (if ((rd_T40 x155 x157).f0) < x391002 then (if ((rd_T40 x155 x157).f1) ≥ x391001 then (if ((rd_T40 x155 x157).f1) < x391003 then (terrlaw5_RasterLines.l3 k x2 x3 x14 x15 x16 (wrap64 (x17 + 1)) x155 x156 (wrap64 (x157 + 1)) x391000 x391001 x391002 x391003) else (terrlaw5_RasterLines.l3 k x2 x3 x14 x15 x16 x17 x155 x156 (wrap64 (x157 + 1)) x391000 x391001 x391002 x391003)) else (terrlaw5_RasterLines.l3 k x2 x3 x14 x15 x16 x17 x155 x156 (wrap64 (x157 + 1)) x391000 x391001 x391002 x391003)) else (terrlaw5_RasterLines.l3 k x2 x3 x14 x15 x16 x17 x155 x156 (wrap64 (x157 + 1)) x391000 x391001 x391002 x391003)) else (terrlaw5_RasterLines.l3 k x2 x3 x14 x15 x16 x17 x155 x156 (wrap64 (x157 + 1)) x391000 x391001 x391002 x391003)) else (none)) else (none)) else (if 0 ≤ (wrap64 ((wrap64 (64 * x3)) + x2)) then (if (wrap64 ((wrap64 (64 * x3)) + x2)) < (x14.length : Int) then (if (rd x14 (wrap64 ((wrap64 (64 * x3)) + x2))) = x16 then (if (wrap64 ((wrap64 (64 * x3)) + x2)) < (x15.length : Int) then (some ((rd x15 (wrap64 ((wrap64 (64 * x3)) + x2))) == x17)) else (none)) else (some false)) else (none)) else (none))
end
def terrlaw5_RasterLines.f (k : Nat) (l0 : List (List (S40))) (l1 : List (S40)) (a2 : Int) (a3 : Int) : Option (Bool) := (terrlaw5_covers.f k).bind fun t382 => (if t382 = true then ((terrref5_Short.f a2).bind fun t383 => ((terrref5_Short.f a3).bind fun t384 => ((raster_Square.f a2 a3).bind fun bt386 => (if ((!(bt386.1 == (wrap64 (4 * t383))) || (!(bt386.2.1 == (wrap64 (4 * t384))))) || ((!(bt386.2.2.1 == (wrap64 ((wrap64 (4 * t383)) + 4))) || (!(bt386.2.2.2 == (wrap64 ((wrap64 (4 * t384)) + 4))))))) = true then (some false) else (terrlaw5_RasterLines.l0 k l0 l1 (Int.tmod (wrap64 ((Int.tmod a2 64) + 64)) 64) (Int.tmod (wrap64 ((Int.tmod a3 64) + 64)) 64) ([] : List Int) l1 (l1.length : Int) 0 (wrap64 (4 * (Int.tmod (wrap64 ((Int.tmod a2 64) + 64)) 64))) (wrap64 (4 * (Int.tmod (wrap64 ((Int.tmod a3 64) + 64)) 64))) (wrap64 ((wrap64 (4 * (Int.tmod (wrap64 ((Int.tmod a2 64) + 64)) 64))) + 4)) (wrap64 ((wrap64 (4 * (Int.tmod (wrap64 ((Int.tmod a3 64) + 64)) 64))) + 4))))))) else (some false))
def terrlaw5_RasterLines.T4 : Bool × List (List Nat × List Nat) := (true, [([], []), ([], []), ([0, 1], [0, 1]), ([], []), ([], []), ([4], [4]), ([5], [5]), ([], []), ([7], [7]), ([8], [8]), ([6, 9], [6, 9]), ([3, 10], [3, 10]), ([2, 11], [2, 11])])
def terrlaw5_RasterLines.B4 : List Nat := [0, 0, 3, 0, 0, 16, 48, 0, 128, 384, 1008, 2040, 4095]
theorem terrlaw5_RasterLines.tab4 : rtab .any (opsOf Try.f14 4) = terrlaw5_RasterLines.T4 := by kernel_rfl
theorem terrlaw5_RasterLines.bits4 : waitsOk terrlaw5_RasterLines.T4.2 terrlaw5_RasterLines.B4 = true := by kernel_rfl
def terrlaw5_RasterLines.T12 : Bool × List (List Nat × List Nat) := (true, [([], []), ([], []), ([1], [1]), ([2], [2]), ([], []), ([4], [4]), ([5, 3], [5]), ([3, 6], [3, 6]), ([0, 7, 6], [0, 7]), ([8, 8, 0, 1, 2, 3, 4, 5, 6, 7, 8], [0, 8])])
def terrlaw5_RasterLines.B12 : List Nat := [0, 0, 2, 6, 0, 16, 62, 126, 255, 511]
theorem terrlaw5_RasterLines.tab12 : rtab .any (opsOf Try.f14 12) = terrlaw5_RasterLines.T12 := by kernel_rfl
theorem terrlaw5_RasterLines.bits12 : waitsOk terrlaw5_RasterLines.T12.2 terrlaw5_RasterLines.B12 = true := by kernel_rfl
def terrlaw5_RasterLines.T14 : Bool × List (List Nat × List Nat) := (true, [([], []), ([], []), ([0, 1], [0, 1]), ([], []), ([2, 3], [2, 3]), ([4, 2], [4]), ([5], [5]), ([6, 5, 5], [5, 6]), ([5], [5]), ([8, 7, 5], [5, 8]), ([7, 9, 5], [5, 7, 9]), ([5, 10], [5, 10])])
def terrlaw5_RasterLines.B14 : List Nat := [0, 0, 3, 0, 15, 31, 63, 127, 63, 511, 1023, 2047]
theorem terrlaw5_RasterLines.tab14 : rtab .any (opsOf Try.f14 14) = terrlaw5_RasterLines.T14 := by kernel_rfl
theorem terrlaw5_RasterLines.bits14 : waitsOk terrlaw5_RasterLines.T14.2 terrlaw5_RasterLines.B14 = true := by kernel_rfl
set_option maxHeartbeats 8000000 in
set_option maxRecDepth 100000 in
theorem terrlaw5_RasterLines.calls (k : Nat) (A0 : Option Addr) (c0 : Nat) (l0 : List (List (S40))) (A1 : Option Addr) (c1 : Nat) (l1 : List (S40)) (a2 : Int) (a3 : Int) (r : Bool) (w : World) (hr0 : Kd.C (Kd.slice 40 k40) w A0 l0.length l0) (hc0 : l0.length ≤ c0) (hr1 : Kd.C k40 w A1 l1.length l1) (hc1 : l1.length ≤ c1) (h : terrlaw5_RasterLines.f k l0 l1 a2 a3 = some r) (hr : r = true) :
    Calls Try.prog 14 #[.slice A0 l0.length c0, .slice A1 l1.length c1, .int .i64 a2, .int .i64 a3] w fun e w' => e = .returned (.bool r) ∧ Below w.heap.size w w' := by
  have hu40 := Try.underlying40
  have hu42 := Try.underlying42
  have HR0 := Aside0.mk hr0
  have HC0 := Aside0.mk hc0
  clear hr0 hc0
  have HR1 := Aside0.mk hr1
  have HC1 := Aside0.mk hc1
  clear hr1 hc1
  have HB := Aside0.mk (Below.refl w.heap.size w)
  have H : ((terrlaw5_covers.f k).bind fun t382 => (if t382 = true then ((terrref5_Short.f a2).bind fun t383 => ((terrref5_Short.f a3).bind fun t384 => ((raster_Square.f a2 a3).bind fun bt386 => (if ((!(bt386.1 == (wrap64 (4 * t383))) || (!(bt386.2.1 == (wrap64 (4 * t384))))) || ((!(bt386.2.2.1 == (wrap64 ((wrap64 (4 * t383)) + 4))) || (!(bt386.2.2.2 == (wrap64 ((wrap64 (4 * t384)) + 4))))))) = true then (some false) else (terrlaw5_RasterLines.l0 k l0 l1 (Int.tmod (wrap64 ((Int.tmod a2 64) + 64)) 64) (Int.tmod (wrap64 ((Int.tmod a3 64) + 64)) 64) ([] : List Int) l1 (l1.length : Int) 0 (wrap64 (4 * (Int.tmod (wrap64 ((Int.tmod a2 64) + 64)) 64))) (wrap64 (4 * (Int.tmod (wrap64 ((Int.tmod a3 64) + 64)) 64))) (wrap64 ((wrap64 (4 * (Int.tmod (wrap64 ((Int.tmod a2 64) + 64)) 64))) + 4)) (wrap64 ((wrap64 (4 * (Int.tmod (wrap64 ((Int.tmod a3 64) + 64)) 64))) + 4))))))) else (some false))) = some r := h
  clear h
  replace H := Option.bind_eq_some_iff.mp H
  obtain ⟨t382, A50, H⟩ := H
  replace H : (if t382 = true then ((terrref5_Short.f a2).bind fun t383 => ((terrref5_Short.f a3).bind fun t384 => ((raster_Square.f a2 a3).bind fun bt386 => (if ((!(bt386.1 == (wrap64 (4 * t383))) || (!(bt386.2.1 == (wrap64 (4 * t384))))) || ((!(bt386.2.2.1 == (wrap64 ((wrap64 (4 * t383)) + 4))) || (!(bt386.2.2.2 == (wrap64 ((wrap64 (4 * t384)) + 4))))))) = true then (some false) else (terrlaw5_RasterLines.l0 k l0 l1 (Int.tmod (wrap64 ((Int.tmod a2 64) + 64)) 64) (Int.tmod (wrap64 ((Int.tmod a3 64) + 64)) 64) ([] : List Int) l1 (l1.length : Int) 0 (wrap64 (4 * (Int.tmod (wrap64 ((Int.tmod a2 64) + 64)) 64))) (wrap64 (4 * (Int.tmod (wrap64 ((Int.tmod a3 64) + 64)) 64))) (wrap64 ((wrap64 (4 * (Int.tmod (wrap64 ((Int.tmod a2 64) + 64)) 64))) + 4)) (wrap64 ((wrap64 (4 * (Int.tmod (wrap64 ((Int.tmod a3 64) + 64)) 64))) + 4))))))) else (some false)) = some r := H
  have A5 := Aside0.mk A50
  clear A50
  by_cases c6 : t382 = true
  rotate_left
  · replace c6 := Bool.eq_false_iff.mpr c6
    subst c6
    have H1 : (some false) = some r := by rw [if_neg (show ¬ (false = true) by decide)] at H; exact H
    clear H
    have H := H1
    clear H1
    exact absurd (H.trans (congrArg some hr)) (by decide)
  subst c6
  have H1 : ((terrref5_Short.f a2).bind fun t383 => ((terrref5_Short.f a3).bind fun t384 => ((raster_Square.f a2 a3).bind fun bt386 => (if ((!(bt386.1 == (wrap64 (4 * t383))) || (!(bt386.2.1 == (wrap64 (4 * t384))))) || ((!(bt386.2.2.1 == (wrap64 ((wrap64 (4 * t383)) + 4))) || (!(bt386.2.2.2 == (wrap64 ((wrap64 (4 * t384)) + 4))))))) = true then (some false) else (terrlaw5_RasterLines.l0 k l0 l1 (Int.tmod (wrap64 ((Int.tmod a2 64) + 64)) 64) (Int.tmod (wrap64 ((Int.tmod a3 64) + 64)) 64) ([] : List Int) l1 (l1.length : Int) 0 (wrap64 (4 * (Int.tmod (wrap64 ((Int.tmod a2 64) + 64)) 64))) (wrap64 (4 * (Int.tmod (wrap64 ((Int.tmod a3 64) + 64)) 64))) (wrap64 ((wrap64 (4 * (Int.tmod (wrap64 ((Int.tmod a2 64) + 64)) 64))) + 4)) (wrap64 ((wrap64 (4 * (Int.tmod (wrap64 ((Int.tmod a3 64) + 64)) 64))) + 4))))))) = some r := by rw [if_pos rfl] at H; exact H
  clear H
  have H := H1
  clear H1
  replace H := Option.bind_eq_some_iff.mp H
  obtain ⟨t383, A70, H⟩ := H
  replace H : ((terrref5_Short.f a3).bind fun t384 => ((raster_Square.f a2 a3).bind fun bt386 => (if ((!(bt386.1 == (wrap64 (4 * t383))) || (!(bt386.2.1 == (wrap64 (4 * t384))))) || ((!(bt386.2.2.1 == (wrap64 ((wrap64 (4 * t383)) + 4))) || (!(bt386.2.2.2 == (wrap64 ((wrap64 (4 * t384)) + 4))))))) = true then (some false) else (terrlaw5_RasterLines.l0 k l0 l1 (Int.tmod (wrap64 ((Int.tmod a2 64) + 64)) 64) (Int.tmod (wrap64 ((Int.tmod a3 64) + 64)) 64) ([] : List Int) l1 (l1.length : Int) 0 (wrap64 (4 * (Int.tmod (wrap64 ((Int.tmod a2 64) + 64)) 64))) (wrap64 (4 * (Int.tmod (wrap64 ((Int.tmod a3 64) + 64)) 64))) (wrap64 ((wrap64 (4 * (Int.tmod (wrap64 ((Int.tmod a2 64) + 64)) 64))) + 4)) (wrap64 ((wrap64 (4 * (Int.tmod (wrap64 ((Int.tmod a3 64) + 64)) 64))) + 4)))))) = some r := H
  have A7 := Aside0.mk A70
  clear A70
  replace H := Option.bind_eq_some_iff.mp H
  obtain ⟨t384, A80, H⟩ := H
  replace H : ((raster_Square.f a2 a3).bind fun bt386 => (if ((!(bt386.1 == (wrap64 (4 * t383))) || (!(bt386.2.1 == (wrap64 (4 * t384))))) || ((!(bt386.2.2.1 == (wrap64 ((wrap64 (4 * t383)) + 4))) || (!(bt386.2.2.2 == (wrap64 ((wrap64 (4 * t384)) + 4))))))) = true then (some false) else (terrlaw5_RasterLines.l0 k l0 l1 (Int.tmod (wrap64 ((Int.tmod a2 64) + 64)) 64) (Int.tmod (wrap64 ((Int.tmod a3 64) + 64)) 64) ([] : List Int) l1 (l1.length : Int) 0 (wrap64 (4 * (Int.tmod (wrap64 ((Int.tmod a2 64) + 64)) 64))) (wrap64 (4 * (Int.tmod (wrap64 ((Int.tmod a3 64) + 64)) 64))) (wrap64 ((wrap64 (4 * (Int.tmod (wrap64 ((Int.tmod a2 64) + 64)) 64))) + 4)) (wrap64 ((wrap64 (4 * (Int.tmod (wrap64 ((Int.tmod a3 64) + 64)) 64))) + 4))))) = some r := H
  have A8 := Aside0.mk A80
  clear A80
  replace H := Option.bind_eq_some_iff.mp H
  obtain ⟨⟨t386, t387, t388, t389⟩, A90, H⟩ := H
  replace H : (if ((!(t386 == (wrap64 (4 * t383))) || (!(t387 == (wrap64 (4 * t384))))) || ((!(t388 == (wrap64 ((wrap64 (4 * t383)) + 4))) || (!(t389 == (wrap64 ((wrap64 (4 * t384)) + 4))))))) = true then (some false) else (terrlaw5_RasterLines.l0 k l0 l1 (Int.tmod (wrap64 ((Int.tmod a2 64) + 64)) 64) (Int.tmod (wrap64 ((Int.tmod a3 64) + 64)) 64) ([] : List Int) l1 (l1.length : Int) 0 (wrap64 (4 * (Int.tmod (wrap64 ((Int.tmod a2 64) + 64)) 64))) (wrap64 (4 * (Int.tmod (wrap64 ((Int.tmod a3 64) + 64)) 64))) (wrap64 ((wrap64 (4 * (Int.tmod (wrap64 ((Int.tmod a2 64) + 64)) 64))) + 4)) (wrap64 ((wrap64 (4 * (Int.tmod (wrap64 ((Int.tmod a3 64) + 64)) 64))) + 4)))) = some r := H
  have A9 := Aside0.mk A90
  clear A90
  by_cases c10 : ((!(t386 == (wrap64 (4 * t383))) || (!(t387 == (wrap64 (4 * t384))))) || ((!(t388 == (wrap64 ((wrap64 (4 * t383)) + 4))) || (!(t389 == (wrap64 ((wrap64 (4 * t384)) + 4))))))) = true
  · rw [if_pos c10] at H
    have c10b0 : ((!(t386 == (wrap64 (4 * t383))) || (!(t387 == (wrap64 (4 * t384))))) || ((!(t388 == (wrap64 ((wrap64 (4 * t383)) + 4))) || (!(t389 == (wrap64 ((wrap64 (4 * t384)) + 4))))))) = true := c10
    clear c10
    exact absurd (H.trans (congrArg some hr)) (by decide)
  rw [if_neg c10] at H
  have c10b0 : ((!(t386 == (wrap64 (4 * t383))) || (!(t387 == (wrap64 (4 * t384))))) || ((!(t388 == (wrap64 ((wrap64 (4 * t383)) + 4))) || (!(t389 == (wrap64 ((wrap64 (4 * t384)) + 4))))))) = false := by simpa using c10
  clear c10
  have H' := Aside0.mk H
  clear H
  go_enter Try.func14, Try.ntmps14
  try go_wp2_with (first | ((with_reducible refine gate_callee (f := 38) rfl ?_); refine goesL_ (some 25) rfl rfl Try.func38 (by kernel_rfl) rfl #[] rfl (by (try simp only [List.map_toArray, List.map_cons, List.map_nil]); first | done | rfl | (simp only [List.length_drop, List.length_take]; rfl)) ?_; (with_reducible refine (terrlaw5_covers.calls k  true _ A5.out).mono ?_); rintro e w11 ⟨rfl, hb⟩; refine ⟨_, rfl, ?_⟩; replace HB := Aside0.mk (below_step (by repeat (first | (with_reducible first | exact HB.out | apply below_alloc | apply pw_below_drewN | apply below_drew1) | exact HB.out)) hb); (try clear hb); (try clear hb2); (try clear hk); (try clear hi)) | ((with_reducible refine gate_callee (f := 50) rfl ?_); refine goesL_ (some 28) rfl rfl Try.func50 (by kernel_rfl) rfl #[.int .i64 a2] rfl (by (try simp only [List.map_toArray, List.map_cons, List.map_nil]); first | done | rfl | (simp only [List.length_drop, List.length_take]; rfl)) ?_; (with_reducible refine (terrref5_Short.calls a2 t383 _ A7.out).mono ?_); rintro e w12 ⟨rfl, hb⟩; refine ⟨_, rfl, ?_⟩; replace HB := Aside0.mk (below_step (by repeat (first | (with_reducible first | exact HB.out | apply below_alloc | apply pw_below_drewN | apply below_drew1) | exact HB.out)) hb); (try clear hb); (try clear hb2); (try clear hk); (try clear hi)) | ((with_reducible refine gate_callee (f := 50) rfl ?_); refine goesL_ (some 31) rfl rfl Try.func50 (by kernel_rfl) rfl #[.int .i64 a3] rfl (by (try simp only [List.map_toArray, List.map_cons, List.map_nil]); first | done | rfl | (simp only [List.length_drop, List.length_take]; rfl)) ?_; (with_reducible refine (terrref5_Short.calls a3 t384 _ A8.out).mono ?_); rintro e w13 ⟨rfl, hb⟩; refine ⟨_, rfl, ?_⟩; replace HB := Aside0.mk (below_step (by repeat (first | (with_reducible first | exact HB.out | apply below_alloc | apply pw_below_drewN | apply below_drew1) | exact HB.out)) hb); (try clear hb); (try clear hb2); (try clear hk); (try clear hi)) | ((with_reducible refine gate_dst (N := 9) rfl ?_); (try (refine gate_guard (by rfl) ?_; dsimp only)); refine box_event ?hg (N := 9) ?hd (cs := #[.int .i64 0, .int .i64 0]) (t := 40) ?hr ?_; (case hd => rfl); (case hg => rfl); (case hr => first | (go_simp; done) | (go_simp; rfl)); intro gb385 hg w14 hbox hb; have BK385 := Aside0.mk (hbox); have GW385 := Aside0.mk ((by rw [hg]; exact (below_size (by repeat (first | (with_reducible first | exact HB.out | apply below_alloc | apply pw_below_drewN | apply below_drew1) | exact HB.out))) : w.heap.size ≤ gb385)); have GE385 := Aside0.mk ((by rw [hg]; exact (below_size (by repeat (first | (with_reducible first | exact HB.out | apply below_alloc | apply pw_below_drewN | apply below_drew1) | exact HB.out))) : w.heap.size ≤ gb385)); replace HB := Aside0.mk (below_step (by repeat (first | (with_reducible first | exact HB.out | apply below_alloc | apply pw_below_drewN | apply below_drew1) | exact HB.out)) hb); clear hb hbox hg; have hcz15_0 : w14.cell? ⟨gb385, 0, none⟩ = some (.int .i64 0) := (blk_cell BK385.out 0).trans rfl; have hcz15_1 : w14.cell? ⟨gb385, 1, none⟩ = some (.int .i64 0) := (blk_cell BK385.out 1).trans rfl; have hfz15_0 := blk_frozen BK385.out 0; have hfz15_1 := blk_frozen BK385.out 1))
  have n0_ : Aside0 (((w14.setCell ⟨gb385, 0, none⟩ (.int .i64 (wrap64 (4 * t383)))).setCell ⟨gb385, 1, none⟩ (.int .i64 (wrap64 (4 * t384)))).heap[gb385]? = some (.cells #[.int .i64 (wrap64 (4 * t383)), .int .i64 (wrap64 (4 * t384))] 40 (0, 0))) := ⟨by (with_reducible repeat (first | refine blk_drewN ?_ _ | refine blk_drew ?_ | refine blk_alloc ?_ _)); refine blk_put (cs := #[.int .i64 (wrap64 (4 * t383)), .int .i64 0]) ?_ 1 _ rfl; (with_reducible repeat (first | refine blk_drewN ?_ _ | refine blk_drew ?_ | refine blk_alloc ?_ _)); refine blk_put (cs := #[.int .i64 0, .int .i64 0]) ?_ 0 _ rfl; (with_reducible repeat (first | refine blk_drewN ?_ _ | refine blk_drew ?_ | refine blk_alloc ?_ _)); exact BK385.out⟩
  have n1_ : Aside0 (Below w.heap.size w ((w14.setCell ⟨gb385, 0, none⟩ (.int .i64 (wrap64 (4 * t383)))).setCell ⟨gb385, 1, none⟩ (.int .i64 (wrap64 (4 * t384))))) := ⟨by repeat (first | (with_reducible first | exact HB.out | apply below_alloc | apply pw_below_drewN | apply below_drew1 | refine below_set ?_ GE385.out) | exact HB.out)⟩
  (try clear BK385)
  (try clear HB)
  generalize ((w14.setCell ⟨gb385, 0, none⟩ (.int .i64 (wrap64 (4 * t383)))).setCell ⟨gb385, 1, none⟩ (.int .i64 (wrap64 (4 * t384)))) = w16 at n0_ n1_ ⊢
  have BK385 := n0_
  have HB := n1_
  clear n0_ n1_
  replace BK385 := Aside0.mk (blk_drew BK385.out)
  replace HB := Aside0.mk (below_drew1 HB.out)
  refine start_ (n := 13) (S := fun w' => w'.cell? ⟨gb385, 0, none⟩ = some (.int .i64 (wrap64 (4 * t383))) ∧ w'.cell? ⟨gb385, 1, none⟩ = some (.int .i64 (wrap64 (4 * t384)))) (ds := []) #[false, false, false, false, false, false, false, false, false, false, false, false, false] (by kernel_rfl) rfl rfl ⟨(blk_cell BK385.out 0).trans rfl, (blk_cell BK385.out 1).trans rfl⟩ (fun hHeld => ?_); refine with_tabW terrlaw5_RasterLines.tab4 terrlaw5_RasterLines.bits4 (fun HT_ HW_ => ?_)
  generalize w16.drew = w17 at BK385 HB hHeld ⊢
  refine pure_ (i := 0) (N := some 34) (v := ?_) (a' := ?_) #[true, false, false, false, false, false, false, false, false, false, false, false, false] rfl rfl (any_of HT_.out (by kernel_rfl)) (fun _ _ _ h => h) (Or.inl ⟨by rfl, ?_⟩) ?_ ?_
  rotate_left
  · intro w'
    go_simp
    with_reducible rfl
  rotate_left
  · simp only [Act.put, List.setIfInBounds_toArray, List.set_cons_zero, List.set_cons_succ, i64_w, i32_w]
    rfl
  refine pure_ (i := 1) (N := some 35) (v := ?_) (a' := ?_) #[true, true, false, false, false, false, false, false, false, false, false, false, false] rfl rfl (any_of HT_.out (by kernel_rfl)) (fun _ _ _ h => h) (Or.inl ⟨by rfl, ?_⟩) ?_ ?_
  rotate_left
  · intro w'
    go_simp
    with_reducible rfl
  rotate_left
  · simp only [Act.put, List.setIfInBounds_toArray, List.set_cons_zero, List.set_cons_succ, i64_w, i32_w]
    rfl
  refine pure_ (i := 4) (N := some 38) (v := ?_) (a' := ?_) #[true, true, false, false, true, false, false, false, false, false, false, false, false] rfl rfl (any_of HT_.out (by kernel_rfl)) (fun _ _ _ h => h) (Or.inl ⟨by rfl, ?_⟩) ?_ ?_
  rotate_left
  · intro w'
    go_simp
    with_reducible rfl
  rotate_left
  · simp only [Act.put, List.setIfInBounds_toArray, List.set_cons_zero, List.set_cons_succ, i64_w, i32_w]
    rfl
  refine pure_ (i := 7) (N := some 41) (v := ?_) (a' := ?_) #[true, true, false, false, true, false, false, true, false, false, false, false, false] rfl rfl (any_of HT_.out (by kernel_rfl)) (fun _ _ _ h => h) (Or.inl ⟨by rfl, ?_⟩) ?_ ?_
  rotate_left
  · intro w'
    go_simp
    with_reducible rfl
  rotate_left
  · simp only [Act.put, List.setIfInBounds_toArray, List.set_cons_zero, List.set_cons_succ, i64_w, i32_w]
    rfl
  refine take_ (i := 3) (N := some 37) (v := ?_) (a' := ?_) #[true, true, false, true, true, false, false, true, false, false, false, false, false] rfl rfl (take_ofW HT_.out HW_.out (by kernel_rfl)) (fun _ _ _ h => h) (Or.inl ⟨by rfl, ?_⟩) hHeld ?_ ?_
  rotate_left
  · rintro w' ⟨s0, s1⟩
    go_simp
    with_reducible rfl
  rotate_left
  · simp only [Act.put, List.setIfInBounds_toArray, List.set_cons_zero, List.set_cons_succ, i64_w, i32_w]
    rfl
  refine take_ (i := 5) (N := some 39) (v := ?_) (a' := ?_) #[true, true, false, true, true, true, false, true, false, false, false, false, false] rfl rfl (take_ofW HT_.out HW_.out (by kernel_rfl)) (fun _ _ _ h => h) (Or.inl ⟨by rfl, ?_⟩) hHeld ?_ ?_
  rotate_left
  · rintro w' ⟨s0, s1⟩
    go_simp
    with_reducible rfl
  rotate_left
  · simp only [Act.put, List.setIfInBounds_toArray, List.set_cons_zero, List.set_cons_succ, i64_w, i32_w]
    rfl
  refine pure_ (i := 6) (N := some 40) (v := ?_) (a' := ?_) #[true, true, false, true, true, true, true, true, false, false, false, false, false] rfl rfl (any_of HT_.out (by kernel_rfl)) (fun _ _ _ h => h) (Or.inl ⟨by rfl, ?_⟩) ?_ ?_
  rotate_left
  · intro w'
    go_simp
    with_reducible rfl
  rotate_left
  · simp only [Act.put, List.setIfInBounds_toArray, List.set_cons_zero, List.set_cons_succ, i64_w, i32_w]
    rfl
  refine take_ (i := 8) (N := some 42) (v := ?_) (a' := ?_) #[true, true, false, true, true, true, true, true, true, false, false, false, false] rfl rfl (take_ofW HT_.out HW_.out (by kernel_rfl)) (fun _ _ _ h => h) (Or.inl ⟨by rfl, ?_⟩) hHeld ?_ ?_
  rotate_left
  · rintro w' ⟨s0, s1⟩
    go_simp
    with_reducible rfl
  rotate_left
  · simp only [Act.put, List.setIfInBounds_toArray, List.set_cons_zero, List.set_cons_succ, i64_w, i32_w]
    rfl
  refine pure_ (i := 9) (N := some 43) (v := ?_) (a' := ?_) #[true, true, false, true, true, true, true, true, true, true, false, false, false] rfl rfl (any_of HT_.out (by kernel_rfl)) (fun _ _ _ h => h) (Or.inl ⟨by rfl, ?_⟩) ?_ ?_
  rotate_left
  · intro w'
    go_simp
    with_reducible rfl
  rotate_left
  · simp only [Act.put, List.setIfInBounds_toArray, List.set_cons_zero, List.set_cons_succ, i64_w, i32_w]
    rfl
  refine pure_ (i := 10) (N := some 44) (v := ?_) (a' := ?_) #[true, true, false, true, true, true, true, true, true, true, true, false, false] rfl rfl (any_of HT_.out (by kernel_rfl)) (fun _ _ _ h => h) (Or.inl ⟨by rfl, ?_⟩) ?_ ?_
  rotate_left
  · intro w'
    go_simp
    with_reducible rfl
  rotate_left
  · simp only [Act.put, List.setIfInBounds_toArray, List.set_cons_zero, List.set_cons_succ, i64_w, i32_w]
    rfl
  refine pure_ (i := 11) (N := some 45) (v := ?_) (a' := ?_) #[true, true, false, true, true, true, true, true, true, true, true, true, false] rfl rfl (any_of HT_.out (by kernel_rfl)) (fun _ _ _ h => h) (Or.inl ⟨by rfl, ?_⟩) ?_ ?_
  rotate_left
  · intro w'
    go_simp
    with_reducible rfl
  rotate_left
  · simp only [Act.put, List.setIfInBounds_toArray, List.set_cons_zero, List.set_cons_succ, i64_w, i32_w]
    rfl
  refine one_ (i := 2) (N := some 36) #[true, true, true, true, true, true, true, true, true, true, true, true, false] rfl rfl (one_of HT_.out (by kernel_rfl)) (by decide) (fun K hK => ?_)
  refine goes_ Try.func51 (by kernel_rfl) rfl #[.int .i64 a2, .int .i64 a3] (by rfl) rfl rfl (by (try simp only [List.map_toArray, List.map_cons, List.map_nil]); first | done | rfl | (simp only [List.length_drop, List.length_take]; rfl)) ?_
  with_reducible refine (raster_Square.calls a2 a3 t386 t387 t388 t389 _ A9.out).mono ?_
  rintro e w18 ⟨rfl, hb⟩
  refine ⟨_, rfl, ?_⟩
  replace BK385 := Aside0.mk (blk_below (g := gb385) (o := .cells #[.int .i64 (wrap64 (4 * t383)), .int .i64 (wrap64 (4 * t384))] 40 (0, 0)) (by (with_reducible repeat (first | refine blk_drewN ?_ _ | refine blk_drew ?_ | refine blk_alloc ?_ _)); exact BK385.out) hb)
  replace HB := Aside0.mk (below_step (by repeat (first | (with_reducible first | exact HB.out | apply below_alloc | apply pw_below_drewN | apply below_drew1 | refine below_set ?_ GE385.out) | exact HB.out)) hb)
  (try clear hb)
  (try clear hb2)
  (try clear hk)
  (try clear hi)
  refine hK.out _ _ ⟨(blk_cell BK385.out 0).trans rfl, (blk_cell BK385.out 1).trans rfl⟩ (fun hHeld => ?_)
  clear hK K
  refine norm_ (a' := ?_) ?_ ?_
  rotate_left
  · show Act.put _ (some 36) _ = _
    simp only [Act.put, List.setIfInBounds_toArray, List.set_cons_zero, List.set_cons_succ, i64_w, i32_w]
    rfl
  refine pure_ (i := 12) (N := some 46) (v := ?_) (a' := ?_) #[true, true, true, true, true, true, true, true, true, true, true, true, true] rfl rfl (any_of HT_.out (by kernel_rfl)) (fun _ _ _ h => h) (Or.inl ⟨by rfl, ?_⟩) ?_ ?_
  rotate_left
  · intro w'
    go_simp
    with_reducible rfl
  rotate_left
  · simp only [Act.put, List.setIfInBounds_toArray, List.set_cons_zero, List.set_cons_succ, i64_w, i32_w]
    rfl
  refine done_ (done_of HT_.out (by kernel_rfl)) ?_
  try go_wp2_with (first | ((with_reducible refine gate_dst (N := 10) rfl ?_); (try (refine gate_guard (by rfl) ?_; dsimp only)); refine box_event ?hg (N := 10) ?hd (cs := #[.int .i64 0, .int .i64 0, .int .i64 0, .int .i64 0]) (t := 42) ?hr ?_; (case hd => rfl); (case hg => rfl); (case hr => first | (go_simp; done) | (go_simp; rfl)); intro gb390 hg w19 hbox hb; have BK390 := Aside0.mk (hbox); have GW390 := Aside0.mk ((by rw [hg]; exact (below_size (by repeat (first | (with_reducible first | exact HB.out | apply below_alloc | apply pw_below_drewN | apply below_drew1 | refine below_set ?_ GE385.out) | exact HB.out))) : w.heap.size ≤ gb390)); have GE390 := Aside0.mk ((by rw [hg]; exact (below_size (by repeat (first | (with_reducible first | exact HB.out | apply below_alloc | apply pw_below_drewN | apply below_drew1 | refine below_set ?_ GE385.out) | exact HB.out))) : w.heap.size ≤ gb390)); have NB385_390 := Aside0.mk ((by rw [hg]; exact Nat.ne_of_lt (blk_lt (g := gb385) (o := .cells #[.int .i64 (wrap64 (4 * t383)), .int .i64 (wrap64 (4 * t384))] 40 (0, 0)) (by (with_reducible repeat (first | refine blk_drewN ?_ _ | refine blk_drew ?_ | refine blk_alloc ?_ _)); exact BK385.out)) : gb385 ≠ gb390)); have NB390_385 := Aside0.mk ((by rw [hg]; exact Nat.ne_of_gt (blk_lt (g := gb385) (o := .cells #[.int .i64 (wrap64 (4 * t383)), .int .i64 (wrap64 (4 * t384))] 40 (0, 0)) (by (with_reducible repeat (first | refine blk_drewN ?_ _ | refine blk_drew ?_ | refine blk_alloc ?_ _)); exact BK385.out)) : gb390 ≠ gb385)); replace BK385 := Aside0.mk (blk_below (g := gb385) (o := .cells #[.int .i64 (wrap64 (4 * t383)), .int .i64 (wrap64 (4 * t384))] 40 (0, 0)) (by (with_reducible repeat (first | refine blk_drewN ?_ _ | refine blk_drew ?_ | refine blk_alloc ?_ _)); exact BK385.out) hb); replace HB := Aside0.mk (below_step (by repeat (first | (with_reducible first | exact HB.out | apply below_alloc | apply pw_below_drewN | apply below_drew1 | refine below_set ?_ GE385.out) | exact HB.out)) hb); clear hb hbox hg; have hnb20 := NB390_385.out; have hnc20 := NB385_390.out; have hcz21_0 : w19.cell? ⟨gb390, 0, none⟩ = some (.int .i64 0) := (blk_cell BK390.out 0).trans rfl; have hcz21_1 : w19.cell? ⟨gb390, 1, none⟩ = some (.int .i64 0) := (blk_cell BK390.out 1).trans rfl; have hcz21_2 : w19.cell? ⟨gb390, 2, none⟩ = some (.int .i64 0) := (blk_cell BK390.out 2).trans rfl; have hcz21_3 : w19.cell? ⟨gb390, 3, none⟩ = some (.int .i64 0) := (blk_cell BK390.out 3).trans rfl; have hfz21_0 := blk_frozen BK390.out 0; have hfz21_1 := blk_frozen BK390.out 1; have hfz21_2 := blk_frozen BK390.out 2; have hfz21_3 := blk_frozen BK390.out 3))
  go_loopg [11, 70] k (fun kq v11 v70 w' => ∃ (x11_1 : List Int) (x70_1 : Int), v70 = .int .i64 x70_1 ∧ Aside0 (terrlaw5_RasterLines.l0 kq l0 l1 (Int.tmod (wrap64 ((Int.tmod a2 64) + 64)) 64) (Int.tmod (wrap64 ((Int.tmod a3 64) + 64)) 64) x11_1 l1 (l1.length : Int) x70_1 (wrap64 (4 * (Int.tmod (wrap64 ((Int.tmod a2 64) + 64)) 64))) (wrap64 (4 * (Int.tmod (wrap64 ((Int.tmod a3 64) + 64)) 64))) (wrap64 ((wrap64 (4 * (Int.tmod (wrap64 ((Int.tmod a2 64) + 64)) 64))) + 4)) (wrap64 ((wrap64 (4 * (Int.tmod (wrap64 ((Int.tmod a3 64) + 64)) 64))) + 4)) = some r) ∧ Aside0 (kq ≤ k) ∧ Aside0 (Kd.R (Kd.int .i64) 3 w' w.heap.size (fun _ => True) v11 x11_1) ∧ Aside0 (w'.heap[gb385]? = some (.cells #[.int .i64 (wrap64 (4 * t383)), .int .i64 (wrap64 (4 * t384))] 40 (0, 0))) ∧ Aside0 (w'.heap[gb390]? = some (.cells #[.int .i64 (wrap64 (4 * (Int.tmod (wrap64 ((Int.tmod a2 64) + 64)) 64))), .int .i64 (wrap64 (4 * (Int.tmod (wrap64 ((Int.tmod a3 64) + 64)) 64))), .int .i64 (wrap64 ((wrap64 (4 * (Int.tmod (wrap64 ((Int.tmod a2 64) + 64)) 64))) + 4)), .int .i64 (wrap64 ((wrap64 (4 * (Int.tmod (wrap64 ((Int.tmod a3 64) + 64)) 64))) + 4))] 42 (0, 0))) ∧ Aside0 (Below w.heap.size w w'))
  case atStart => exact ⟨(([] : List Int)), (0), (by first | rfl | (simp; done) | (simp [*]; done)), H', ⟨Nat.le_refl _⟩, ⟨by first | exact Kd.R_nil _ _ _ _ _ | exact Kd.N_nil _ _ _ _ _ | exact Kd.V_nil _ _ _ _ _ | exact Kd.Q_nil _ _ _ _ _ | exact Kd.S_nil _ _ _ _ _⟩, ⟨by (with_reducible repeat (first | refine blk_drewN ?_ _ | refine blk_drew ?_ | refine blk_alloc ?_ _)); refine blk_far ?_ NB385_390.out _; (with_reducible repeat (first | refine blk_drewN ?_ _ | refine blk_drew ?_ | refine blk_alloc ?_ _)); refine blk_far ?_ NB385_390.out _; (with_reducible repeat (first | refine blk_drewN ?_ _ | refine blk_drew ?_ | refine blk_alloc ?_ _)); refine blk_far ?_ NB385_390.out _; (with_reducible repeat (first | refine blk_drewN ?_ _ | refine blk_drew ?_ | refine blk_alloc ?_ _)); refine blk_far ?_ NB385_390.out _; (with_reducible repeat (first | refine blk_drewN ?_ _ | refine blk_drew ?_ | refine blk_alloc ?_ _)); exact BK385.out⟩, ⟨by (with_reducible repeat (first | refine blk_drewN ?_ _ | refine blk_drew ?_ | refine blk_alloc ?_ _)); refine blk_put (cs := #[.int .i64 (wrap64 (4 * (Int.tmod (wrap64 ((Int.tmod a2 64) + 64)) 64))), .int .i64 (wrap64 (4 * (Int.tmod (wrap64 ((Int.tmod a3 64) + 64)) 64))), .int .i64 (wrap64 ((wrap64 (4 * (Int.tmod (wrap64 ((Int.tmod a2 64) + 64)) 64))) + 4)), .int .i64 0]) ?_ 3 _ rfl; (with_reducible repeat (first | refine blk_drewN ?_ _ | refine blk_drew ?_ | refine blk_alloc ?_ _)); refine blk_put (cs := #[.int .i64 (wrap64 (4 * (Int.tmod (wrap64 ((Int.tmod a2 64) + 64)) 64))), .int .i64 (wrap64 (4 * (Int.tmod (wrap64 ((Int.tmod a3 64) + 64)) 64))), .int .i64 0, .int .i64 0]) ?_ 2 _ rfl; (with_reducible repeat (first | refine blk_drewN ?_ _ | refine blk_drew ?_ | refine blk_alloc ?_ _)); refine blk_put (cs := #[.int .i64 (wrap64 (4 * (Int.tmod (wrap64 ((Int.tmod a2 64) + 64)) 64))), .int .i64 0, .int .i64 0, .int .i64 0]) ?_ 1 _ rfl; (with_reducible repeat (first | refine blk_drewN ?_ _ | refine blk_drew ?_ | refine blk_alloc ?_ _)); refine blk_put (cs := #[.int .i64 0, .int .i64 0, .int .i64 0, .int .i64 0]) ?_ 0 _ rfl; (with_reducible repeat (first | refine blk_drewN ?_ _ | refine blk_drew ?_ | refine blk_alloc ?_ _)); exact BK390.out⟩, ⟨by repeat (first | (with_reducible first | exact HB.out | apply below_alloc | apply pw_below_drewN | apply below_drew1 | refine below_set ?_ GE385.out | refine below_set ?_ GE390.out) | exact HB.out)⟩⟩
  case round =>
    clear H'
    try clear c1
    try clear c6
    try clear c10
    try clear c10b0
    try clear hcz15_0
    try clear hcz15_1
    try clear hcz21_0
    try clear hcz21_1
    try clear hcz21_2
    try clear hcz21_3
    try clear hfz15_0
    try clear hfz15_1
    try clear hfz21_0
    try clear hfz21_1
    try clear hfz21_2
    try clear hfz21_3
    obtain ⟨x11_1, x70_1, rfl, HA, HK1, HO_11, BK385, BK390, HB⟩ := hrel
    cases gk with
    | zero => exact absurd HA.out (by simp [terrlaw5_RasterLines.l0])
    | succ k1 =>
      have H := HA.out
      clear HA
      simp only [terrlaw5_RasterLines.l0] at H
      by_cases c22 : x70_1 < (l1.length : Int)
      · rw [if_pos c22] at H
        have c22b0 : decide (x70_1 < (l1.length : Int)) = true := decide_eq_true c22
        clear c22
        by_cases c23 : 0 ≤ x70_1
        rotate_left
        · rw [if_neg c23] at H
          exact absurd H (by simp)
        rw [if_pos c23] at H
        have c23b0 : decide (0 ≤ x70_1) = true := decide_eq_true c23
        clear c23
        by_cases c24 : x70_1 < (l1.length : Int)
        rotate_left
        · rw [if_neg c24] at H
          exact absurd H (by simp)
        rw [if_pos c24] at H
        have c24b0 : decide (x70_1 < (l1.length : Int)) = true := decide_eq_true c24
        clear c24
        replace H := Option.bind_eq_some_iff.mp H
        obtain ⟨t393, A250, H⟩ := H
        replace H : ((terrref5_Short.f ((rd_T40 l1 x70_1).f1)).bind fun t394 => ((some (([t393, t394] : List Int) : List Int)).bind fun y395 => (if x11_1.length + y395.length < 17592186044416 then (terrlaw5_RasterLines.l0 k1 l0 l1 (Int.tmod (wrap64 ((Int.tmod a2 64) + 64)) 64) (Int.tmod (wrap64 ((Int.tmod a3 64) + 64)) 64) (x11_1 ++ y395) l1 (l1.length : Int) (wrap64 (x70_1 + 1)) (wrap64 (4 * (Int.tmod (wrap64 ((Int.tmod a2 64) + 64)) 64))) (wrap64 (4 * (Int.tmod (wrap64 ((Int.tmod a3 64) + 64)) 64))) (wrap64 ((wrap64 (4 * (Int.tmod (wrap64 ((Int.tmod a2 64) + 64)) 64))) + 4)) (wrap64 ((wrap64 (4 * (Int.tmod (wrap64 ((Int.tmod a3 64) + 64)) 64))) + 4))) else (none)))) = some r := H
        have A25 := Aside0.mk A250
        clear A250
        replace H := Option.bind_eq_some_iff.mp H
        obtain ⟨t394, A260, H⟩ := H
        replace H : ((some (([t393, t394] : List Int) : List Int)).bind fun y395 => (if x11_1.length + y395.length < 17592186044416 then (terrlaw5_RasterLines.l0 k1 l0 l1 (Int.tmod (wrap64 ((Int.tmod a2 64) + 64)) 64) (Int.tmod (wrap64 ((Int.tmod a3 64) + 64)) 64) (x11_1 ++ y395) l1 (l1.length : Int) (wrap64 (x70_1 + 1)) (wrap64 (4 * (Int.tmod (wrap64 ((Int.tmod a2 64) + 64)) 64))) (wrap64 (4 * (Int.tmod (wrap64 ((Int.tmod a3 64) + 64)) 64))) (wrap64 ((wrap64 (4 * (Int.tmod (wrap64 ((Int.tmod a2 64) + 64)) 64))) + 4)) (wrap64 ((wrap64 (4 * (Int.tmod (wrap64 ((Int.tmod a3 64) + 64)) 64))) + 4))) else (none))) = some r := H
        have A26 := Aside0.mk A260
        clear A260
        obtain ⟨y395, hy395⟩ : ∃ y_ : List Int, y_ = (([t393, t394] : List Int)) := ⟨_, rfl⟩
        replace H : (if x11_1.length + y395.length < 17592186044416 then (terrlaw5_RasterLines.l0 k1 l0 l1 (Int.tmod (wrap64 ((Int.tmod a2 64) + 64)) 64) (Int.tmod (wrap64 ((Int.tmod a3 64) + 64)) 64) (x11_1 ++ y395) l1 (l1.length : Int) (wrap64 (x70_1 + 1)) (wrap64 (4 * (Int.tmod (wrap64 ((Int.tmod a2 64) + 64)) 64))) (wrap64 (4 * (Int.tmod (wrap64 ((Int.tmod a3 64) + 64)) 64))) (wrap64 ((wrap64 (4 * (Int.tmod (wrap64 ((Int.tmod a2 64) + 64)) 64))) + 4)) (wrap64 ((wrap64 (4 * (Int.tmod (wrap64 ((Int.tmod a3 64) + 64)) 64))) + 4))) else (none)) = some r := by first | (rw [hy395]; with_reducible exact H) | (have H2_ := (Option.bind_some _ _).symm.trans H; rw [hy395]; with_reducible exact H2_) | (have H2_ := (Option.bind_some _ _).symm.trans H; with_reducible exact H2_) | with_reducible exact H | (rw [hy395]; exact H) | exact H
        have Ny395 := Aside0.mk hy395
        clear hy395
        by_cases c27 : x11_1.length + y395.length < 17592186044416
        rotate_left
        · rw [if_neg c27] at H
          exact absurd H (by simp)
        rw [if_pos c27] at H
        have LMc27 := Aside0.mk c27
        clear c27
        obtain ⟨y398, hy398⟩ : ∃ y_ : List Int, y_ = (x11_1 ++ y395) := ⟨_, rfl⟩
        replace H : (terrlaw5_RasterLines.l0 k1 l0 l1 (Int.tmod (wrap64 ((Int.tmod a2 64) + 64)) 64) (Int.tmod (wrap64 ((Int.tmod a3 64) + 64)) 64) y398 l1 (l1.length : Int) (wrap64 (x70_1 + 1)) (wrap64 (4 * (Int.tmod (wrap64 ((Int.tmod a2 64) + 64)) 64))) (wrap64 (4 * (Int.tmod (wrap64 ((Int.tmod a3 64) + 64)) 64))) (wrap64 ((wrap64 (4 * (Int.tmod (wrap64 ((Int.tmod a2 64) + 64)) 64))) + 4)) (wrap64 ((wrap64 (4 * (Int.tmod (wrap64 ((Int.tmod a3 64) + 64)) 64))) + 4))) = some r := by first | (rw [hy398]; with_reducible exact H) | (have H2_ := (Option.bind_some _ _).symm.trans H; rw [hy398]; with_reducible exact H2_) | (have H2_ := (Option.bind_some _ _).symm.trans H; with_reducible exact H2_) | with_reducible exact H | (rw [hy398]; exact H) | exact H
        have Ny398 := Aside0.mk hy398
        clear hy398
        have H' := Aside0.mk H
        clear H
        have p391 : 0 ≤ (x70_1 : Int) := of_decide_eq_true (by first | (with_reducible assumption) | assumption)
        have q391 : x70_1 < (l1.length : Int) := of_decide_eq_true (by first | (with_reducible assumption) | assumption)
        obtain ⟨ad391, e391, hx391_0, hx391_1⟩ := at_T40 HR1.out x70_1 p391 q391
        cases e391
        replace hx391_0 := (HB.out.cell (World.block_lt_of_cell? w _ hx391_0)).trans hx391_0
        replace hx391_1 := (HB.out.cell (World.block_lt_of_cell? w _ hx391_1)).trans hx391_1
        replace p391 := eq_true p391
        replace q391 := eq_true q391
        try go_wp2_with (first | ((with_reducible refine gate_dst (N := 13) rfl ?_); (try (refine gate_guard (by rfl) ?_; dsimp only)); refine box_event ?hg (N := 13) ?hd (cs := #[.int .i64 0, .int .i64 0]) (t := 40) ?hr ?_; (case hd => rfl); (case hg => rfl); (case hr => first | (go_simp; done) | (go_simp; rfl)); intro gb392 hg w28 hbox hb; have BK392 := Aside0.mk (hbox); have GW392 := Aside0.mk ((by rw [hg]; exact (below_size (by repeat (first | (with_reducible first | exact HB.out | apply below_alloc | apply pw_below_drewN | apply below_drew1 | refine below_set ?_ GE385.out | refine below_set ?_ GE390.out) | exact HB.out))) : w.heap.size ≤ gb392)); have GE392 := Aside0.mk ((by rw [hg]; exact (below_size (by repeat (first | (with_reducible first | exact HB.out | apply below_alloc | apply pw_below_drewN | apply below_drew1 | refine below_set ?_ GE385.out | refine below_set ?_ GE390.out) | exact HB.out))) : w.heap.size ≤ gb392)); have NB385_392 := Aside0.mk ((by rw [hg]; exact Nat.ne_of_lt (blk_lt (g := gb385) (o := .cells #[.int .i64 (wrap64 (4 * t383)), .int .i64 (wrap64 (4 * t384))] 40 (0, 0)) (by (with_reducible repeat (first | refine blk_drewN ?_ _ | refine blk_drew ?_ | refine blk_alloc ?_ _)); exact BK385.out)) : gb385 ≠ gb392)); have NB392_385 := Aside0.mk ((by rw [hg]; exact Nat.ne_of_gt (blk_lt (g := gb385) (o := .cells #[.int .i64 (wrap64 (4 * t383)), .int .i64 (wrap64 (4 * t384))] 40 (0, 0)) (by (with_reducible repeat (first | refine blk_drewN ?_ _ | refine blk_drew ?_ | refine blk_alloc ?_ _)); exact BK385.out)) : gb392 ≠ gb385)); have NB390_392 := Aside0.mk ((by rw [hg]; exact Nat.ne_of_lt (blk_lt (g := gb390) (o := .cells #[.int .i64 (wrap64 (4 * (Int.tmod (wrap64 ((Int.tmod a2 64) + 64)) 64))), .int .i64 (wrap64 (4 * (Int.tmod (wrap64 ((Int.tmod a3 64) + 64)) 64))), .int .i64 (wrap64 ((wrap64 (4 * (Int.tmod (wrap64 ((Int.tmod a2 64) + 64)) 64))) + 4)), .int .i64 (wrap64 ((wrap64 (4 * (Int.tmod (wrap64 ((Int.tmod a3 64) + 64)) 64))) + 4))] 42 (0, 0)) (by (with_reducible repeat (first | refine blk_drewN ?_ _ | refine blk_drew ?_ | refine blk_alloc ?_ _)); exact BK390.out)) : gb390 ≠ gb392)); have NB392_390 := Aside0.mk ((by rw [hg]; exact Nat.ne_of_gt (blk_lt (g := gb390) (o := .cells #[.int .i64 (wrap64 (4 * (Int.tmod (wrap64 ((Int.tmod a2 64) + 64)) 64))), .int .i64 (wrap64 (4 * (Int.tmod (wrap64 ((Int.tmod a3 64) + 64)) 64))), .int .i64 (wrap64 ((wrap64 (4 * (Int.tmod (wrap64 ((Int.tmod a2 64) + 64)) 64))) + 4)), .int .i64 (wrap64 ((wrap64 (4 * (Int.tmod (wrap64 ((Int.tmod a3 64) + 64)) 64))) + 4))] 42 (0, 0)) (by (with_reducible repeat (first | refine blk_drewN ?_ _ | refine blk_drew ?_ | refine blk_alloc ?_ _)); exact BK390.out)) : gb392 ≠ gb390)); replace HO_11 := Aside0.mk (Kd.R_below (by (with_reducible repeat (first | apply Kd.R_alloc | apply Kd.R_drewN | apply Kd.R_drew)); exact HO_11.out) hb); replace BK385 := Aside0.mk (blk_below (g := gb385) (o := .cells #[.int .i64 (wrap64 (4 * t383)), .int .i64 (wrap64 (4 * t384))] 40 (0, 0)) (by (with_reducible repeat (first | refine blk_drewN ?_ _ | refine blk_drew ?_ | refine blk_alloc ?_ _)); exact BK385.out) hb); replace BK390 := Aside0.mk (blk_below (g := gb390) (o := .cells #[.int .i64 (wrap64 (4 * (Int.tmod (wrap64 ((Int.tmod a2 64) + 64)) 64))), .int .i64 (wrap64 (4 * (Int.tmod (wrap64 ((Int.tmod a3 64) + 64)) 64))), .int .i64 (wrap64 ((wrap64 (4 * (Int.tmod (wrap64 ((Int.tmod a2 64) + 64)) 64))) + 4)), .int .i64 (wrap64 ((wrap64 (4 * (Int.tmod (wrap64 ((Int.tmod a3 64) + 64)) 64))) + 4))] 42 (0, 0)) (by (with_reducible repeat (first | refine blk_drewN ?_ _ | refine blk_drew ?_ | refine blk_alloc ?_ _)); exact BK390.out) hb); replace HB := Aside0.mk (below_step (by repeat (first | (with_reducible first | exact HB.out | apply below_alloc | apply pw_below_drewN | apply below_drew1 | refine below_set ?_ GE385.out | refine below_set ?_ GE390.out) | exact HB.out)) hb); clear hb hbox hg; have hnb29 := NB392_385.out; have hnc29 := NB385_392.out; have hnb30 := NB392_390.out; have hnc30 := NB390_392.out; have hcz31_0 : w28.cell? ⟨gb392, 0, none⟩ = some (.int .i64 0) := (blk_cell BK392.out 0).trans rfl; have hcz31_1 : w28.cell? ⟨gb392, 1, none⟩ = some (.int .i64 0) := (blk_cell BK392.out 1).trans rfl; have hfz31_0 := blk_frozen BK392.out 0; have hfz31_1 := blk_frozen BK392.out 1))
        have n0_ : Aside0 (Kd.R (Kd.int .i64) 3 ((w28.setCell ⟨gb392, 0, none⟩ (.int .i64 ((rd_T40 l1 x70_1).f0))).setCell ⟨gb392, 1, none⟩ (.int .i64 ((rd_T40 l1 x70_1).f1))) w.heap.size (fun _ => True) u11 x11_1) := ⟨by (with_reducible repeat (first | apply Kd.R_alloc | apply Kd.R_drewN | apply Kd.R_drew)); exact Kd.R_mono (Kd.R_far (p := ⟨gb392, 1, none⟩) (Kd.R_far (p := ⟨gb392, 0, none⟩) (Kd.R_types HO_11.out BK392.out (by decide)) (fun _ hk => hk.2) (.int .i64 ((rd_T40 l1 x70_1).f0))) (fun _ hk => hk.2) (.int .i64 ((rd_T40 l1 x70_1).f1))) (fun _ hk => trivial)⟩
        have n1_ : Aside0 (((w28.setCell ⟨gb392, 0, none⟩ (.int .i64 ((rd_T40 l1 x70_1).f0))).setCell ⟨gb392, 1, none⟩ (.int .i64 ((rd_T40 l1 x70_1).f1))).heap[gb385]? = some (.cells #[.int .i64 (wrap64 (4 * t383)), .int .i64 (wrap64 (4 * t384))] 40 (0, 0))) := ⟨by (with_reducible repeat (first | refine blk_drewN ?_ _ | refine blk_drew ?_ | refine blk_alloc ?_ _)); refine blk_far ?_ NB385_392.out _; (with_reducible repeat (first | refine blk_drewN ?_ _ | refine blk_drew ?_ | refine blk_alloc ?_ _)); refine blk_far ?_ NB385_392.out _; (with_reducible repeat (first | refine blk_drewN ?_ _ | refine blk_drew ?_ | refine blk_alloc ?_ _)); exact BK385.out⟩
        have n2_ : Aside0 (((w28.setCell ⟨gb392, 0, none⟩ (.int .i64 ((rd_T40 l1 x70_1).f0))).setCell ⟨gb392, 1, none⟩ (.int .i64 ((rd_T40 l1 x70_1).f1))).heap[gb390]? = some (.cells #[.int .i64 (wrap64 (4 * (Int.tmod (wrap64 ((Int.tmod a2 64) + 64)) 64))), .int .i64 (wrap64 (4 * (Int.tmod (wrap64 ((Int.tmod a3 64) + 64)) 64))), .int .i64 (wrap64 ((wrap64 (4 * (Int.tmod (wrap64 ((Int.tmod a2 64) + 64)) 64))) + 4)), .int .i64 (wrap64 ((wrap64 (4 * (Int.tmod (wrap64 ((Int.tmod a3 64) + 64)) 64))) + 4))] 42 (0, 0))) := ⟨by (with_reducible repeat (first | refine blk_drewN ?_ _ | refine blk_drew ?_ | refine blk_alloc ?_ _)); refine blk_far ?_ NB390_392.out _; (with_reducible repeat (first | refine blk_drewN ?_ _ | refine blk_drew ?_ | refine blk_alloc ?_ _)); refine blk_far ?_ NB390_392.out _; (with_reducible repeat (first | refine blk_drewN ?_ _ | refine blk_drew ?_ | refine blk_alloc ?_ _)); exact BK390.out⟩
        have n3_ : Aside0 (((w28.setCell ⟨gb392, 0, none⟩ (.int .i64 ((rd_T40 l1 x70_1).f0))).setCell ⟨gb392, 1, none⟩ (.int .i64 ((rd_T40 l1 x70_1).f1))).heap[gb392]? = some (.cells #[.int .i64 ((rd_T40 l1 x70_1).f0), .int .i64 ((rd_T40 l1 x70_1).f1)] 40 (0, 0))) := ⟨by (with_reducible repeat (first | refine blk_drewN ?_ _ | refine blk_drew ?_ | refine blk_alloc ?_ _)); refine blk_put (cs := #[.int .i64 ((rd_T40 l1 x70_1).f0), .int .i64 0]) ?_ 1 _ rfl; (with_reducible repeat (first | refine blk_drewN ?_ _ | refine blk_drew ?_ | refine blk_alloc ?_ _)); refine blk_put (cs := #[.int .i64 0, .int .i64 0]) ?_ 0 _ rfl; (with_reducible repeat (first | refine blk_drewN ?_ _ | refine blk_drew ?_ | refine blk_alloc ?_ _)); exact BK392.out⟩
        have n4_ : Aside0 (Below w.heap.size w ((w28.setCell ⟨gb392, 0, none⟩ (.int .i64 ((rd_T40 l1 x70_1).f0))).setCell ⟨gb392, 1, none⟩ (.int .i64 ((rd_T40 l1 x70_1).f1)))) := ⟨by repeat (first | (with_reducible first | exact HB.out | apply below_alloc | apply pw_below_drewN | apply below_drew1 | refine below_set ?_ GE385.out | refine below_set ?_ GE390.out | refine below_set ?_ GE392.out) | exact HB.out)⟩
        (try clear HO_11)
        (try clear BK385)
        (try clear BK390)
        (try clear BK392)
        (try clear HB)
        generalize ((w28.setCell ⟨gb392, 0, none⟩ (.int .i64 ((rd_T40 l1 x70_1).f0))).setCell ⟨gb392, 1, none⟩ (.int .i64 ((rd_T40 l1 x70_1).f1))) = w32 at n0_ n1_ n2_ n3_ n4_ ⊢
        have HO_11 := n0_
        have BK385 := n1_
        have BK390 := n2_
        have BK392 := n3_
        have HB := n4_
        clear n0_ n1_ n2_ n3_ n4_
        replace HO_11 := Aside0.mk (Kd.R_drew HO_11.out)
        replace BK385 := Aside0.mk (blk_drew BK385.out)
        replace BK390 := Aside0.mk (blk_drew BK390.out)
        replace BK392 := Aside0.mk (blk_drew BK392.out)
        replace HB := Aside0.mk (below_drew1 HB.out)
        refine start_ (n := 10) (S := fun w' => w'.cell? ⟨gb392, 0, none⟩ = some (.int .i64 ((rd_T40 l1 x70_1).f0)) ∧ w'.cell? ⟨gb392, 1, none⟩ = some (.int .i64 ((rd_T40 l1 x70_1).f1))) (ds := []) #[false, false, false, false, false, false, false, false, false, false] (by kernel_rfl) rfl rfl ⟨(blk_cell BK392.out 0).trans rfl, (blk_cell BK392.out 1).trans rfl⟩ (fun hHeld => ?_); refine with_tabW terrlaw5_RasterLines.tab12 terrlaw5_RasterLines.bits12 (fun HT_ HW_ => ?_)
        generalize w32.drew = w33 at HO_11 BK385 BK390 BK392 HB hHeld ⊢
        refine pure_ (i := 0) (N := some 74) (v := ?_) (a' := ?_) #[true, false, false, false, false, false, false, false, false, false] rfl rfl (any_of HT_.out (by kernel_rfl)) (fun _ _ _ h => h) (Or.inl ⟨by rfl, ?_⟩) ?_ ?_
        rotate_left
        · intro w'
          go_simp
          with_reducible rfl
        rotate_left
        · simp only [Act.put, List.setIfInBounds_toArray, List.set_cons_zero, List.set_cons_succ, i64_w, i32_w]
          rfl
        refine pure_ (i := 1) (N := some 75) (v := ?_) (a' := ?_) #[true, true, false, false, false, false, false, false, false, false] rfl rfl (any_of HT_.out (by kernel_rfl)) (fun _ _ _ h => h) (Or.inl ⟨by rfl, ?_⟩) ?_ ?_
        rotate_left
        · intro w'
          go_simp
          with_reducible rfl
        rotate_left
        · simp only [Act.put, List.setIfInBounds_toArray, List.set_cons_zero, List.set_cons_succ, i64_w, i32_w]
          rfl
        refine pure_ (i := 4) (N := some 78) (v := ?_) (a' := ?_) #[true, true, false, false, true, false, false, false, false, false] rfl rfl (any_of HT_.out (by kernel_rfl)) (fun _ _ _ h => h) (Or.inl ⟨by rfl, ?_⟩) ?_ ?_
        rotate_left
        · intro w'
          go_simp
          with_reducible rfl
        rotate_left
        · simp only [Act.put, List.setIfInBounds_toArray, List.set_cons_zero, List.set_cons_succ, i64_w, i32_w]
          rfl
        refine take_ (i := 2) (N := some 76) (v := ?_) (a' := ?_) #[true, true, true, false, true, false, false, false, false, false] rfl rfl (take_ofW HT_.out HW_.out (by kernel_rfl)) (fun _ _ _ h => h) (Or.inl ⟨by rfl, ?_⟩) hHeld ?_ ?_
        rotate_left
        · rintro w' ⟨s0, s1⟩
          go_simp
          with_reducible rfl
        rotate_left
        · simp only [Act.put, List.setIfInBounds_toArray, List.set_cons_zero, List.set_cons_succ, i64_w, i32_w]
          rfl
        refine take_ (i := 5) (N := some 79) (v := ?_) (a' := ?_) #[true, true, true, false, true, true, false, false, false, false] rfl rfl (take_ofW HT_.out HW_.out (by kernel_rfl)) (fun _ _ _ h => h) (Or.inl ⟨by rfl, ?_⟩) hHeld ?_ ?_
        rotate_left
        · rintro w' ⟨s0, s1⟩
          go_simp
          with_reducible rfl
        rotate_left
        · simp only [Act.put, List.setIfInBounds_toArray, List.set_cons_zero, List.set_cons_succ, i64_w, i32_w]
          rfl
        refine one_ (i := 3) (N := some 77) #[true, true, true, true, true, true, false, false, false, false] rfl rfl (one_of HT_.out (by kernel_rfl)) (by decide) (fun K hK => ?_)
        refine goes_ Try.func50 (by kernel_rfl) rfl #[.int .i64 ((rd_T40 l1 x70_1).f0)] (by rfl) rfl rfl (by (try simp only [List.map_toArray, List.map_cons, List.map_nil]); first | done | rfl | (simp only [List.length_drop, List.length_take]; rfl)) ?_
        with_reducible refine (terrref5_Short.calls ((rd_T40 l1 x70_1).f0) t393 _ A25.out).mono ?_
        rintro e w34 ⟨rfl, hb⟩
        refine ⟨_, rfl, ?_⟩
        replace HO_11 := Aside0.mk (Kd.R_below (by (with_reducible repeat (first | apply Kd.R_alloc | apply Kd.R_drewN | apply Kd.R_drew)); exact HO_11.out) hb)
        replace BK385 := Aside0.mk (blk_below (g := gb385) (o := .cells #[.int .i64 (wrap64 (4 * t383)), .int .i64 (wrap64 (4 * t384))] 40 (0, 0)) (by (with_reducible repeat (first | refine blk_drewN ?_ _ | refine blk_drew ?_ | refine blk_alloc ?_ _)); exact BK385.out) hb)
        replace BK390 := Aside0.mk (blk_below (g := gb390) (o := .cells #[.int .i64 (wrap64 (4 * (Int.tmod (wrap64 ((Int.tmod a2 64) + 64)) 64))), .int .i64 (wrap64 (4 * (Int.tmod (wrap64 ((Int.tmod a3 64) + 64)) 64))), .int .i64 (wrap64 ((wrap64 (4 * (Int.tmod (wrap64 ((Int.tmod a2 64) + 64)) 64))) + 4)), .int .i64 (wrap64 ((wrap64 (4 * (Int.tmod (wrap64 ((Int.tmod a3 64) + 64)) 64))) + 4))] 42 (0, 0)) (by (with_reducible repeat (first | refine blk_drewN ?_ _ | refine blk_drew ?_ | refine blk_alloc ?_ _)); exact BK390.out) hb)
        replace BK392 := Aside0.mk (blk_below (g := gb392) (o := .cells #[.int .i64 ((rd_T40 l1 x70_1).f0), .int .i64 ((rd_T40 l1 x70_1).f1)] 40 (0, 0)) (by (with_reducible repeat (first | refine blk_drewN ?_ _ | refine blk_drew ?_ | refine blk_alloc ?_ _)); exact BK392.out) hb)
        replace HB := Aside0.mk (below_step (by repeat (first | (with_reducible first | exact HB.out | apply below_alloc | apply pw_below_drewN | apply below_drew1 | refine below_set ?_ GE385.out | refine below_set ?_ GE390.out | refine below_set ?_ GE392.out) | exact HB.out)) hb)
        (try clear hb)
        (try clear hb2)
        (try clear hk)
        (try clear hi)
        refine hK.out _ _ ⟨(blk_cell BK392.out 0).trans rfl, (blk_cell BK392.out 1).trans rfl⟩ (fun hHeld => ?_)
        clear hK K
        refine norm_ (a' := ?_) ?_ ?_
        rotate_left
        · show Act.put _ (some 77) _ = _
          simp only [Act.put, List.setIfInBounds_toArray, List.set_cons_zero, List.set_cons_succ, i64_w, i32_w]
          rfl
        refine one_ (i := 6) (N := some 80) #[true, true, true, true, true, true, true, false, false, false] rfl rfl (one_of HT_.out (by kernel_rfl)) (by decide) (fun K hK => ?_)
        refine goes_ Try.func50 (by kernel_rfl) rfl #[.int .i64 ((rd_T40 l1 x70_1).f1)] (by rfl) rfl rfl (by (try simp only [List.map_toArray, List.map_cons, List.map_nil]); first | done | rfl | (simp only [List.length_drop, List.length_take]; rfl)) ?_
        with_reducible refine (terrref5_Short.calls ((rd_T40 l1 x70_1).f1) t394 _ A26.out).mono ?_
        rintro e w35 ⟨rfl, hb⟩
        refine ⟨_, rfl, ?_⟩
        replace HO_11 := Aside0.mk (Kd.R_below (by (with_reducible repeat (first | apply Kd.R_alloc | apply Kd.R_drewN | apply Kd.R_drew)); exact HO_11.out) hb)
        replace BK385 := Aside0.mk (blk_below (g := gb385) (o := .cells #[.int .i64 (wrap64 (4 * t383)), .int .i64 (wrap64 (4 * t384))] 40 (0, 0)) (by (with_reducible repeat (first | refine blk_drewN ?_ _ | refine blk_drew ?_ | refine blk_alloc ?_ _)); exact BK385.out) hb)
        replace BK390 := Aside0.mk (blk_below (g := gb390) (o := .cells #[.int .i64 (wrap64 (4 * (Int.tmod (wrap64 ((Int.tmod a2 64) + 64)) 64))), .int .i64 (wrap64 (4 * (Int.tmod (wrap64 ((Int.tmod a3 64) + 64)) 64))), .int .i64 (wrap64 ((wrap64 (4 * (Int.tmod (wrap64 ((Int.tmod a2 64) + 64)) 64))) + 4)), .int .i64 (wrap64 ((wrap64 (4 * (Int.tmod (wrap64 ((Int.tmod a3 64) + 64)) 64))) + 4))] 42 (0, 0)) (by (with_reducible repeat (first | refine blk_drewN ?_ _ | refine blk_drew ?_ | refine blk_alloc ?_ _)); exact BK390.out) hb)
        replace BK392 := Aside0.mk (blk_below (g := gb392) (o := .cells #[.int .i64 ((rd_T40 l1 x70_1).f0), .int .i64 ((rd_T40 l1 x70_1).f1)] 40 (0, 0)) (by (with_reducible repeat (first | refine blk_drewN ?_ _ | refine blk_drew ?_ | refine blk_alloc ?_ _)); exact BK392.out) hb)
        replace HB := Aside0.mk (below_step (by repeat (first | (with_reducible first | exact HB.out | apply below_alloc | apply pw_below_drewN | apply below_drew1 | refine below_set ?_ GE385.out | refine below_set ?_ GE390.out | refine below_set ?_ GE392.out) | exact HB.out)) hb)
        (try clear hb)
        (try clear hb2)
        (try clear hk)
        (try clear hi)
        refine hK.out _ _ ⟨(blk_cell BK392.out 0).trans rfl, (blk_cell BK392.out 1).trans rfl⟩ (fun hHeld => ?_)
        clear hK K
        refine norm_ (a' := ?_) ?_ ?_
        rotate_left
        · show Act.put _ (some 80) _ = _
          simp only [Act.put, List.setIfInBounds_toArray, List.set_cons_zero, List.set_cons_succ, i64_w, i32_w]
          rfl
        refine one_ (i := 7) (N := some 81) #[true, true, true, true, true, true, true, true, false, false] rfl rfl (one_of HT_.out (by kernel_rfl)) (by decide) (fun K hK => ?_)
        refine Kd.R_lit_step (Kd.int .i64) _ 3 ?hg (N := 81) ?hd (xs := ([t393, t394] : List Int)) (inner := [.int .i64 t393, .int .i64 t394]) (ok := fun _ => True) (okp := fun _ => True) ?hr ?hp (fun _ hk => hk) trivial (Below.refl _ _) (Nat.le_refl _) (by simp) ?_; (case hd => rfl); (case hg => rfl); (case hr => first | (go_simp; done) | (go_simp; rfl)); (case hp => exact (Reps.one (show Kd.M (Kd.int .i64) _ _ _ t393 [.int .i64 t393] from rfl) (Reps.one (show Kd.M (Kd.int .i64) _ _ _ t394 [.int .i64 t394] from rfl) (Reps.none _ _))))
        intro v396 w36 ho37 hb hg_ hnew_
        clear hg_ hnew_
        (first | rw [← Ny395.out] at ho37 | (simp only [Int.reduceToNat] at ho37; rw [← Ny395.out] at ho37))
        have HO397 := Aside0.mk (Kd.R_lower (Kd.R_new' ho37 (Kd.R_lt (by (with_reducible repeat (first | apply Kd.R_alloc | apply Kd.R_drewN | apply Kd.R_drew)); exact HO_11.out))) (below_size (by repeat (first | (with_reducible first | exact HB.out | apply below_alloc | apply pw_below_drewN | apply below_drew1 | refine below_set ?_ GE385.out | refine below_set ?_ GE390.out | refine below_set ?_ GE392.out) | exact HB.out))))
        replace HO_11 := Aside0.mk (Kd.R_elder' (by (with_reducible repeat (first | apply Kd.R_alloc | apply Kd.R_drewN | apply Kd.R_drew)); exact HO_11.out) (Kd.R_base ho37) hb)
        replace BK385 := Aside0.mk (blk_below (g := gb385) (o := .cells #[.int .i64 (wrap64 (4 * t383)), .int .i64 (wrap64 (4 * t384))] 40 (0, 0)) (by (with_reducible repeat (first | refine blk_drewN ?_ _ | refine blk_drew ?_ | refine blk_alloc ?_ _)); exact BK385.out) hb)
        replace BK390 := Aside0.mk (blk_below (g := gb390) (o := .cells #[.int .i64 (wrap64 (4 * (Int.tmod (wrap64 ((Int.tmod a2 64) + 64)) 64))), .int .i64 (wrap64 (4 * (Int.tmod (wrap64 ((Int.tmod a3 64) + 64)) 64))), .int .i64 (wrap64 ((wrap64 (4 * (Int.tmod (wrap64 ((Int.tmod a2 64) + 64)) 64))) + 4)), .int .i64 (wrap64 ((wrap64 (4 * (Int.tmod (wrap64 ((Int.tmod a3 64) + 64)) 64))) + 4))] 42 (0, 0)) (by (with_reducible repeat (first | refine blk_drewN ?_ _ | refine blk_drew ?_ | refine blk_alloc ?_ _)); exact BK390.out) hb)
        replace BK392 := Aside0.mk (blk_below (g := gb392) (o := .cells #[.int .i64 ((rd_T40 l1 x70_1).f0), .int .i64 ((rd_T40 l1 x70_1).f1)] 40 (0, 0)) (by (with_reducible repeat (first | refine blk_drewN ?_ _ | refine blk_drew ?_ | refine blk_alloc ?_ _)); exact BK392.out) hb)
        replace HB := Aside0.mk (below_step (by repeat (first | (with_reducible first | exact HB.out | apply below_alloc | apply pw_below_drewN | apply below_drew1 | refine below_set ?_ GE385.out | refine below_set ?_ GE390.out | refine below_set ?_ GE392.out) | exact HB.out)) hb)
        clear hb ho37
        obtain ⟨Ao39, co39, eo39⟩ := Kd.R_slice HO397.out
        (first | subst eo39 | (injection eo39 with f1_ f2_ f3_; have f4_ := f1_.symm; have f5_ := f3_.symm; clear f1_ f2_ f3_; subst f4_; subst f5_))
        refine hK.out _ _ ⟨(blk_cell BK392.out 0).trans rfl, (blk_cell BK392.out 1).trans rfl⟩ (fun hHeld => ?_)
        clear hK K
        refine norm_ (a' := ?_) ?_ ?_
        rotate_left
        · show Act.put _ (some 81) _ = _
          simp only [Act.put, List.setIfInBounds_toArray, List.set_cons_zero, List.set_cons_succ, i64_w, i32_w]
          rfl
        refine one_ (i := 8) (N := some 82) #[true, true, true, true, true, true, true, true, true, false] rfl rfl (one_of HT_.out (by kernel_rfl)) (by decide) (fun K hK => ?_)
        refine Kd.R_append_rows_step (Kd.int .i64) (w0 := w) w.heap.size (by rfl) (.tmp 74) (.tmp 81) 22 3 (.int .i64 0) 8 rfl Try.underlying22 info3 rfl (by decide) (by omega) u11 x11_1 y395 _ _ _ (fun k_ => some k_ ≠ (.slice Ao39 y395.length co39 : Value).ownBlock) (fun _ => False) rfl rfl ?aO ?aR (fun _ _ h => h) (fun _ h => h.elim) ?aF ?aB ?aS ?aL ?_
        (case aR => repeat (first | exact (Kd.R_reads' HO397.out).2.2 | (with_reducible refine Kd.C_alloc ?_ _) | (with_reducible refine Kd.C_drewN ?_ _) | (with_reducible refine Kd.C_drew ?_)))
        (case aB => exact (by repeat (first | (with_reducible first | exact HB.out | apply below_alloc | apply pw_below_drewN | apply below_drew1 | refine below_set ?_ GE385.out | refine below_set ?_ GE390.out | refine below_set ?_ GE392.out) | exact HB.out)))
        (case aF => exact (fun k_ hk => Kd.fresh' (Kd.R_lt (by (with_reducible repeat (first | apply Kd.R_alloc | apply Kd.R_drewN | apply Kd.R_drew)); exact HO397.out)) k_ hk))
        (case aO => exact (by (with_reducible repeat (first | apply Kd.R_alloc | apply Kd.R_drewN | apply Kd.R_drew)); exact Kd.R_mono HO_11.out (fun _ hk => hk.2)))
        (case aS => exact (below_size (by repeat (first | (with_reducible first | exact HB.out | apply below_alloc | apply pw_below_drewN | apply below_drew1 | refine below_set ?_ GE385.out | refine below_set ?_ GE390.out | refine below_set ?_ GE392.out) | exact HB.out))))
        (case aL => have := LMc27.out; omega)
        intro v399 w38 ho hb hg hat
        rw [← Ny398.out] at ho
        have HO400 := Aside0.mk (ho)
        replace BK385 := Aside0.mk (blk_grown (g := gb385) (o := .cells #[.int .i64 (wrap64 (4 * t383)), .int .i64 (wrap64 (4 * t384))] 40 (0, 0)) (by (with_reducible repeat (first | refine blk_drewN ?_ _ | refine blk_drew ?_ | refine blk_alloc ?_ _)); exact BK385.out) hg (Kd.R_ne HO_11.out BK385.out (by decide)))
        replace BK390 := Aside0.mk (blk_grown (g := gb390) (o := .cells #[.int .i64 (wrap64 (4 * (Int.tmod (wrap64 ((Int.tmod a2 64) + 64)) 64))), .int .i64 (wrap64 (4 * (Int.tmod (wrap64 ((Int.tmod a3 64) + 64)) 64))), .int .i64 (wrap64 ((wrap64 (4 * (Int.tmod (wrap64 ((Int.tmod a2 64) + 64)) 64))) + 4)), .int .i64 (wrap64 ((wrap64 (4 * (Int.tmod (wrap64 ((Int.tmod a3 64) + 64)) 64))) + 4))] 42 (0, 0)) (by (with_reducible repeat (first | refine blk_drewN ?_ _ | refine blk_drew ?_ | refine blk_alloc ?_ _)); exact BK390.out) hg (Kd.R_ne HO_11.out BK390.out (by decide)))
        replace BK392 := Aside0.mk (blk_grown (g := gb392) (o := .cells #[.int .i64 ((rd_T40 l1 x70_1).f0), .int .i64 ((rd_T40 l1 x70_1).f1)] 40 (0, 0)) (by (with_reducible repeat (first | refine blk_drewN ?_ _ | refine blk_drew ?_ | refine blk_alloc ?_ _)); exact BK392.out) hg (Kd.R_ne HO_11.out BK392.out (by decide)))
        replace HO397 := Aside0.mk (Kd.R_after (ok := (fun _ => True)) (by (with_reducible repeat (first | apply Kd.R_alloc | apply Kd.R_drewN | apply Kd.R_drew)); exact HO397.out) hg hat)
        replace HB := Aside0.mk (hb)
        clear HO_11 ho hb hg hat
        refine hK.out _ _ ⟨(blk_cell BK392.out 0).trans rfl, (blk_cell BK392.out 1).trans rfl⟩ (fun hHeld => ?_)
        clear hK K
        refine norm_ (a' := ?_) ?_ ?_
        rotate_left
        · show Act.put _ (some 82) _ = _
          simp only [Act.put, List.setIfInBounds_toArray, List.set_cons_zero, List.set_cons_succ, i64_w, i32_w]
          rfl
        refine pure_ (i := 9) (N := some 11) (v := ?_) (a' := ?_) #[true, true, true, true, true, true, true, true, true, true] rfl rfl (any_of HT_.out (by kernel_rfl)) (fun _ _ _ h => h) (Or.inl ⟨by rfl, ?_⟩) ?_ ?_
        rotate_left
        · intro w'
          go_simp
          with_reducible rfl
        rotate_left
        · simp only [Act.put, List.setIfInBounds_toArray, List.set_cons_zero, List.set_cons_succ, i64_w, i32_w]
          rfl
        refine done_ (done_of HT_.out (by kernel_rfl)) ?_
        try go_wp2
        go_roundg k1
        case measure => have := HK1.out; omega
        case rel => exact ⟨(y398), (wrap64 (x70_1 + 1)), (by first | rfl | (simp; done) | (simp [*]; done)), H', ⟨by have := HK1.out; omega⟩, ⟨by (with_reducible repeat (first | apply Kd.R_alloc | apply Kd.R_drewN | apply Kd.R_drew)); exact Kd.R_mono HO400.out (fun _ hk => trivial)⟩, ⟨by (with_reducible repeat (first | refine blk_drewN ?_ _ | refine blk_drew ?_ | refine blk_alloc ?_ _)); exact BK385.out⟩, ⟨by (with_reducible repeat (first | refine blk_drewN ?_ _ | refine blk_drew ?_ | refine blk_alloc ?_ _)); exact BK390.out⟩, ⟨by repeat (first | (with_reducible first | exact HB.out | apply below_alloc | apply pw_below_drewN | apply below_drew1 | refine below_set ?_ GE385.out | refine below_set ?_ GE390.out | refine below_set ?_ GE392.out) | exact HB.out)⟩⟩
      rw [if_neg c22] at H
      have c22b0 : decide (x70_1 < (l1.length : Int)) = false := decide_eq_false c22
      clear c22
      have HC40 := Aside0.mk H
      clear H
      go_upto_region 14 with (fail)
      go_cut [95] from 84 to 95 (fun v95 wc => ∃ (kq : Nat) (x95_39 : Bool), v95 = .bool x95_39 ∧ Aside0 (terrlaw5_RasterLines.j1 kq l0 l1 (Int.tmod (wrap64 ((Int.tmod a2 64) + 64)) 64) (Int.tmod (wrap64 ((Int.tmod a3 64) + 64)) 64) x95_39 (wrap64 (4 * (Int.tmod (wrap64 ((Int.tmod a2 64) + 64)) 64))) (wrap64 (4 * (Int.tmod (wrap64 ((Int.tmod a3 64) + 64)) 64))) (wrap64 ((wrap64 (4 * (Int.tmod (wrap64 ((Int.tmod a2 64) + 64)) 64))) + 4)) (wrap64 ((wrap64 (4 * (Int.tmod (wrap64 ((Int.tmod a3 64) + 64)) 64))) + 4)) = some r) ∧ Aside0 (kq ≤ k1) ∧ Aside0 (wc.heap[gb385]? = some (.cells #[.int .i64 (wrap64 (4 * t383)), .int .i64 (wrap64 (4 * t384))] 40 (0, 0))) ∧ Aside0 (wc.heap[gb390]? = some (.cells #[.int .i64 (wrap64 (4 * (Int.tmod (wrap64 ((Int.tmod a2 64) + 64)) 64))), .int .i64 (wrap64 (4 * (Int.tmod (wrap64 ((Int.tmod a3 64) + 64)) 64))), .int .i64 (wrap64 ((wrap64 (4 * (Int.tmod (wrap64 ((Int.tmod a2 64) + 64)) 64))) + 4)), .int .i64 (wrap64 ((wrap64 (4 * (Int.tmod (wrap64 ((Int.tmod a3 64) + 64)) 64))) + 4))] 42 (0, 0))) ∧ Aside0 (Below w.heap.size w wc))
      case first =>
        have H := HC40.out
        clear HC40
        replace H := Option.bind_eq_some_iff.mp H
        obtain ⟨⟨t401, t402, t403, t404⟩, A410, H⟩ := H
        replace H : (if ((!(t401 == (wrap64 (4 * (Int.tmod (wrap64 ((Int.tmod a2 64) + 64)) 64)))) || (!(t402 == (wrap64 (4 * (Int.tmod (wrap64 ((Int.tmod a3 64) + 64)) 64)))))) || ((!(t403 == (wrap64 ((wrap64 (4 * (Int.tmod (wrap64 ((Int.tmod a2 64) + 64)) 64))) + 4))) || (!(t404 == (wrap64 ((wrap64 (4 * (Int.tmod (wrap64 ((Int.tmod a3 64) + 64)) 64))) + 4))))))) = true then (terrlaw5_RasterLines.j1 k1 l0 l1 (Int.tmod (wrap64 ((Int.tmod a2 64) + 64)) 64) (Int.tmod (wrap64 ((Int.tmod a3 64) + 64)) 64) true (wrap64 (4 * (Int.tmod (wrap64 ((Int.tmod a2 64) + 64)) 64))) (wrap64 (4 * (Int.tmod (wrap64 ((Int.tmod a3 64) + 64)) 64))) (wrap64 ((wrap64 (4 * (Int.tmod (wrap64 ((Int.tmod a2 64) + 64)) 64))) + 4)) (wrap64 ((wrap64 (4 * (Int.tmod (wrap64 ((Int.tmod a3 64) + 64)) 64))) + 4))) else ((raster_Total.f k1 x11_1).bind fun t405 => ((terrlaw5_sum.f k1 x11_1).bind fun t406 => (terrlaw5_RasterLines.j1 k1 l0 l1 (Int.tmod (wrap64 ((Int.tmod a2 64) + 64)) 64) (Int.tmod (wrap64 ((Int.tmod a3 64) + 64)) 64) (t405 != t406) (wrap64 (4 * (Int.tmod (wrap64 ((Int.tmod a2 64) + 64)) 64))) (wrap64 (4 * (Int.tmod (wrap64 ((Int.tmod a3 64) + 64)) 64))) (wrap64 ((wrap64 (4 * (Int.tmod (wrap64 ((Int.tmod a2 64) + 64)) 64))) + 4)) (wrap64 ((wrap64 (4 * (Int.tmod (wrap64 ((Int.tmod a3 64) + 64)) 64))) + 4)))))) = some r := H
        have A41 := Aside0.mk A410
        clear A410
        by_cases c42 : ((!(t401 == (wrap64 (4 * (Int.tmod (wrap64 ((Int.tmod a2 64) + 64)) 64)))) || (!(t402 == (wrap64 (4 * (Int.tmod (wrap64 ((Int.tmod a3 64) + 64)) 64)))))) || ((!(t403 == (wrap64 ((wrap64 (4 * (Int.tmod (wrap64 ((Int.tmod a2 64) + 64)) 64))) + 4))) || (!(t404 == (wrap64 ((wrap64 (4 * (Int.tmod (wrap64 ((Int.tmod a3 64) + 64)) 64))) + 4))))))) = true
        · rw [if_pos c42] at H
          have c42b0 : ((!(t401 == (wrap64 (4 * (Int.tmod (wrap64 ((Int.tmod a2 64) + 64)) 64)))) || (!(t402 == (wrap64 (4 * (Int.tmod (wrap64 ((Int.tmod a3 64) + 64)) 64)))))) || ((!(t403 == (wrap64 ((wrap64 (4 * (Int.tmod (wrap64 ((Int.tmod a2 64) + 64)) 64))) + 4))) || (!(t404 == (wrap64 ((wrap64 (4 * (Int.tmod (wrap64 ((Int.tmod a3 64) + 64)) 64))) + 4))))))) = true := c42
          clear c42
          (first | rw [c42b0] | (simp only [i64_w, i32_w]; rw [c42b0]) | skip)
          have H' := Aside0.mk H
          clear H
          try go_wp2
          replace HO_11 := Aside0.mk (Kd.R_drew HO_11.out)
          replace BK385 := Aside0.mk (blk_drew BK385.out)
          replace BK390 := Aside0.mk (blk_drew BK390.out)
          replace HB := Aside0.mk (below_drew1 HB.out)
          refine start_ (n := 12) (S := fun w' => w'.cell? ⟨gb390, 0, none⟩ = some (.int .i64 (wrap64 (4 * (Int.tmod (wrap64 ((Int.tmod a2 64) + 64)) 64)))) ∧ w'.cell? ⟨gb390, 1, none⟩ = some (.int .i64 (wrap64 (4 * (Int.tmod (wrap64 ((Int.tmod a3 64) + 64)) 64)))) ∧ w'.cell? ⟨gb390, 2, none⟩ = some (.int .i64 (wrap64 ((wrap64 (4 * (Int.tmod (wrap64 ((Int.tmod a2 64) + 64)) 64))) + 4))) ∧ w'.cell? ⟨gb390, 3, none⟩ = some (.int .i64 (wrap64 ((wrap64 (4 * (Int.tmod (wrap64 ((Int.tmod a3 64) + 64)) 64))) + 4)))) (ds := []) #[false, false, false, false, false, false, false, false, false, false, false, false] (by kernel_rfl) rfl rfl ⟨(blk_cell BK390.out 0).trans rfl, (blk_cell BK390.out 1).trans rfl, (blk_cell BK390.out 2).trans rfl, (blk_cell BK390.out 3).trans rfl⟩ (fun hHeld => ?_); refine with_tabW terrlaw5_RasterLines.tab14 terrlaw5_RasterLines.bits14 (fun HT_ HW_ => ?_)
          generalize wr.drew = w43 at HO_11 BK385 BK390 HB hHeld ⊢
          refine pure_ (i := 0) (N := some 84) (v := ?_) (a' := ?_) #[true, false, false, false, false, false, false, false, false, false, false, false] rfl rfl (any_of HT_.out (by kernel_rfl)) (fun _ _ _ h => h) (Or.inl ⟨by rfl, ?_⟩) ?_ ?_
          rotate_left
          · intro w'
            go_simp
            with_reducible rfl
          rotate_left
          · simp only [Act.put, List.setIfInBounds_toArray, List.set_cons_zero, List.set_cons_succ, i64_w, i32_w]
            rfl
          refine pure_ (i := 1) (N := some 85) (v := ?_) (a' := ?_) #[true, true, false, false, false, false, false, false, false, false, false, false] rfl rfl (any_of HT_.out (by kernel_rfl)) (fun _ _ _ h => h) (Or.inl ⟨by rfl, ?_⟩) ?_ ?_
          rotate_left
          · intro w'
            go_simp
            with_reducible rfl
          rotate_left
          · simp only [Act.put, List.setIfInBounds_toArray, List.set_cons_zero, List.set_cons_succ, i64_w, i32_w]
            rfl
          refine take_ (i := 3) (N := some 87) (v := ?_) (a' := ?_) #[true, true, false, true, false, false, false, false, false, false, false, false] rfl rfl (take_ofW HT_.out HW_.out (by kernel_rfl)) (fun _ _ _ h => h) (Or.inl ⟨by rfl, ?_⟩) hHeld ?_ ?_
          rotate_left
          · rintro w' ⟨s0, s1, s2, s3⟩
            go_simp
            with_reducible rfl
          rotate_left
          · simp only [Act.put, List.setIfInBounds_toArray, List.set_cons_zero, List.set_cons_succ, i64_w, i32_w]
            rfl
          refine one_ (i := 2) (N := some 86) #[true, true, true, true, false, false, false, false, false, false, false, false] rfl rfl (one_of HT_.out (by kernel_rfl)) (by decide) (fun K hK => ?_)
          refine goes_ Try.func51 (by kernel_rfl) rfl #[.int .i64 (Int.tmod (wrap64 ((Int.tmod a2 64) + 64)) 64), .int .i64 (Int.tmod (wrap64 ((Int.tmod a3 64) + 64)) 64)] (by rfl) rfl rfl (by (try simp only [List.map_toArray, List.map_cons, List.map_nil]); first | done | rfl | (simp only [List.length_drop, List.length_take]; rfl)) ?_
          with_reducible refine (raster_Square.calls (Int.tmod (wrap64 ((Int.tmod a2 64) + 64)) 64) (Int.tmod (wrap64 ((Int.tmod a3 64) + 64)) 64) t401 t402 t403 t404 _ A41.out).mono ?_
          rintro e w44 ⟨rfl, hb⟩
          refine ⟨_, rfl, ?_⟩
          replace HO_11 := Aside0.mk (Kd.R_below (by (with_reducible repeat (first | apply Kd.R_alloc | apply Kd.R_drewN | apply Kd.R_drew)); exact HO_11.out) hb)
          replace BK385 := Aside0.mk (blk_below (g := gb385) (o := .cells #[.int .i64 (wrap64 (4 * t383)), .int .i64 (wrap64 (4 * t384))] 40 (0, 0)) (by (with_reducible repeat (first | refine blk_drewN ?_ _ | refine blk_drew ?_ | refine blk_alloc ?_ _)); exact BK385.out) hb)
          replace BK390 := Aside0.mk (blk_below (g := gb390) (o := .cells #[.int .i64 (wrap64 (4 * (Int.tmod (wrap64 ((Int.tmod a2 64) + 64)) 64))), .int .i64 (wrap64 (4 * (Int.tmod (wrap64 ((Int.tmod a3 64) + 64)) 64))), .int .i64 (wrap64 ((wrap64 (4 * (Int.tmod (wrap64 ((Int.tmod a2 64) + 64)) 64))) + 4)), .int .i64 (wrap64 ((wrap64 (4 * (Int.tmod (wrap64 ((Int.tmod a3 64) + 64)) 64))) + 4))] 42 (0, 0)) (by (with_reducible repeat (first | refine blk_drewN ?_ _ | refine blk_drew ?_ | refine blk_alloc ?_ _)); exact BK390.out) hb)
          replace HB := Aside0.mk (below_step (by repeat (first | (with_reducible first | exact HB.out | apply below_alloc | apply pw_below_drewN | apply below_drew1 | refine below_set ?_ GE385.out | refine below_set ?_ GE390.out) | exact HB.out)) hb)
          (try clear hb)
          (try clear hb2)
          (try clear hk)
          (try clear hi)
          refine hK.out _ _ ⟨(blk_cell BK390.out 0).trans rfl, (blk_cell BK390.out 1).trans rfl, (blk_cell BK390.out 2).trans rfl, (blk_cell BK390.out 3).trans rfl⟩ (fun hHeld => ?_)
          clear hK K
          refine norm_ (a' := ?_) ?_ ?_
          rotate_left
          · show Act.put _ (some 86) _ = _
            simp only [Act.put, List.setIfInBounds_toArray, List.set_cons_zero, List.set_cons_succ, i64_w, i32_w]
            rfl
          refine pure_ (i := 4) (N := some 88) (v := ?_) (a' := ?_) #[true, true, true, true, true, false, false, false, false, false, false, false] rfl rfl (any_of HT_.out (by kernel_rfl)) (fun _ _ _ h => h) (Or.inl ⟨by rfl, ?_⟩) ?_ ?_
          rotate_left
          · intro w'
            go_simp
            with_reducible rfl
          rotate_left
          · simp only [Act.put, List.setIfInBounds_toArray, List.set_cons_zero, List.set_cons_succ, i64_w, i32_w]
            rfl
          refine pure_ (i := 5) (N := some 89) (v := ?_) (a' := ?_) #[true, true, true, true, true, true, false, false, false, false, false, false] rfl rfl (any_of HT_.out (by kernel_rfl)) (fun _ _ _ h => h) (Or.inl ⟨by rfl, ?_⟩) ?_ ?_
          rotate_left
          · intro w'
            go_simp
            with_reducible rfl
          rotate_left
          · simp only [Act.put, List.setIfInBounds_toArray, List.set_cons_zero, List.set_cons_succ, i64_w, i32_w]
            rfl
          refine pure_ (i := 6) (N := some 90) (v := undef) (a' := ?_) #[true, true, true, true, true, true, true, false, false, false, false, false] rfl rfl (any_of HT_.out (by kernel_rfl)) (fun _ _ _ h => h) (Or.inr ⟨by rfl, rfl⟩) ?_ ?_
          rotate_left
          · simp only [Act.put, List.setIfInBounds_toArray, List.set_cons_zero, List.set_cons_succ, i64_w, i32_w]
            rfl
          refine pure_ (i := 7) (N := some 91) (v := undef) (a' := ?_) #[true, true, true, true, true, true, true, true, false, false, false, false] rfl rfl (any_of HT_.out (by kernel_rfl)) (fun _ _ _ h => h) (Or.inr ⟨by rfl, rfl⟩) ?_ ?_
          rotate_left
          · simp only [Act.put, List.setIfInBounds_toArray, List.set_cons_zero, List.set_cons_succ, i64_w, i32_w]
            rfl
          refine pure_ (i := 8) (N := some 92) (v := undef) (a' := ?_) #[true, true, true, true, true, true, true, true, true, false, false, false] rfl rfl (any_of HT_.out (by kernel_rfl)) (fun _ _ _ h => h) (Or.inr ⟨by rfl, rfl⟩) ?_ ?_
          rotate_left
          · simp only [Act.put, List.setIfInBounds_toArray, List.set_cons_zero, List.set_cons_succ, i64_w, i32_w]
            rfl
          refine pure_ (i := 9) (N := some 93) (v := undef) (a' := ?_) #[true, true, true, true, true, true, true, true, true, true, false, false] rfl rfl (any_of HT_.out (by kernel_rfl)) (fun _ _ _ h => h) (Or.inr ⟨by rfl, rfl⟩) ?_ ?_
          rotate_left
          · simp only [Act.put, List.setIfInBounds_toArray, List.set_cons_zero, List.set_cons_succ, i64_w, i32_w]
            rfl
          refine pure_ (i := 10) (N := some 94) (v := undef) (a' := ?_) #[true, true, true, true, true, true, true, true, true, true, true, false] rfl rfl (any_of HT_.out (by kernel_rfl)) (fun _ _ _ h => h) (Or.inr ⟨by rfl, rfl⟩) ?_ ?_
          rotate_left
          · simp only [Act.put, List.setIfInBounds_toArray, List.set_cons_zero, List.set_cons_succ, i64_w, i32_w]
            rfl
          refine pure_ (i := 11) (N := some 95) (v := ?_) (a' := ?_) #[true, true, true, true, true, true, true, true, true, true, true, true] rfl rfl (any_of HT_.out (by kernel_rfl)) (fun _ _ _ h => h) (Or.inl ⟨by rfl, ?_⟩) ?_ ?_
          rotate_left
          · intro w'
            go_simp
            with_reducible rfl
          rotate_left
          · simp only [Act.put, List.setIfInBounds_toArray, List.set_cons_zero, List.set_cons_succ, i64_w, i32_w]
            rfl
          refine done_ (done_of HT_.out (by kernel_rfl)) ?_
          try go_wp2
          go_meet
          case rel => exact ⟨_, (true), (by first | rfl | (simp; done) | (simp [*]; done)), H', ⟨by have := HK1.out; first | omega | exact Nat.le_refl _⟩, ⟨by (with_reducible repeat (first | refine blk_drewN ?_ _ | refine blk_drew ?_ | refine blk_alloc ?_ _)); exact BK385.out⟩, ⟨by (with_reducible repeat (first | refine blk_drewN ?_ _ | refine blk_drew ?_ | refine blk_alloc ?_ _)); exact BK390.out⟩, ⟨by repeat (first | (with_reducible first | exact HB.out | apply below_alloc | apply pw_below_drewN | apply below_drew1 | refine below_set ?_ GE385.out | refine below_set ?_ GE390.out) | exact HB.out)⟩⟩
        rw [if_neg c42] at H
        have c42b0 : ((!(t401 == (wrap64 (4 * (Int.tmod (wrap64 ((Int.tmod a2 64) + 64)) 64)))) || (!(t402 == (wrap64 (4 * (Int.tmod (wrap64 ((Int.tmod a3 64) + 64)) 64)))))) || ((!(t403 == (wrap64 ((wrap64 (4 * (Int.tmod (wrap64 ((Int.tmod a2 64) + 64)) 64))) + 4))) || (!(t404 == (wrap64 ((wrap64 (4 * (Int.tmod (wrap64 ((Int.tmod a3 64) + 64)) 64))) + 4))))))) = false := by simpa using c42
        clear c42
        (first | rw [c42b0] | (simp only [i64_w, i32_w]; rw [c42b0]) | skip)
        replace H := Option.bind_eq_some_iff.mp H
        obtain ⟨t405, A450, H⟩ := H
        replace H : ((terrlaw5_sum.f k1 x11_1).bind fun t406 => (terrlaw5_RasterLines.j1 k1 l0 l1 (Int.tmod (wrap64 ((Int.tmod a2 64) + 64)) 64) (Int.tmod (wrap64 ((Int.tmod a3 64) + 64)) 64) (t405 != t406) (wrap64 (4 * (Int.tmod (wrap64 ((Int.tmod a2 64) + 64)) 64))) (wrap64 (4 * (Int.tmod (wrap64 ((Int.tmod a3 64) + 64)) 64))) (wrap64 ((wrap64 (4 * (Int.tmod (wrap64 ((Int.tmod a2 64) + 64)) 64))) + 4)) (wrap64 ((wrap64 (4 * (Int.tmod (wrap64 ((Int.tmod a3 64) + 64)) 64))) + 4)))) = some r := H
        have A45 := Aside0.mk A450
        clear A450
        replace H := Option.bind_eq_some_iff.mp H
        obtain ⟨t406, A460, H⟩ := H
        replace H : (terrlaw5_RasterLines.j1 k1 l0 l1 (Int.tmod (wrap64 ((Int.tmod a2 64) + 64)) 64) (Int.tmod (wrap64 ((Int.tmod a3 64) + 64)) 64) (t405 != t406) (wrap64 (4 * (Int.tmod (wrap64 ((Int.tmod a2 64) + 64)) 64))) (wrap64 (4 * (Int.tmod (wrap64 ((Int.tmod a3 64) + 64)) 64))) (wrap64 ((wrap64 (4 * (Int.tmod (wrap64 ((Int.tmod a2 64) + 64)) 64))) + 4)) (wrap64 ((wrap64 (4 * (Int.tmod (wrap64 ((Int.tmod a3 64) + 64)) 64))) + 4))) = some r := H
        have A46 := Aside0.mk A460
        clear A460
        have H' := Aside0.mk H
        clear H
        try go_wp2
        replace HO_11 := Aside0.mk (Kd.R_drew HO_11.out)
        replace BK385 := Aside0.mk (blk_drew BK385.out)
        replace BK390 := Aside0.mk (blk_drew BK390.out)
        replace HB := Aside0.mk (below_drew1 HB.out)
        refine start_ (n := 12) (S := fun w' => w'.cell? ⟨gb390, 0, none⟩ = some (.int .i64 (wrap64 (4 * (Int.tmod (wrap64 ((Int.tmod a2 64) + 64)) 64)))) ∧ w'.cell? ⟨gb390, 1, none⟩ = some (.int .i64 (wrap64 (4 * (Int.tmod (wrap64 ((Int.tmod a3 64) + 64)) 64)))) ∧ w'.cell? ⟨gb390, 2, none⟩ = some (.int .i64 (wrap64 ((wrap64 (4 * (Int.tmod (wrap64 ((Int.tmod a2 64) + 64)) 64))) + 4))) ∧ w'.cell? ⟨gb390, 3, none⟩ = some (.int .i64 (wrap64 ((wrap64 (4 * (Int.tmod (wrap64 ((Int.tmod a3 64) + 64)) 64))) + 4)))) (ds := []) #[false, false, false, false, false, false, false, false, false, false, false, false] (by kernel_rfl) rfl rfl ⟨(blk_cell BK390.out 0).trans rfl, (blk_cell BK390.out 1).trans rfl, (blk_cell BK390.out 2).trans rfl, (blk_cell BK390.out 3).trans rfl⟩ (fun hHeld => ?_); refine with_tabW terrlaw5_RasterLines.tab14 terrlaw5_RasterLines.bits14 (fun HT_ HW_ => ?_)
        generalize wr.drew = w47 at HO_11 BK385 BK390 HB hHeld ⊢
        refine pure_ (i := 0) (N := some 84) (v := ?_) (a' := ?_) #[true, false, false, false, false, false, false, false, false, false, false, false] rfl rfl (any_of HT_.out (by kernel_rfl)) (fun _ _ _ h => h) (Or.inl ⟨by rfl, ?_⟩) ?_ ?_
        rotate_left
        · intro w'
          go_simp
          with_reducible rfl
        rotate_left
        · simp only [Act.put, List.setIfInBounds_toArray, List.set_cons_zero, List.set_cons_succ, i64_w, i32_w]
          rfl
        refine pure_ (i := 1) (N := some 85) (v := ?_) (a' := ?_) #[true, true, false, false, false, false, false, false, false, false, false, false] rfl rfl (any_of HT_.out (by kernel_rfl)) (fun _ _ _ h => h) (Or.inl ⟨by rfl, ?_⟩) ?_ ?_
        rotate_left
        · intro w'
          go_simp
          with_reducible rfl
        rotate_left
        · simp only [Act.put, List.setIfInBounds_toArray, List.set_cons_zero, List.set_cons_succ, i64_w, i32_w]
          rfl
        refine take_ (i := 3) (N := some 87) (v := ?_) (a' := ?_) #[true, true, false, true, false, false, false, false, false, false, false, false] rfl rfl (take_ofW HT_.out HW_.out (by kernel_rfl)) (fun _ _ _ h => h) (Or.inl ⟨by rfl, ?_⟩) hHeld ?_ ?_
        rotate_left
        · rintro w' ⟨s0, s1, s2, s3⟩
          go_simp
          with_reducible rfl
        rotate_left
        · simp only [Act.put, List.setIfInBounds_toArray, List.set_cons_zero, List.set_cons_succ, i64_w, i32_w]
          rfl
        refine one_ (i := 2) (N := some 86) #[true, true, true, true, false, false, false, false, false, false, false, false] rfl rfl (one_of HT_.out (by kernel_rfl)) (by decide) (fun K hK => ?_)
        refine goes_ Try.func51 (by kernel_rfl) rfl #[.int .i64 (Int.tmod (wrap64 ((Int.tmod a2 64) + 64)) 64), .int .i64 (Int.tmod (wrap64 ((Int.tmod a3 64) + 64)) 64)] (by rfl) rfl rfl (by (try simp only [List.map_toArray, List.map_cons, List.map_nil]); first | done | rfl | (simp only [List.length_drop, List.length_take]; rfl)) ?_
        with_reducible refine (raster_Square.calls (Int.tmod (wrap64 ((Int.tmod a2 64) + 64)) 64) (Int.tmod (wrap64 ((Int.tmod a3 64) + 64)) 64) t401 t402 t403 t404 _ A41.out).mono ?_
        rintro e w48 ⟨rfl, hb⟩
        refine ⟨_, rfl, ?_⟩
        replace HO_11 := Aside0.mk (Kd.R_below (by (with_reducible repeat (first | apply Kd.R_alloc | apply Kd.R_drewN | apply Kd.R_drew)); exact HO_11.out) hb)
        replace BK385 := Aside0.mk (blk_below (g := gb385) (o := .cells #[.int .i64 (wrap64 (4 * t383)), .int .i64 (wrap64 (4 * t384))] 40 (0, 0)) (by (with_reducible repeat (first | refine blk_drewN ?_ _ | refine blk_drew ?_ | refine blk_alloc ?_ _)); exact BK385.out) hb)
        replace BK390 := Aside0.mk (blk_below (g := gb390) (o := .cells #[.int .i64 (wrap64 (4 * (Int.tmod (wrap64 ((Int.tmod a2 64) + 64)) 64))), .int .i64 (wrap64 (4 * (Int.tmod (wrap64 ((Int.tmod a3 64) + 64)) 64))), .int .i64 (wrap64 ((wrap64 (4 * (Int.tmod (wrap64 ((Int.tmod a2 64) + 64)) 64))) + 4)), .int .i64 (wrap64 ((wrap64 (4 * (Int.tmod (wrap64 ((Int.tmod a3 64) + 64)) 64))) + 4))] 42 (0, 0)) (by (with_reducible repeat (first | refine blk_drewN ?_ _ | refine blk_drew ?_ | refine blk_alloc ?_ _)); exact BK390.out) hb)
        replace HB := Aside0.mk (below_step (by repeat (first | (with_reducible first | exact HB.out | apply below_alloc | apply pw_below_drewN | apply below_drew1 | refine below_set ?_ GE385.out | refine below_set ?_ GE390.out) | exact HB.out)) hb)
        (try clear hb)
        (try clear hb2)
        (try clear hk)
        (try clear hi)
        obtain ⟨Ao49, co49, eo49⟩ := Kd.R_slice HO_11.out
        (first | subst eo49 | (injection eo49 with f1_ f2_ f3_; have f4_ := f1_.symm; have f5_ := f3_.symm; clear f1_ f2_ f3_; subst f4_; subst f5_))
        refine hK.out _ _ ⟨(blk_cell BK390.out 0).trans rfl, (blk_cell BK390.out 1).trans rfl, (blk_cell BK390.out 2).trans rfl, (blk_cell BK390.out 3).trans rfl⟩ (fun hHeld => ?_)
        clear hK K
        refine norm_ (a' := ?_) ?_ ?_
        rotate_left
        · show Act.put _ (some 86) _ = _
          simp only [Act.put, List.setIfInBounds_toArray, List.set_cons_zero, List.set_cons_succ, i64_w, i32_w]
          rfl
        refine pure_ (i := 4) (N := some 88) (v := ?_) (a' := ?_) #[true, true, true, true, true, false, false, false, false, false, false, false] rfl rfl (any_of HT_.out (by kernel_rfl)) (fun _ _ _ h => h) (Or.inl ⟨by rfl, ?_⟩) ?_ ?_
        rotate_left
        · intro w'
          go_simp
          with_reducible rfl
        rotate_left
        · simp only [Act.put, List.setIfInBounds_toArray, List.set_cons_zero, List.set_cons_succ, i64_w, i32_w]
          rfl
        refine pure_ (i := 5) (N := some 89) (v := ?_) (a' := ?_) #[true, true, true, true, true, true, false, false, false, false, false, false] rfl rfl (any_of HT_.out (by kernel_rfl)) (fun _ _ _ h => h) (Or.inl ⟨by rfl, ?_⟩) ?_ ?_
        rotate_left
        · intro w'
          go_simp
          with_reducible rfl
        rotate_left
        · simp only [Act.put, List.setIfInBounds_toArray, List.set_cons_zero, List.set_cons_succ, i64_w, i32_w]
          rfl
        refine pure_ (i := 6) (N := some 90) (v := ?_) (a' := ?_) #[true, true, true, true, true, true, true, false, false, false, false, false] rfl rfl (any_of HT_.out (by kernel_rfl)) (fun _ _ _ h => h) (Or.inl ⟨by rfl, ?_⟩) ?_ ?_
        rotate_left
        · intro w'
          go_simp
          with_reducible rfl
        rotate_left
        · simp only [Act.put, List.setIfInBounds_toArray, List.set_cons_zero, List.set_cons_succ, i64_w, i32_w]
          rfl
        refine pure_ (i := 8) (N := some 92) (v := ?_) (a' := ?_) #[true, true, true, true, true, true, true, false, true, false, false, false] rfl rfl (any_of HT_.out (by kernel_rfl)) (fun _ _ _ h => h) (Or.inl ⟨by rfl, ?_⟩) ?_ ?_
        rotate_left
        · intro w'
          go_simp
          with_reducible rfl
        rotate_left
        · simp only [Act.put, List.setIfInBounds_toArray, List.set_cons_zero, List.set_cons_succ, i64_w, i32_w]
          rfl
        refine one_ (i := 7) (N := some 91) #[true, true, true, true, true, true, true, true, true, false, false, false] rfl rfl (one_of HT_.out (by kernel_rfl)) (by decide) (fun K hK => ?_)
        refine goes_ Try.func37 (by kernel_rfl) rfl #[.slice Ao49 x11_1.length co49] (by rfl) rfl rfl (by (try simp only [List.map_toArray, List.map_cons, List.map_nil]); first | done | rfl | (simp only [List.length_drop, List.length_take]; rfl)) ?_
        with_reducible refine (raster_Total.calls k1 _ _ x11_1 t405 _ ?side1 ?side2 A45.out).mono ?_
        (case side1 => repeat (first | exact (Kd.R_reads' HO_11.out).2.2 | (with_reducible refine Kd.C_alloc ?_ _) | (with_reducible refine Kd.C_drewN ?_ _) | (with_reducible refine Kd.C_drew ?_)))
        (case side2 => exact (Kd.R_reads' HO_11.out).2.1)
        rintro e w' ⟨rfl, ⟨nd, rfl⟩⟩
        refine ⟨_, rfl, ?_⟩
        refine hK.out _ _ ⟨(blk_cell BK390.out 0).trans rfl, (blk_cell BK390.out 1).trans rfl, (blk_cell BK390.out 2).trans rfl, (blk_cell BK390.out 3).trans rfl⟩ (fun hHeld => ?_)
        clear hK K
        refine norm_ (a' := ?_) ?_ ?_
        rotate_left
        · show Act.put _ (some 91) _ = _
          simp only [Act.put, List.setIfInBounds_toArray, List.set_cons_zero, List.set_cons_succ, i64_w, i32_w]
          rfl
        refine one_ (i := 9) (N := some 93) #[true, true, true, true, true, true, true, true, true, true, false, false] rfl rfl (one_of HT_.out (by kernel_rfl)) (by decide) (fun K hK => ?_)
        refine goes_ Try.func45 (by kernel_rfl) rfl #[.slice Ao49 x11_1.length co49] (by rfl) rfl rfl (by (try simp only [List.map_toArray, List.map_cons, List.map_nil]); first | done | rfl | (simp only [List.length_drop, List.length_take]; rfl)) ?_
        with_reducible refine (terrlaw5_sum.calls k1 _ _ x11_1 t406 _ ?side1 ?side2 A46.out).mono ?_
        (case side1 => repeat (first | exact (Kd.R_reads' HO_11.out).2.2 | (with_reducible refine Kd.C_alloc ?_ _) | (with_reducible refine Kd.C_drewN ?_ _) | (with_reducible refine Kd.C_drew ?_)))
        (case side2 => exact (Kd.R_reads' HO_11.out).2.1)
        rintro e w' ⟨rfl, ⟨nd, rfl⟩⟩
        refine ⟨_, rfl, ?_⟩
        refine hK.out _ _ ⟨(blk_cell BK390.out 0).trans rfl, (blk_cell BK390.out 1).trans rfl, (blk_cell BK390.out 2).trans rfl, (blk_cell BK390.out 3).trans rfl⟩ (fun hHeld => ?_)
        clear hK K
        refine norm_ (a' := ?_) ?_ ?_
        rotate_left
        · show Act.put _ (some 93) _ = _
          simp only [Act.put, List.setIfInBounds_toArray, List.set_cons_zero, List.set_cons_succ, i64_w, i32_w]
          rfl
        refine pure_ (i := 10) (N := some 94) (v := ?_) (a' := ?_) #[true, true, true, true, true, true, true, true, true, true, true, false] rfl rfl (any_of HT_.out (by kernel_rfl)) (fun _ _ _ h => h) (Or.inl ⟨by rfl, ?_⟩) ?_ ?_
        rotate_left
        · intro w'
          go_simp
          with_reducible rfl
        rotate_left
        · simp only [Act.put, List.setIfInBounds_toArray, List.set_cons_zero, List.set_cons_succ, i64_w, i32_w]
          rfl
        refine pure_ (i := 11) (N := some 95) (v := ?_) (a' := ?_) #[true, true, true, true, true, true, true, true, true, true, true, true] rfl rfl (any_of HT_.out (by kernel_rfl)) (fun _ _ _ h => h) (Or.inl ⟨by rfl, ?_⟩) ?_ ?_
        rotate_left
        · intro w'
          go_simp
          with_reducible rfl
        rotate_left
        · simp only [Act.put, List.setIfInBounds_toArray, List.set_cons_zero, List.set_cons_succ, i64_w, i32_w]
          rfl
        refine done_ (done_of HT_.out (by kernel_rfl)) ?_
        try go_wp2
        go_meet
        case rel => exact ⟨_, ((t405 != t406)), (by first | rfl | (simp; done) | (simp [*]; done)), H', ⟨by have := HK1.out; first | omega | exact Nat.le_refl _⟩, ⟨by (with_reducible repeat (first | refine blk_drewN ?_ _ | refine blk_drew ?_ | refine blk_alloc ?_ _)); exact BK385.out⟩, ⟨by (with_reducible repeat (first | refine blk_drewN ?_ _ | refine blk_drew ?_ | refine blk_alloc ?_ _)); exact BK390.out⟩, ⟨by repeat (first | (with_reducible first | exact HB.out | apply below_alloc | apply pw_below_drewN | apply below_drew1 | refine below_set ?_ GE385.out | refine below_set ?_ GE390.out) | exact HB.out)⟩⟩
      case rest =>
        clear HC40
        try clear c22
        try clear c22b0
        obtain ⟨kq, x95_39, rfl, HA, HJ39, BK385, BK390, HB⟩ := hcut
        cases kq with
        | zero => exact absurd HA.out (by simp [terrlaw5_RasterLines.j1])
        | succ kj39 =>
          have H := HA.out
          clear HA
          simp only [terrlaw5_RasterLines.j1] at H
          by_cases c50 : x95_39 = true
          · subst c50
            have H1 : (some false) = some r := by rw [if_pos rfl] at H; exact H
            clear H
            have H := H1
            clear H1
            exact absurd (H.trans (congrArg some hr)) (by decide)
          replace c50 := Bool.eq_false_iff.mpr c50
          subst c50
          have H1 : ((raster_Lines.f kj39 l0).bind fun t407 => ((raster_Dots.f kj39 l1).bind fun t410 => (if (t407.length : Int) = 4096 then (terrlaw5_RasterLines.j2 kj39 l0 l1 (Int.tmod (wrap64 ((Int.tmod a2 64) + 64)) 64) (Int.tmod (wrap64 ((Int.tmod a3 64) + 64)) 64) t407 t410 ((t410.length : Int) != 4096) (wrap64 (4 * (Int.tmod (wrap64 ((Int.tmod a2 64) + 64)) 64))) (wrap64 (4 * (Int.tmod (wrap64 ((Int.tmod a3 64) + 64)) 64))) (wrap64 ((wrap64 (4 * (Int.tmod (wrap64 ((Int.tmod a2 64) + 64)) 64))) + 4)) (wrap64 ((wrap64 (4 * (Int.tmod (wrap64 ((Int.tmod a3 64) + 64)) 64))) + 4))) else (terrlaw5_RasterLines.j2 kj39 l0 l1 (Int.tmod (wrap64 ((Int.tmod a2 64) + 64)) 64) (Int.tmod (wrap64 ((Int.tmod a3 64) + 64)) 64) t407 t410 true (wrap64 (4 * (Int.tmod (wrap64 ((Int.tmod a2 64) + 64)) 64))) (wrap64 (4 * (Int.tmod (wrap64 ((Int.tmod a3 64) + 64)) 64))) (wrap64 ((wrap64 (4 * (Int.tmod (wrap64 ((Int.tmod a2 64) + 64)) 64))) + 4)) (wrap64 ((wrap64 (4 * (Int.tmod (wrap64 ((Int.tmod a3 64) + 64)) 64))) + 4)))))) = some r := by rw [if_neg (show ¬ (false = true) by decide)] at H; exact H
          clear H
          have H := H1
          clear H1
          replace H := Option.bind_eq_some_iff.mp H
          obtain ⟨t407, A510, H⟩ := H
          replace H : ((raster_Dots.f kj39 l1).bind fun t410 => (if (t407.length : Int) = 4096 then (terrlaw5_RasterLines.j2 kj39 l0 l1 (Int.tmod (wrap64 ((Int.tmod a2 64) + 64)) 64) (Int.tmod (wrap64 ((Int.tmod a3 64) + 64)) 64) t407 t410 ((t410.length : Int) != 4096) (wrap64 (4 * (Int.tmod (wrap64 ((Int.tmod a2 64) + 64)) 64))) (wrap64 (4 * (Int.tmod (wrap64 ((Int.tmod a3 64) + 64)) 64))) (wrap64 ((wrap64 (4 * (Int.tmod (wrap64 ((Int.tmod a2 64) + 64)) 64))) + 4)) (wrap64 ((wrap64 (4 * (Int.tmod (wrap64 ((Int.tmod a3 64) + 64)) 64))) + 4))) else (terrlaw5_RasterLines.j2 kj39 l0 l1 (Int.tmod (wrap64 ((Int.tmod a2 64) + 64)) 64) (Int.tmod (wrap64 ((Int.tmod a3 64) + 64)) 64) t407 t410 true (wrap64 (4 * (Int.tmod (wrap64 ((Int.tmod a2 64) + 64)) 64))) (wrap64 (4 * (Int.tmod (wrap64 ((Int.tmod a3 64) + 64)) 64))) (wrap64 ((wrap64 (4 * (Int.tmod (wrap64 ((Int.tmod a2 64) + 64)) 64))) + 4)) (wrap64 ((wrap64 (4 * (Int.tmod (wrap64 ((Int.tmod a3 64) + 64)) 64))) + 4))))) = some r := H
          have A51 := Aside0.mk A510
          clear A510
          replace H := Option.bind_eq_some_iff.mp H
          obtain ⟨t410, A520, H⟩ := H
          replace H : (if (t407.length : Int) = 4096 then (terrlaw5_RasterLines.j2 kj39 l0 l1 (Int.tmod (wrap64 ((Int.tmod a2 64) + 64)) 64) (Int.tmod (wrap64 ((Int.tmod a3 64) + 64)) 64) t407 t410 ((t410.length : Int) != 4096) (wrap64 (4 * (Int.tmod (wrap64 ((Int.tmod a2 64) + 64)) 64))) (wrap64 (4 * (Int.tmod (wrap64 ((Int.tmod a3 64) + 64)) 64))) (wrap64 ((wrap64 (4 * (Int.tmod (wrap64 ((Int.tmod a2 64) + 64)) 64))) + 4)) (wrap64 ((wrap64 (4 * (Int.tmod (wrap64 ((Int.tmod a3 64) + 64)) 64))) + 4))) else (terrlaw5_RasterLines.j2 kj39 l0 l1 (Int.tmod (wrap64 ((Int.tmod a2 64) + 64)) 64) (Int.tmod (wrap64 ((Int.tmod a3 64) + 64)) 64) t407 t410 true (wrap64 (4 * (Int.tmod (wrap64 ((Int.tmod a2 64) + 64)) 64))) (wrap64 (4 * (Int.tmod (wrap64 ((Int.tmod a3 64) + 64)) 64))) (wrap64 ((wrap64 (4 * (Int.tmod (wrap64 ((Int.tmod a2 64) + 64)) 64))) + 4)) (wrap64 ((wrap64 (4 * (Int.tmod (wrap64 ((Int.tmod a3 64) + 64)) 64))) + 4)))) = some r := H
          have A52 := Aside0.mk A520
          clear A520
          have HC53 := Aside0.mk H
          clear H
          go_upto_region 17 with (first | ((with_reducible refine gate_callee (f := 35) rfl ?_); refine goesL_ (some 97) rfl rfl Try.func35 (by kernel_rfl) rfl #[.slice A0 l0.length c0] rfl (by (try simp only [List.map_toArray, List.map_cons, List.map_nil]); first | done | rfl | (simp only [List.length_drop, List.length_take]; rfl)) ?_; (with_reducible refine (raster_Lines.calls kj39 _ _ l0 t407 _ ?side1 ?side2 A51.out).mono ?_); (case side1 => repeat (first | exact (Kd.C_below HR0.out HB.out) | (with_reducible refine Kd.C_alloc ?_ _) | (with_reducible refine Kd.C_drewN ?_ _) | (with_reducible refine Kd.C_drew ?_))); (case side2 => exact HC0.out); rintro e w54 ⟨v408, rfl, ho0, hb⟩; refine ⟨_, rfl, ?_⟩; have HO409 := Aside0.mk (Kd.R_lower ho0 (below_size (by repeat (first | (with_reducible first | exact HB.out | apply below_alloc | apply pw_below_drewN | apply below_drew1 | refine below_set ?_ GE385.out | refine below_set ?_ GE390.out) | exact HB.out)))); replace BK385 := Aside0.mk (blk_below (g := gb385) (o := .cells #[.int .i64 (wrap64 (4 * t383)), .int .i64 (wrap64 (4 * t384))] 40 (0, 0)) (by (with_reducible repeat (first | refine blk_drewN ?_ _ | refine blk_drew ?_ | refine blk_alloc ?_ _)); exact BK385.out) hb); replace BK390 := Aside0.mk (blk_below (g := gb390) (o := .cells #[.int .i64 (wrap64 (4 * (Int.tmod (wrap64 ((Int.tmod a2 64) + 64)) 64))), .int .i64 (wrap64 (4 * (Int.tmod (wrap64 ((Int.tmod a3 64) + 64)) 64))), .int .i64 (wrap64 ((wrap64 (4 * (Int.tmod (wrap64 ((Int.tmod a2 64) + 64)) 64))) + 4)), .int .i64 (wrap64 ((wrap64 (4 * (Int.tmod (wrap64 ((Int.tmod a3 64) + 64)) 64))) + 4))] 42 (0, 0)) (by (with_reducible repeat (first | refine blk_drewN ?_ _ | refine blk_drew ?_ | refine blk_alloc ?_ _)); exact BK390.out) hb); replace HB := Aside0.mk (below_step (by repeat (first | (with_reducible first | exact HB.out | apply below_alloc | apply pw_below_drewN | apply below_drew1 | refine below_set ?_ GE385.out | refine below_set ?_ GE390.out) | exact HB.out)) hb); (try clear hb); (try clear hb2); (try clear hk); (try clear hi); (try clear ho0)) | ((with_reducible refine gate_callee (f := 36) rfl ?_); refine goesL_ (some 99) rfl rfl Try.func36 (by kernel_rfl) rfl #[.slice A1 l1.length c1] rfl (by (try simp only [List.map_toArray, List.map_cons, List.map_nil]); first | done | rfl | (simp only [List.length_drop, List.length_take]; rfl)) ?_; (with_reducible refine (raster_Dots.calls kj39 _ _ l1 t410 _ ?side1 ?side2 A52.out).mono ?_); (case side1 => repeat (first | exact (Kd.C_below HR1.out HB.out) | (with_reducible refine Kd.C_alloc ?_ _) | (with_reducible refine Kd.C_drewN ?_ _) | (with_reducible refine Kd.C_drew ?_))); (case side2 => exact HC1.out); rintro e w55 ⟨v411, rfl, ho0, hb⟩; refine ⟨_, rfl, ?_⟩; have HO412 := Aside0.mk (Kd.R_lower (Kd.R_new' ho0 (Kd.R_lt (by (with_reducible repeat (first | apply Kd.R_alloc | apply Kd.R_drewN | apply Kd.R_drew)); exact HO409.out))) (below_size (by repeat (first | (with_reducible first | exact HB.out | apply below_alloc | apply pw_below_drewN | apply below_drew1 | refine below_set ?_ GE385.out | refine below_set ?_ GE390.out) | exact HB.out)))); replace HO409 := Aside0.mk (Kd.R_elder' (by (with_reducible repeat (first | apply Kd.R_alloc | apply Kd.R_drewN | apply Kd.R_drew)); exact HO409.out) (Kd.R_base ho0) hb); replace BK385 := Aside0.mk (blk_below (g := gb385) (o := .cells #[.int .i64 (wrap64 (4 * t383)), .int .i64 (wrap64 (4 * t384))] 40 (0, 0)) (by (with_reducible repeat (first | refine blk_drewN ?_ _ | refine blk_drew ?_ | refine blk_alloc ?_ _)); exact BK385.out) hb); replace BK390 := Aside0.mk (blk_below (g := gb390) (o := .cells #[.int .i64 (wrap64 (4 * (Int.tmod (wrap64 ((Int.tmod a2 64) + 64)) 64))), .int .i64 (wrap64 (4 * (Int.tmod (wrap64 ((Int.tmod a3 64) + 64)) 64))), .int .i64 (wrap64 ((wrap64 (4 * (Int.tmod (wrap64 ((Int.tmod a2 64) + 64)) 64))) + 4)), .int .i64 (wrap64 ((wrap64 (4 * (Int.tmod (wrap64 ((Int.tmod a3 64) + 64)) 64))) + 4))] 42 (0, 0)) (by (with_reducible repeat (first | refine blk_drewN ?_ _ | refine blk_drew ?_ | refine blk_alloc ?_ _)); exact BK390.out) hb); replace HB := Aside0.mk (below_step (by repeat (first | (with_reducible first | exact HB.out | apply below_alloc | apply pw_below_drewN | apply below_drew1 | refine below_set ?_ GE385.out | refine below_set ?_ GE390.out) | exact HB.out)) hb); (try clear hb); (try clear hb2); (try clear hk); (try clear hi); (try clear ho0)))
          (try simp only [Act.put, List.setIfInBounds_toArray, List.set_cons_zero, List.set_cons_succ])
          go_cut [107] from 96 to 107 (fun v107 wc => ∃ (kq : Nat) (x107_52 : Bool), v107 = .bool x107_52 ∧ Aside0 (terrlaw5_RasterLines.j2 kq l0 l1 (Int.tmod (wrap64 ((Int.tmod a2 64) + 64)) 64) (Int.tmod (wrap64 ((Int.tmod a3 64) + 64)) 64) t407 t410 x107_52 (wrap64 (4 * (Int.tmod (wrap64 ((Int.tmod a2 64) + 64)) 64))) (wrap64 (4 * (Int.tmod (wrap64 ((Int.tmod a3 64) + 64)) 64))) (wrap64 ((wrap64 (4 * (Int.tmod (wrap64 ((Int.tmod a2 64) + 64)) 64))) + 4)) (wrap64 ((wrap64 (4 * (Int.tmod (wrap64 ((Int.tmod a3 64) + 64)) 64))) + 4)) = some r) ∧ Aside0 (kq ≤ kj39) ∧ Aside0 (Kd.R (Kd.int .i64) 3 wc w.heap.size (fun k_ => some k_ ≠ (v411 : Value).ownBlock) v408 t407) ∧ Aside0 (Kd.R (Kd.int .i64) 3 wc w.heap.size (fun k_ => some k_ ≠ (v408 : Value).ownBlock) v411 t410) ∧ Aside0 (wc.heap[gb385]? = some (.cells #[.int .i64 (wrap64 (4 * t383)), .int .i64 (wrap64 (4 * t384))] 40 (0, 0))) ∧ Aside0 (wc.heap[gb390]? = some (.cells #[.int .i64 (wrap64 (4 * (Int.tmod (wrap64 ((Int.tmod a2 64) + 64)) 64))), .int .i64 (wrap64 (4 * (Int.tmod (wrap64 ((Int.tmod a3 64) + 64)) 64))), .int .i64 (wrap64 ((wrap64 (4 * (Int.tmod (wrap64 ((Int.tmod a2 64) + 64)) 64))) + 4)), .int .i64 (wrap64 ((wrap64 (4 * (Int.tmod (wrap64 ((Int.tmod a3 64) + 64)) 64))) + 4))] 42 (0, 0))) ∧ Aside0 (Below w.heap.size w wc))
          case first =>
            have H := HC53.out
            clear HC53
            by_cases c56 : (t407.length : Int) = 4096
            rotate_left
            · rw [if_neg c56] at H
              have c56b0 : ((t407.length : Int) == 4096) = false := beq_eq_false_iff_ne.mpr c56
              have c56b1 : ((t407.length : Int) != 4096) = true := bne_iff_ne.mpr c56
              (first | rw [c56b0] | (simp only [i64_w, i32_w]; rw [c56b0]) | skip)
              have H' := Aside0.mk H
              clear H
              obtain ⟨Ao59, co59, eo59⟩ := Kd.R_slice HO409.out
              subst eo59
              go_wp2
              go_meet
              case rel => exact ⟨_, (true), (by first | rfl | (simp; done) | (simp [*]; done)), H', ⟨by have := HK1.out; have := HJ39.out; first | omega | exact Nat.le_refl _⟩, ⟨by (with_reducible repeat (first | apply Kd.R_alloc | apply Kd.R_drewN | apply Kd.R_drew)); exact Kd.R_mono HO409.out (fun _ hk => hk.2)⟩, ⟨by (with_reducible repeat (first | apply Kd.R_alloc | apply Kd.R_drewN | apply Kd.R_drew)); exact Kd.R_mono HO412.out (fun _ hk => hk.2)⟩, ⟨by (with_reducible repeat (first | refine blk_drewN ?_ _ | refine blk_drew ?_ | refine blk_alloc ?_ _)); exact BK385.out⟩, ⟨by (with_reducible repeat (first | refine blk_drewN ?_ _ | refine blk_drew ?_ | refine blk_alloc ?_ _)); exact BK390.out⟩, ⟨by repeat (first | (with_reducible first | exact HB.out | apply below_alloc | apply pw_below_drewN | apply below_drew1 | refine below_set ?_ GE385.out | refine below_set ?_ GE390.out) | exact HB.out)⟩⟩
            rw [if_pos c56] at H
            have c56b0 : ((t407.length : Int) == 4096) = true := beq_iff_eq.mpr c56
            have c56b1 : ((t407.length : Int) != 4096) = false := bne_eq_false_iff_eq.mpr c56
            clear c56
            (first | rw [c56b0] | (simp only [i64_w, i32_w]; rw [c56b0]) | skip)
            have H' := Aside0.mk H
            clear H
            obtain ⟨Ao57, co57, eo57⟩ := Kd.R_slice HO409.out
            subst eo57
            obtain ⟨Ao58, co58, eo58⟩ := Kd.R_slice HO412.out
            subst eo58
            go_wp2
            go_meet
            case rel => exact ⟨_, (((t410.length : Int) != 4096)), (by first | rfl | (simp; done) | (simp [*]; done)), H', ⟨by have := HK1.out; have := HJ39.out; first | omega | exact Nat.le_refl _⟩, ⟨by (with_reducible repeat (first | apply Kd.R_alloc | apply Kd.R_drewN | apply Kd.R_drew)); exact Kd.R_mono HO409.out (fun _ hk => hk.2)⟩, ⟨by (with_reducible repeat (first | apply Kd.R_alloc | apply Kd.R_drewN | apply Kd.R_drew)); exact Kd.R_mono HO412.out (fun _ hk => hk.2)⟩, ⟨by (with_reducible repeat (first | refine blk_drewN ?_ _ | refine blk_drew ?_ | refine blk_alloc ?_ _)); exact BK385.out⟩, ⟨by (with_reducible repeat (first | refine blk_drewN ?_ _ | refine blk_drew ?_ | refine blk_alloc ?_ _)); exact BK390.out⟩, ⟨by repeat (first | (with_reducible first | exact HB.out | apply below_alloc | apply pw_below_drewN | apply below_drew1 | refine below_set ?_ GE385.out | refine below_set ?_ GE390.out) | exact HB.out)⟩⟩
          case rest =>
            clear HC53
            try clear c1
            try clear c50
            obtain ⟨kq, x107_52, rfl, HA, HJ52, HO_14, HO_15, BK385, BK390, HB⟩ := hcut
            cases kq with
            | zero => exact absurd HA.out (by simp [terrlaw5_RasterLines.j2])
            | succ kj52 =>
              have H := HA.out
              clear HA
              simp only [terrlaw5_RasterLines.j2] at H
              by_cases c60 : x107_52 = true
              · subst c60
                have H1 : (some false) = some r := by rw [if_pos rfl] at H; exact H
                clear H
                have H := H1
                clear H1
                exact absurd (H.trans (congrArg some hr)) (by decide)
              replace c60 := Bool.eq_false_iff.mpr c60
              subst c60
              have H1 : (terrlaw5_RasterLines.l1 kj52 l1 (Int.tmod (wrap64 ((Int.tmod a2 64) + 64)) 64) (Int.tmod (wrap64 ((Int.tmod a3 64) + 64)) 64) t407 t410 0 0 l0 (l0.length : Int) 0 (wrap64 (4 * (Int.tmod (wrap64 ((Int.tmod a2 64) + 64)) 64))) (wrap64 (4 * (Int.tmod (wrap64 ((Int.tmod a3 64) + 64)) 64))) (wrap64 ((wrap64 (4 * (Int.tmod (wrap64 ((Int.tmod a2 64) + 64)) 64))) + 4)) (wrap64 ((wrap64 (4 * (Int.tmod (wrap64 ((Int.tmod a3 64) + 64)) 64))) + 4))) = some r := by rw [if_neg (show ¬ (false = true) by decide)] at H; exact H
              clear H
              have H := H1
              clear H1
              have H' := Aside0.mk H
              clear H
              go_wp2
              go_loopg [16, 110] kj52 (fun kq v16 v110 w' => ∃ (x16_4 : Int) (x110_4 : Int), v16 = .int .i64 x16_4 ∧ v110 = .int .i64 x110_4 ∧ Aside0 (terrlaw5_RasterLines.l1 kq l1 (Int.tmod (wrap64 ((Int.tmod a2 64) + 64)) 64) (Int.tmod (wrap64 ((Int.tmod a3 64) + 64)) 64) t407 t410 x16_4 0 l0 (l0.length : Int) x110_4 (wrap64 (4 * (Int.tmod (wrap64 ((Int.tmod a2 64) + 64)) 64))) (wrap64 (4 * (Int.tmod (wrap64 ((Int.tmod a3 64) + 64)) 64))) (wrap64 ((wrap64 (4 * (Int.tmod (wrap64 ((Int.tmod a2 64) + 64)) 64))) + 4)) (wrap64 ((wrap64 (4 * (Int.tmod (wrap64 ((Int.tmod a3 64) + 64)) 64))) + 4)) = some r) ∧ Aside0 (kq ≤ kj52) ∧ Aside0 (Kd.R (Kd.int .i64) 3 w' w.heap.size (fun k_ => some k_ ≠ (v411 : Value).ownBlock) v408 t407) ∧ Aside0 (Kd.R (Kd.int .i64) 3 w' w.heap.size (fun k_ => some k_ ≠ (v408 : Value).ownBlock) v411 t410) ∧ Aside0 (w'.heap[gb385]? = some (.cells #[.int .i64 (wrap64 (4 * t383)), .int .i64 (wrap64 (4 * t384))] 40 (0, 0))) ∧ Aside0 (w'.heap[gb390]? = some (.cells #[.int .i64 (wrap64 (4 * (Int.tmod (wrap64 ((Int.tmod a2 64) + 64)) 64))), .int .i64 (wrap64 (4 * (Int.tmod (wrap64 ((Int.tmod a3 64) + 64)) 64))), .int .i64 (wrap64 ((wrap64 (4 * (Int.tmod (wrap64 ((Int.tmod a2 64) + 64)) 64))) + 4)), .int .i64 (wrap64 ((wrap64 (4 * (Int.tmod (wrap64 ((Int.tmod a3 64) + 64)) 64))) + 4))] 42 (0, 0))) ∧ Aside0 (Below w.heap.size w w'))
              case atStart => exact ⟨(0), (0), (by first | rfl | (simp; done) | (simp [*]; done)), (by first | rfl | (simp; done) | (simp [*]; done)), H', ⟨Nat.le_refl _⟩, ⟨by (with_reducible repeat (first | apply Kd.R_alloc | apply Kd.R_drewN | apply Kd.R_drew)); exact HO_14.out⟩, ⟨by (with_reducible repeat (first | apply Kd.R_alloc | apply Kd.R_drewN | apply Kd.R_drew)); exact HO_15.out⟩, ⟨by (with_reducible repeat (first | refine blk_drewN ?_ _ | refine blk_drew ?_ | refine blk_alloc ?_ _)); exact BK385.out⟩, ⟨by (with_reducible repeat (first | refine blk_drewN ?_ _ | refine blk_drew ?_ | refine blk_alloc ?_ _)); exact BK390.out⟩, ⟨by repeat (first | (with_reducible first | exact HB.out | apply below_alloc | apply pw_below_drewN | apply below_drew1 | refine below_set ?_ GE385.out | refine below_set ?_ GE390.out) | exact HB.out)⟩⟩
              case round =>
                clear H'
                try clear c60
                obtain ⟨x16_4, x110_4, rfl, rfl, HA, HK4, HO_14, HO_15, BK385, BK390, HB⟩ := hrel
                cases gk with
                | zero => exact absurd HA.out (by simp [terrlaw5_RasterLines.l1])
                | succ k4 =>
                  have H := HA.out
                  clear HA
                  simp only [terrlaw5_RasterLines.l1] at H
                  by_cases c61 : x110_4 < (l0.length : Int)
                  rotate_left
                  · rw [if_neg c61] at H
                    have c61b0 : decide (x110_4 < (l0.length : Int)) = false := decide_eq_false c61
                    clear c61
                    have H' := Aside0.mk H
                    clear H
                    go_wp2
                    go_loopg [17, 157] k4 (fun kq v17 v157 w' => ∃ (x17_5 : Int) (x157_5 : Int), v17 = .int .i64 x17_5 ∧ v157 = .int .i64 x157_5 ∧ Aside0 (terrlaw5_RasterLines.l3 kq (Int.tmod (wrap64 ((Int.tmod a2 64) + 64)) 64) (Int.tmod (wrap64 ((Int.tmod a3 64) + 64)) 64) t407 t410 x16_4 x17_5 l1 (l1.length : Int) x157_5 (wrap64 (4 * (Int.tmod (wrap64 ((Int.tmod a2 64) + 64)) 64))) (wrap64 (4 * (Int.tmod (wrap64 ((Int.tmod a3 64) + 64)) 64))) (wrap64 ((wrap64 (4 * (Int.tmod (wrap64 ((Int.tmod a2 64) + 64)) 64))) + 4)) (wrap64 ((wrap64 (4 * (Int.tmod (wrap64 ((Int.tmod a3 64) + 64)) 64))) + 4)) = some r) ∧ Aside0 (kq ≤ k4) ∧ Aside0 (Kd.R (Kd.int .i64) 3 w' w.heap.size (fun k_ => some k_ ≠ (v411 : Value).ownBlock) v408 t407) ∧ Aside0 (Kd.R (Kd.int .i64) 3 w' w.heap.size (fun k_ => some k_ ≠ (v408 : Value).ownBlock) v411 t410) ∧ Aside0 (w'.heap[gb385]? = some (.cells #[.int .i64 (wrap64 (4 * t383)), .int .i64 (wrap64 (4 * t384))] 40 (0, 0))) ∧ Aside0 (w'.heap[gb390]? = some (.cells #[.int .i64 (wrap64 (4 * (Int.tmod (wrap64 ((Int.tmod a2 64) + 64)) 64))), .int .i64 (wrap64 (4 * (Int.tmod (wrap64 ((Int.tmod a3 64) + 64)) 64))), .int .i64 (wrap64 ((wrap64 (4 * (Int.tmod (wrap64 ((Int.tmod a2 64) + 64)) 64))) + 4)), .int .i64 (wrap64 ((wrap64 (4 * (Int.tmod (wrap64 ((Int.tmod a3 64) + 64)) 64))) + 4))] 42 (0, 0))) ∧ Aside0 (Below w.heap.size w w'))
                    case atStart => exact ⟨(0), (0), (by first | rfl | (simp; done) | (simp [*]; done)), (by first | rfl | (simp; done) | (simp [*]; done)), H', ⟨Nat.le_refl _⟩, ⟨by (with_reducible repeat (first | apply Kd.R_alloc | apply Kd.R_drewN | apply Kd.R_drew)); exact HO_14.out⟩, ⟨by (with_reducible repeat (first | apply Kd.R_alloc | apply Kd.R_drewN | apply Kd.R_drew)); exact HO_15.out⟩, ⟨by (with_reducible repeat (first | refine blk_drewN ?_ _ | refine blk_drew ?_ | refine blk_alloc ?_ _)); exact BK385.out⟩, ⟨by (with_reducible repeat (first | refine blk_drewN ?_ _ | refine blk_drew ?_ | refine blk_alloc ?_ _)); exact BK390.out⟩, ⟨by repeat (first | (with_reducible first | exact HB.out | apply below_alloc | apply pw_below_drewN | apply below_drew1 | refine below_set ?_ GE385.out | refine below_set ?_ GE390.out) | exact HB.out)⟩⟩
                    case round =>
                      clear H'
                      try clear c61
                      try clear c61b0
                      obtain ⟨x17_5, x157_5, rfl, rfl, HA, HK5, HO_14, HO_15, BK385, BK390, HB⟩ := hrel
                      cases gk with
                      | zero => exact absurd HA.out (by simp [terrlaw5_RasterLines.l3])
                      | succ k5 =>
                        have H := HA.out
                        clear HA
                        simp only [terrlaw5_RasterLines.l3] at H
                        by_cases c119 : x157_5 < (l1.length : Int)
                        rotate_left
                        · rw [if_neg c119] at H
                          have c119b0 : decide (x157_5 < (l1.length : Int)) = false := decide_eq_false c119
                          clear c119
                          obtain ⟨ji156, hji156⟩ : ∃ j_ : Int, (wrap64 ((wrap64 (64 * (Int.tmod (wrap64 ((Int.tmod a3 64) + 64)) 64))) + (Int.tmod (wrap64 ((Int.tmod a2 64) + 64)) 64))) = j_ := ⟨_, rfl⟩
                          replace H : (if 0 ≤ (ji156) then (if (ji156) < (t407.length : Int) then (if (rd t407 (ji156)) = x16_4 then (if (ji156) < (t410.length : Int) then (some ((rd t410 (ji156)) == x17_5)) else (none)) else (some false)) else (none)) else (none)) = some r := by first | (rw [hji156] at H; exact H) | (simp only [hji156] at H ⊢; exact H)
                          have hji156w : (IntKind.i64.wrap ((wrap64 (64 * (Int.tmod (wrap64 ((Int.tmod a3 64) + 64)) 64))) + (Int.tmod (wrap64 ((Int.tmod a2 64) + 64)) 64))) = ji156 := (i64_w _).trans hji156
                          by_cases c157 : 0 ≤ (ji156)
                          rotate_left
                          · rw [if_neg c157] at H
                            exact absurd H (by simp)
                          rw [if_pos c157] at H
                          have c157b0 : decide (0 ≤ (ji156)) = true := decide_eq_true c157
                          clear c157
                          by_cases c158 : (ji156) < (t407.length : Int)
                          rotate_left
                          · rw [if_neg c158] at H
                            exact absurd H (by simp)
                          rw [if_pos c158] at H
                          have c158b0 : decide ((ji156) < (t407.length : Int)) = true := decide_eq_true c158
                          clear c158
                          by_cases c159 : (rd t407 (ji156)) = x16_4
                          rotate_left
                          · rw [if_neg c159] at H
                            have c159b0 : ((rd t407 (ji156)) == x16_4) = false := beq_eq_false_iff_ne.mpr c159
                            have c159b1 : ((rd t407 (ji156)) != x16_4) = true := bne_iff_ne.mpr c159
                            exact absurd (H.trans (congrArg some hr)) (by decide)
                          rw [if_pos c159] at H
                          have c159b0 : ((rd t407 (ji156)) == x16_4) = true := beq_iff_eq.mpr c159
                          have c159b1 : ((rd t407 (ji156)) != x16_4) = false := bne_eq_false_iff_eq.mpr c159
                          clear c159
                          by_cases c160 : (ji156) < (t410.length : Int)
                          rotate_left
                          · rw [if_neg c160] at H
                            exact absurd H (by simp)
                          rw [if_pos c160] at H
                          have c160b0 : decide ((ji156) < (t410.length : Int)) = true := decide_eq_true c160
                          clear c160 hr
                          obtain rfl := Option.some.inj H
                          obtain ⟨Ao161, co161, eo161⟩ := Kd.R_slice HO_14.out
                          subst eo161
                          have p427 : 0 ≤ ((ji156) : Int) := of_decide_eq_true (by first | (with_reducible assumption) | assumption)
                          have q427 : (ji156) < (t407.length : Int) := of_decide_eq_true (by first | (with_reducible assumption) | assumption)
                          obtain ⟨ad427, e427, hx427_0⟩ := Kd.at_int (Kd.R_reads' HO_14.out).2.2 (ji156) p427 q427
                          cases e427
                          replace p427 := eq_true p427
                          replace q427 := eq_true q427
                          obtain ⟨Ao162, co162, eo162⟩ := Kd.R_slice HO_15.out
                          subst eo162
                          have p428 : 0 ≤ ((ji156) : Int) := of_decide_eq_true (by first | (with_reducible assumption) | assumption)
                          have q428 : (ji156) < (t410.length : Int) := of_decide_eq_true (by first | (with_reducible assumption) | assumption)
                          obtain ⟨ad428, e428, hx428_0⟩ := Kd.at_int (Kd.R_reads' HO_15.out).2.2 (ji156) p428 q428
                          cases e428
                          replace p428 := eq_true p428
                          replace q428 := eq_true q428
                          go_wp2
                          go_ret
                          exact ⟨by first | rfl | (simp [errW_none, errW_some] <;> rfl) | (simp only [← hji156]; first | rfl | (simp [errW_none, errW_some] <;> rfl)) | (simp [*, errW_none, errW_some] <;> rfl), by repeat (first | (with_reducible first | exact HB.out | apply below_alloc | apply pw_below_drewN | apply below_drew1 | refine below_set ?_ GE385.out | refine below_set ?_ GE390.out) | exact HB.out)⟩
                        rw [if_pos c119] at H
                        have c119b0 : decide (x157_5 < (l1.length : Int)) = true := decide_eq_true c119
                        clear c119
                        by_cases c120 : 0 ≤ x157_5
                        rotate_left
                        · rw [if_neg c120] at H
                          exact absurd H (by simp)
                        rw [if_pos c120] at H
                        have c120b0 : decide (0 ≤ x157_5) = true := decide_eq_true c120
                        clear c120
                        by_cases c121 : x157_5 < (l1.length : Int)
                        rotate_left
                        · rw [if_neg c121] at H
                          exact absurd H (by simp)
                        rw [if_pos c121] at H
                        have c121b0 : decide (x157_5 < (l1.length : Int)) = true := decide_eq_true c121
                        clear c121
                        by_cases c122 : ((rd_T40 l1 x157_5).f0) ≥ (wrap64 (4 * (Int.tmod (wrap64 ((Int.tmod a2 64) + 64)) 64)))
                        rotate_left
                        · rw [if_neg c122] at H
                          have c122b0 : decide ((wrap64 (4 * (Int.tmod (wrap64 ((Int.tmod a2 64) + 64)) 64))) ≤ ((rd_T40 l1 x157_5).f0)) = false := decide_eq_false c122
                          clear c122
                          have H' := Aside0.mk H
                          clear H
                          have p425 : 0 ≤ (x157_5 : Int) := of_decide_eq_true (by first | (with_reducible assumption) | assumption)
                          have q425 : x157_5 < (l1.length : Int) := of_decide_eq_true (by first | (with_reducible assumption) | assumption)
                          obtain ⟨ad425, e425, hx425_0, hx425_1⟩ := at_T40 HR1.out x157_5 p425 q425
                          cases e425
                          replace hx425_0 := (HB.out.cell (World.block_lt_of_cell? w _ hx425_0)).trans hx425_0
                          replace hx425_1 := (HB.out.cell (World.block_lt_of_cell? w _ hx425_1)).trans hx425_1
                          replace p425 := eq_true p425
                          replace q425 := eq_true q425
                          go_wp2_with (first | ((with_reducible refine gate_dst (N := 24) rfl ?_); (try (refine gate_guard (by rfl) ?_; dsimp only)); refine box_event ?hg (N := 24) ?hd (cs := #[.int .i64 0, .int .i64 0]) (t := 40) ?hr ?_; (case hd => rfl); (case hg => rfl); (case hr => first | (go_simp; done) | (go_simp; rfl)); intro gb426 hg w150 hbox hb; have BK426 := Aside0.mk (hbox); have GW426 := Aside0.mk ((by rw [hg]; exact (below_size (by repeat (first | (with_reducible first | exact HB.out | apply below_alloc | apply pw_below_drewN | apply below_drew1 | refine below_set ?_ GE385.out | refine below_set ?_ GE390.out) | exact HB.out))) : w.heap.size ≤ gb426)); have GE426 := Aside0.mk ((by rw [hg]; exact (below_size (by repeat (first | (with_reducible first | exact HB.out | apply below_alloc | apply pw_below_drewN | apply below_drew1 | refine below_set ?_ GE385.out | refine below_set ?_ GE390.out) | exact HB.out))) : w.heap.size ≤ gb426)); have NB385_426 := Aside0.mk ((by rw [hg]; exact Nat.ne_of_lt (blk_lt (g := gb385) (o := .cells #[.int .i64 (wrap64 (4 * t383)), .int .i64 (wrap64 (4 * t384))] 40 (0, 0)) (by (with_reducible repeat (first | refine blk_drewN ?_ _ | refine blk_drew ?_ | refine blk_alloc ?_ _)); exact BK385.out)) : gb385 ≠ gb426)); have NB426_385 := Aside0.mk ((by rw [hg]; exact Nat.ne_of_gt (blk_lt (g := gb385) (o := .cells #[.int .i64 (wrap64 (4 * t383)), .int .i64 (wrap64 (4 * t384))] 40 (0, 0)) (by (with_reducible repeat (first | refine blk_drewN ?_ _ | refine blk_drew ?_ | refine blk_alloc ?_ _)); exact BK385.out)) : gb426 ≠ gb385)); have NB390_426 := Aside0.mk ((by rw [hg]; exact Nat.ne_of_lt (blk_lt (g := gb390) (o := .cells #[.int .i64 (wrap64 (4 * (Int.tmod (wrap64 ((Int.tmod a2 64) + 64)) 64))), .int .i64 (wrap64 (4 * (Int.tmod (wrap64 ((Int.tmod a3 64) + 64)) 64))), .int .i64 (wrap64 ((wrap64 (4 * (Int.tmod (wrap64 ((Int.tmod a2 64) + 64)) 64))) + 4)), .int .i64 (wrap64 ((wrap64 (4 * (Int.tmod (wrap64 ((Int.tmod a3 64) + 64)) 64))) + 4))] 42 (0, 0)) (by (with_reducible repeat (first | refine blk_drewN ?_ _ | refine blk_drew ?_ | refine blk_alloc ?_ _)); exact BK390.out)) : gb390 ≠ gb426)); have NB426_390 := Aside0.mk ((by rw [hg]; exact Nat.ne_of_gt (blk_lt (g := gb390) (o := .cells #[.int .i64 (wrap64 (4 * (Int.tmod (wrap64 ((Int.tmod a2 64) + 64)) 64))), .int .i64 (wrap64 (4 * (Int.tmod (wrap64 ((Int.tmod a3 64) + 64)) 64))), .int .i64 (wrap64 ((wrap64 (4 * (Int.tmod (wrap64 ((Int.tmod a2 64) + 64)) 64))) + 4)), .int .i64 (wrap64 ((wrap64 (4 * (Int.tmod (wrap64 ((Int.tmod a3 64) + 64)) 64))) + 4))] 42 (0, 0)) (by (with_reducible repeat (first | refine blk_drewN ?_ _ | refine blk_drew ?_ | refine blk_alloc ?_ _)); exact BK390.out)) : gb426 ≠ gb390)); replace HO_14 := Aside0.mk (Kd.R_below (by (with_reducible repeat (first | apply Kd.R_alloc | apply Kd.R_drewN | apply Kd.R_drew)); exact HO_14.out) hb); replace HO_15 := Aside0.mk (Kd.R_below (by (with_reducible repeat (first | apply Kd.R_alloc | apply Kd.R_drewN | apply Kd.R_drew)); exact HO_15.out) hb); replace BK385 := Aside0.mk (blk_below (g := gb385) (o := .cells #[.int .i64 (wrap64 (4 * t383)), .int .i64 (wrap64 (4 * t384))] 40 (0, 0)) (by (with_reducible repeat (first | refine blk_drewN ?_ _ | refine blk_drew ?_ | refine blk_alloc ?_ _)); exact BK385.out) hb); replace BK390 := Aside0.mk (blk_below (g := gb390) (o := .cells #[.int .i64 (wrap64 (4 * (Int.tmod (wrap64 ((Int.tmod a2 64) + 64)) 64))), .int .i64 (wrap64 (4 * (Int.tmod (wrap64 ((Int.tmod a3 64) + 64)) 64))), .int .i64 (wrap64 ((wrap64 (4 * (Int.tmod (wrap64 ((Int.tmod a2 64) + 64)) 64))) + 4)), .int .i64 (wrap64 ((wrap64 (4 * (Int.tmod (wrap64 ((Int.tmod a3 64) + 64)) 64))) + 4))] 42 (0, 0)) (by (with_reducible repeat (first | refine blk_drewN ?_ _ | refine blk_drew ?_ | refine blk_alloc ?_ _)); exact BK390.out) hb); replace HB := Aside0.mk (below_step (by repeat (first | (with_reducible first | exact HB.out | apply below_alloc | apply pw_below_drewN | apply below_drew1 | refine below_set ?_ GE385.out | refine below_set ?_ GE390.out) | exact HB.out)) hb); clear hb hbox hg; have hnb151 := NB426_385.out; have hnc151 := NB385_426.out; have hnb152 := NB426_390.out; have hnc152 := NB390_426.out; have hcz153_0 : w150.cell? ⟨gb426, 0, none⟩ = some (.int .i64 0) := (blk_cell BK426.out 0).trans rfl; have hcz153_1 : w150.cell? ⟨gb426, 1, none⟩ = some (.int .i64 0) := (blk_cell BK426.out 1).trans rfl; have hfz153_0 := blk_frozen BK426.out 0; have hfz153_1 := blk_frozen BK426.out 1; have hnb154 := NB390_385.out; have hnc154 := NB385_390.out; have hcz155_0 : w150.cell? ⟨gb390, 0, none⟩ = some (.int .i64 (wrap64 (4 * (Int.tmod (wrap64 ((Int.tmod a2 64) + 64)) 64)))) := (blk_cell BK390.out 0).trans rfl; have hcz155_1 : w150.cell? ⟨gb390, 1, none⟩ = some (.int .i64 (wrap64 (4 * (Int.tmod (wrap64 ((Int.tmod a3 64) + 64)) 64)))) := (blk_cell BK390.out 1).trans rfl; have hcz155_2 : w150.cell? ⟨gb390, 2, none⟩ = some (.int .i64 (wrap64 ((wrap64 (4 * (Int.tmod (wrap64 ((Int.tmod a2 64) + 64)) 64))) + 4))) := (blk_cell BK390.out 2).trans rfl; have hcz155_3 : w150.cell? ⟨gb390, 3, none⟩ = some (.int .i64 (wrap64 ((wrap64 (4 * (Int.tmod (wrap64 ((Int.tmod a3 64) + 64)) 64))) + 4))) := (blk_cell BK390.out 3).trans rfl; have hfz155_0 := blk_frozen BK390.out 0; have hfz155_1 := blk_frozen BK390.out 1; have hfz155_2 := blk_frozen BK390.out 2; have hfz155_3 := blk_frozen BK390.out 3))
                          go_roundg k5
                          case measure => have := HK1.out; have := HJ39.out; have := HJ52.out; have := HK4.out; have := HK5.out; omega
                          case rel => exact ⟨(x17_5), (wrap64 (x157_5 + 1)), (by first | rfl | (simp; done) | (simp [*]; done)), (by first | rfl | (simp; done) | (simp [*]; done)), H', ⟨by have := HK1.out; have := HJ39.out; have := HJ52.out; have := HK4.out; have := HK5.out; omega⟩, ⟨by (with_reducible repeat (first | apply Kd.R_alloc | apply Kd.R_drewN | apply Kd.R_drew)); exact Kd.R_mono (Kd.R_far (p := ⟨gb426, 1, none⟩) (Kd.R_far (p := ⟨gb426, 0, none⟩) (Kd.R_types HO_14.out BK426.out (by decide)) (fun _ hk => hk.2) (.int .i64 ((rd_T40 l1 x157_5).f0))) (fun _ hk => hk.2) (.int .i64 ((rd_T40 l1 x157_5).f1))) (fun _ hk => hk.1)⟩, ⟨by (with_reducible repeat (first | apply Kd.R_alloc | apply Kd.R_drewN | apply Kd.R_drew)); exact Kd.R_mono (Kd.R_far (p := ⟨gb426, 1, none⟩) (Kd.R_far (p := ⟨gb426, 0, none⟩) (Kd.R_types HO_15.out BK426.out (by decide)) (fun _ hk => hk.2) (.int .i64 ((rd_T40 l1 x157_5).f0))) (fun _ hk => hk.2) (.int .i64 ((rd_T40 l1 x157_5).f1))) (fun _ hk => hk.1)⟩, ⟨by (with_reducible repeat (first | refine blk_drewN ?_ _ | refine blk_drew ?_ | refine blk_alloc ?_ _)); refine blk_far ?_ NB385_426.out _; (with_reducible repeat (first | refine blk_drewN ?_ _ | refine blk_drew ?_ | refine blk_alloc ?_ _)); refine blk_far ?_ NB385_426.out _; (with_reducible repeat (first | refine blk_drewN ?_ _ | refine blk_drew ?_ | refine blk_alloc ?_ _)); exact BK385.out⟩, ⟨by (with_reducible repeat (first | refine blk_drewN ?_ _ | refine blk_drew ?_ | refine blk_alloc ?_ _)); refine blk_far ?_ NB390_426.out _; (with_reducible repeat (first | refine blk_drewN ?_ _ | refine blk_drew ?_ | refine blk_alloc ?_ _)); refine blk_far ?_ NB390_426.out _; (with_reducible repeat (first | refine blk_drewN ?_ _ | refine blk_drew ?_ | refine blk_alloc ?_ _)); exact BK390.out⟩, ⟨by repeat (first | (with_reducible first | exact HB.out | apply below_alloc | apply pw_below_drewN | apply below_drew1 | refine below_set ?_ GE385.out | refine below_set ?_ GE390.out | refine below_set ?_ GE426.out) | exact HB.out)⟩⟩
                        rw [if_pos c122] at H
                        have c122b0 : decide ((wrap64 (4 * (Int.tmod (wrap64 ((Int.tmod a2 64) + 64)) 64))) ≤ ((rd_T40 l1 x157_5).f0)) = true := decide_eq_true c122
                        clear c122
                        by_cases c123 : ((rd_T40 l1 x157_5).f0) < (wrap64 ((wrap64 (4 * (Int.tmod (wrap64 ((Int.tmod a2 64) + 64)) 64))) + 4))
                        rotate_left
                        · rw [if_neg c123] at H
                          have c123b0 : decide (((rd_T40 l1 x157_5).f0) < (wrap64 ((wrap64 (4 * (Int.tmod (wrap64 ((Int.tmod a2 64) + 64)) 64))) + 4))) = false := decide_eq_false c123
                          clear c123
                          have H' := Aside0.mk H
                          clear H
                          have p425 : 0 ≤ (x157_5 : Int) := of_decide_eq_true (by first | (with_reducible assumption) | assumption)
                          have q425 : x157_5 < (l1.length : Int) := of_decide_eq_true (by first | (with_reducible assumption) | assumption)
                          obtain ⟨ad425, e425, hx425_0, hx425_1⟩ := at_T40 HR1.out x157_5 p425 q425
                          cases e425
                          replace hx425_0 := (HB.out.cell (World.block_lt_of_cell? w _ hx425_0)).trans hx425_0
                          replace hx425_1 := (HB.out.cell (World.block_lt_of_cell? w _ hx425_1)).trans hx425_1
                          replace p425 := eq_true p425
                          replace q425 := eq_true q425
                          go_wp2_with (first | ((with_reducible refine gate_dst (N := 24) rfl ?_); (try (refine gate_guard (by rfl) ?_; dsimp only)); refine box_event ?hg (N := 24) ?hd (cs := #[.int .i64 0, .int .i64 0]) (t := 40) ?hr ?_; (case hd => rfl); (case hg => rfl); (case hr => first | (go_simp; done) | (go_simp; rfl)); intro gb426 hg w144 hbox hb; have BK426 := Aside0.mk (hbox); have GW426 := Aside0.mk ((by rw [hg]; exact (below_size (by repeat (first | (with_reducible first | exact HB.out | apply below_alloc | apply pw_below_drewN | apply below_drew1 | refine below_set ?_ GE385.out | refine below_set ?_ GE390.out) | exact HB.out))) : w.heap.size ≤ gb426)); have GE426 := Aside0.mk ((by rw [hg]; exact (below_size (by repeat (first | (with_reducible first | exact HB.out | apply below_alloc | apply pw_below_drewN | apply below_drew1 | refine below_set ?_ GE385.out | refine below_set ?_ GE390.out) | exact HB.out))) : w.heap.size ≤ gb426)); have NB385_426 := Aside0.mk ((by rw [hg]; exact Nat.ne_of_lt (blk_lt (g := gb385) (o := .cells #[.int .i64 (wrap64 (4 * t383)), .int .i64 (wrap64 (4 * t384))] 40 (0, 0)) (by (with_reducible repeat (first | refine blk_drewN ?_ _ | refine blk_drew ?_ | refine blk_alloc ?_ _)); exact BK385.out)) : gb385 ≠ gb426)); have NB426_385 := Aside0.mk ((by rw [hg]; exact Nat.ne_of_gt (blk_lt (g := gb385) (o := .cells #[.int .i64 (wrap64 (4 * t383)), .int .i64 (wrap64 (4 * t384))] 40 (0, 0)) (by (with_reducible repeat (first | refine blk_drewN ?_ _ | refine blk_drew ?_ | refine blk_alloc ?_ _)); exact BK385.out)) : gb426 ≠ gb385)); have NB390_426 := Aside0.mk ((by rw [hg]; exact Nat.ne_of_lt (blk_lt (g := gb390) (o := .cells #[.int .i64 (wrap64 (4 * (Int.tmod (wrap64 ((Int.tmod a2 64) + 64)) 64))), .int .i64 (wrap64 (4 * (Int.tmod (wrap64 ((Int.tmod a3 64) + 64)) 64))), .int .i64 (wrap64 ((wrap64 (4 * (Int.tmod (wrap64 ((Int.tmod a2 64) + 64)) 64))) + 4)), .int .i64 (wrap64 ((wrap64 (4 * (Int.tmod (wrap64 ((Int.tmod a3 64) + 64)) 64))) + 4))] 42 (0, 0)) (by (with_reducible repeat (first | refine blk_drewN ?_ _ | refine blk_drew ?_ | refine blk_alloc ?_ _)); exact BK390.out)) : gb390 ≠ gb426)); have NB426_390 := Aside0.mk ((by rw [hg]; exact Nat.ne_of_gt (blk_lt (g := gb390) (o := .cells #[.int .i64 (wrap64 (4 * (Int.tmod (wrap64 ((Int.tmod a2 64) + 64)) 64))), .int .i64 (wrap64 (4 * (Int.tmod (wrap64 ((Int.tmod a3 64) + 64)) 64))), .int .i64 (wrap64 ((wrap64 (4 * (Int.tmod (wrap64 ((Int.tmod a2 64) + 64)) 64))) + 4)), .int .i64 (wrap64 ((wrap64 (4 * (Int.tmod (wrap64 ((Int.tmod a3 64) + 64)) 64))) + 4))] 42 (0, 0)) (by (with_reducible repeat (first | refine blk_drewN ?_ _ | refine blk_drew ?_ | refine blk_alloc ?_ _)); exact BK390.out)) : gb426 ≠ gb390)); replace HO_14 := Aside0.mk (Kd.R_below (by (with_reducible repeat (first | apply Kd.R_alloc | apply Kd.R_drewN | apply Kd.R_drew)); exact HO_14.out) hb); replace HO_15 := Aside0.mk (Kd.R_below (by (with_reducible repeat (first | apply Kd.R_alloc | apply Kd.R_drewN | apply Kd.R_drew)); exact HO_15.out) hb); replace BK385 := Aside0.mk (blk_below (g := gb385) (o := .cells #[.int .i64 (wrap64 (4 * t383)), .int .i64 (wrap64 (4 * t384))] 40 (0, 0)) (by (with_reducible repeat (first | refine blk_drewN ?_ _ | refine blk_drew ?_ | refine blk_alloc ?_ _)); exact BK385.out) hb); replace BK390 := Aside0.mk (blk_below (g := gb390) (o := .cells #[.int .i64 (wrap64 (4 * (Int.tmod (wrap64 ((Int.tmod a2 64) + 64)) 64))), .int .i64 (wrap64 (4 * (Int.tmod (wrap64 ((Int.tmod a3 64) + 64)) 64))), .int .i64 (wrap64 ((wrap64 (4 * (Int.tmod (wrap64 ((Int.tmod a2 64) + 64)) 64))) + 4)), .int .i64 (wrap64 ((wrap64 (4 * (Int.tmod (wrap64 ((Int.tmod a3 64) + 64)) 64))) + 4))] 42 (0, 0)) (by (with_reducible repeat (first | refine blk_drewN ?_ _ | refine blk_drew ?_ | refine blk_alloc ?_ _)); exact BK390.out) hb); replace HB := Aside0.mk (below_step (by repeat (first | (with_reducible first | exact HB.out | apply below_alloc | apply pw_below_drewN | apply below_drew1 | refine below_set ?_ GE385.out | refine below_set ?_ GE390.out) | exact HB.out)) hb); clear hb hbox hg; have hnb145 := NB426_385.out; have hnc145 := NB385_426.out; have hnb146 := NB426_390.out; have hnc146 := NB390_426.out; have hcz147_0 : w144.cell? ⟨gb426, 0, none⟩ = some (.int .i64 0) := (blk_cell BK426.out 0).trans rfl; have hcz147_1 : w144.cell? ⟨gb426, 1, none⟩ = some (.int .i64 0) := (blk_cell BK426.out 1).trans rfl; have hfz147_0 := blk_frozen BK426.out 0; have hfz147_1 := blk_frozen BK426.out 1; have hnb148 := NB390_385.out; have hnc148 := NB385_390.out; have hcz149_0 : w144.cell? ⟨gb390, 0, none⟩ = some (.int .i64 (wrap64 (4 * (Int.tmod (wrap64 ((Int.tmod a2 64) + 64)) 64)))) := (blk_cell BK390.out 0).trans rfl; have hcz149_1 : w144.cell? ⟨gb390, 1, none⟩ = some (.int .i64 (wrap64 (4 * (Int.tmod (wrap64 ((Int.tmod a3 64) + 64)) 64)))) := (blk_cell BK390.out 1).trans rfl; have hcz149_2 : w144.cell? ⟨gb390, 2, none⟩ = some (.int .i64 (wrap64 ((wrap64 (4 * (Int.tmod (wrap64 ((Int.tmod a2 64) + 64)) 64))) + 4))) := (blk_cell BK390.out 2).trans rfl; have hcz149_3 : w144.cell? ⟨gb390, 3, none⟩ = some (.int .i64 (wrap64 ((wrap64 (4 * (Int.tmod (wrap64 ((Int.tmod a3 64) + 64)) 64))) + 4))) := (blk_cell BK390.out 3).trans rfl; have hfz149_0 := blk_frozen BK390.out 0; have hfz149_1 := blk_frozen BK390.out 1; have hfz149_2 := blk_frozen BK390.out 2; have hfz149_3 := blk_frozen BK390.out 3))
                          go_roundg k5
                          case measure => have := HK1.out; have := HJ39.out; have := HJ52.out; have := HK4.out; have := HK5.out; omega
                          case rel => exact ⟨(x17_5), (wrap64 (x157_5 + 1)), (by first | rfl | (simp; done) | (simp [*]; done)), (by first | rfl | (simp; done) | (simp [*]; done)), H', ⟨by have := HK1.out; have := HJ39.out; have := HJ52.out; have := HK4.out; have := HK5.out; omega⟩, ⟨by (with_reducible repeat (first | apply Kd.R_alloc | apply Kd.R_drewN | apply Kd.R_drew)); exact Kd.R_mono (Kd.R_far (p := ⟨gb426, 1, none⟩) (Kd.R_far (p := ⟨gb426, 0, none⟩) (Kd.R_types HO_14.out BK426.out (by decide)) (fun _ hk => hk.2) (.int .i64 ((rd_T40 l1 x157_5).f0))) (fun _ hk => hk.2) (.int .i64 ((rd_T40 l1 x157_5).f1))) (fun _ hk => hk.1)⟩, ⟨by (with_reducible repeat (first | apply Kd.R_alloc | apply Kd.R_drewN | apply Kd.R_drew)); exact Kd.R_mono (Kd.R_far (p := ⟨gb426, 1, none⟩) (Kd.R_far (p := ⟨gb426, 0, none⟩) (Kd.R_types HO_15.out BK426.out (by decide)) (fun _ hk => hk.2) (.int .i64 ((rd_T40 l1 x157_5).f0))) (fun _ hk => hk.2) (.int .i64 ((rd_T40 l1 x157_5).f1))) (fun _ hk => hk.1)⟩, ⟨by (with_reducible repeat (first | refine blk_drewN ?_ _ | refine blk_drew ?_ | refine blk_alloc ?_ _)); refine blk_far ?_ NB385_426.out _; (with_reducible repeat (first | refine blk_drewN ?_ _ | refine blk_drew ?_ | refine blk_alloc ?_ _)); refine blk_far ?_ NB385_426.out _; (with_reducible repeat (first | refine blk_drewN ?_ _ | refine blk_drew ?_ | refine blk_alloc ?_ _)); exact BK385.out⟩, ⟨by (with_reducible repeat (first | refine blk_drewN ?_ _ | refine blk_drew ?_ | refine blk_alloc ?_ _)); refine blk_far ?_ NB390_426.out _; (with_reducible repeat (first | refine blk_drewN ?_ _ | refine blk_drew ?_ | refine blk_alloc ?_ _)); refine blk_far ?_ NB390_426.out _; (with_reducible repeat (first | refine blk_drewN ?_ _ | refine blk_drew ?_ | refine blk_alloc ?_ _)); exact BK390.out⟩, ⟨by repeat (first | (with_reducible first | exact HB.out | apply below_alloc | apply pw_below_drewN | apply below_drew1 | refine below_set ?_ GE385.out | refine below_set ?_ GE390.out | refine below_set ?_ GE426.out) | exact HB.out)⟩⟩
                        rw [if_pos c123] at H
                        have c123b0 : decide (((rd_T40 l1 x157_5).f0) < (wrap64 ((wrap64 (4 * (Int.tmod (wrap64 ((Int.tmod a2 64) + 64)) 64))) + 4))) = true := decide_eq_true c123
                        clear c123
                        by_cases c124 : ((rd_T40 l1 x157_5).f1) ≥ (wrap64 (4 * (Int.tmod (wrap64 ((Int.tmod a3 64) + 64)) 64)))
                        rotate_left
                        · rw [if_neg c124] at H
                          have c124b0 : decide ((wrap64 (4 * (Int.tmod (wrap64 ((Int.tmod a3 64) + 64)) 64))) ≤ ((rd_T40 l1 x157_5).f1)) = false := decide_eq_false c124
                          clear c124
                          have H' := Aside0.mk H
                          clear H
                          have p425 : 0 ≤ (x157_5 : Int) := of_decide_eq_true (by first | (with_reducible assumption) | assumption)
                          have q425 : x157_5 < (l1.length : Int) := of_decide_eq_true (by first | (with_reducible assumption) | assumption)
                          obtain ⟨ad425, e425, hx425_0, hx425_1⟩ := at_T40 HR1.out x157_5 p425 q425
                          cases e425
                          replace hx425_0 := (HB.out.cell (World.block_lt_of_cell? w _ hx425_0)).trans hx425_0
                          replace hx425_1 := (HB.out.cell (World.block_lt_of_cell? w _ hx425_1)).trans hx425_1
                          replace p425 := eq_true p425
                          replace q425 := eq_true q425
                          go_wp2_with (first | ((with_reducible refine gate_dst (N := 24) rfl ?_); (try (refine gate_guard (by rfl) ?_; dsimp only)); refine box_event ?hg (N := 24) ?hd (cs := #[.int .i64 0, .int .i64 0]) (t := 40) ?hr ?_; (case hd => rfl); (case hg => rfl); (case hr => first | (go_simp; done) | (go_simp; rfl)); intro gb426 hg w138 hbox hb; have BK426 := Aside0.mk (hbox); have GW426 := Aside0.mk ((by rw [hg]; exact (below_size (by repeat (first | (with_reducible first | exact HB.out | apply below_alloc | apply pw_below_drewN | apply below_drew1 | refine below_set ?_ GE385.out | refine below_set ?_ GE390.out) | exact HB.out))) : w.heap.size ≤ gb426)); have GE426 := Aside0.mk ((by rw [hg]; exact (below_size (by repeat (first | (with_reducible first | exact HB.out | apply below_alloc | apply pw_below_drewN | apply below_drew1 | refine below_set ?_ GE385.out | refine below_set ?_ GE390.out) | exact HB.out))) : w.heap.size ≤ gb426)); have NB385_426 := Aside0.mk ((by rw [hg]; exact Nat.ne_of_lt (blk_lt (g := gb385) (o := .cells #[.int .i64 (wrap64 (4 * t383)), .int .i64 (wrap64 (4 * t384))] 40 (0, 0)) (by (with_reducible repeat (first | refine blk_drewN ?_ _ | refine blk_drew ?_ | refine blk_alloc ?_ _)); exact BK385.out)) : gb385 ≠ gb426)); have NB426_385 := Aside0.mk ((by rw [hg]; exact Nat.ne_of_gt (blk_lt (g := gb385) (o := .cells #[.int .i64 (wrap64 (4 * t383)), .int .i64 (wrap64 (4 * t384))] 40 (0, 0)) (by (with_reducible repeat (first | refine blk_drewN ?_ _ | refine blk_drew ?_ | refine blk_alloc ?_ _)); exact BK385.out)) : gb426 ≠ gb385)); have NB390_426 := Aside0.mk ((by rw [hg]; exact Nat.ne_of_lt (blk_lt (g := gb390) (o := .cells #[.int .i64 (wrap64 (4 * (Int.tmod (wrap64 ((Int.tmod a2 64) + 64)) 64))), .int .i64 (wrap64 (4 * (Int.tmod (wrap64 ((Int.tmod a3 64) + 64)) 64))), .int .i64 (wrap64 ((wrap64 (4 * (Int.tmod (wrap64 ((Int.tmod a2 64) + 64)) 64))) + 4)), .int .i64 (wrap64 ((wrap64 (4 * (Int.tmod (wrap64 ((Int.tmod a3 64) + 64)) 64))) + 4))] 42 (0, 0)) (by (with_reducible repeat (first | refine blk_drewN ?_ _ | refine blk_drew ?_ | refine blk_alloc ?_ _)); exact BK390.out)) : gb390 ≠ gb426)); have NB426_390 := Aside0.mk ((by rw [hg]; exact Nat.ne_of_gt (blk_lt (g := gb390) (o := .cells #[.int .i64 (wrap64 (4 * (Int.tmod (wrap64 ((Int.tmod a2 64) + 64)) 64))), .int .i64 (wrap64 (4 * (Int.tmod (wrap64 ((Int.tmod a3 64) + 64)) 64))), .int .i64 (wrap64 ((wrap64 (4 * (Int.tmod (wrap64 ((Int.tmod a2 64) + 64)) 64))) + 4)), .int .i64 (wrap64 ((wrap64 (4 * (Int.tmod (wrap64 ((Int.tmod a3 64) + 64)) 64))) + 4))] 42 (0, 0)) (by (with_reducible repeat (first | refine blk_drewN ?_ _ | refine blk_drew ?_ | refine blk_alloc ?_ _)); exact BK390.out)) : gb426 ≠ gb390)); replace HO_14 := Aside0.mk (Kd.R_below (by (with_reducible repeat (first | apply Kd.R_alloc | apply Kd.R_drewN | apply Kd.R_drew)); exact HO_14.out) hb); replace HO_15 := Aside0.mk (Kd.R_below (by (with_reducible repeat (first | apply Kd.R_alloc | apply Kd.R_drewN | apply Kd.R_drew)); exact HO_15.out) hb); replace BK385 := Aside0.mk (blk_below (g := gb385) (o := .cells #[.int .i64 (wrap64 (4 * t383)), .int .i64 (wrap64 (4 * t384))] 40 (0, 0)) (by (with_reducible repeat (first | refine blk_drewN ?_ _ | refine blk_drew ?_ | refine blk_alloc ?_ _)); exact BK385.out) hb); replace BK390 := Aside0.mk (blk_below (g := gb390) (o := .cells #[.int .i64 (wrap64 (4 * (Int.tmod (wrap64 ((Int.tmod a2 64) + 64)) 64))), .int .i64 (wrap64 (4 * (Int.tmod (wrap64 ((Int.tmod a3 64) + 64)) 64))), .int .i64 (wrap64 ((wrap64 (4 * (Int.tmod (wrap64 ((Int.tmod a2 64) + 64)) 64))) + 4)), .int .i64 (wrap64 ((wrap64 (4 * (Int.tmod (wrap64 ((Int.tmod a3 64) + 64)) 64))) + 4))] 42 (0, 0)) (by (with_reducible repeat (first | refine blk_drewN ?_ _ | refine blk_drew ?_ | refine blk_alloc ?_ _)); exact BK390.out) hb); replace HB := Aside0.mk (below_step (by repeat (first | (with_reducible first | exact HB.out | apply below_alloc | apply pw_below_drewN | apply below_drew1 | refine below_set ?_ GE385.out | refine below_set ?_ GE390.out) | exact HB.out)) hb); clear hb hbox hg; have hnb139 := NB426_385.out; have hnc139 := NB385_426.out; have hnb140 := NB426_390.out; have hnc140 := NB390_426.out; have hcz141_0 : w138.cell? ⟨gb426, 0, none⟩ = some (.int .i64 0) := (blk_cell BK426.out 0).trans rfl; have hcz141_1 : w138.cell? ⟨gb426, 1, none⟩ = some (.int .i64 0) := (blk_cell BK426.out 1).trans rfl; have hfz141_0 := blk_frozen BK426.out 0; have hfz141_1 := blk_frozen BK426.out 1; have hnb142 := NB390_385.out; have hnc142 := NB385_390.out; have hcz143_0 : w138.cell? ⟨gb390, 0, none⟩ = some (.int .i64 (wrap64 (4 * (Int.tmod (wrap64 ((Int.tmod a2 64) + 64)) 64)))) := (blk_cell BK390.out 0).trans rfl; have hcz143_1 : w138.cell? ⟨gb390, 1, none⟩ = some (.int .i64 (wrap64 (4 * (Int.tmod (wrap64 ((Int.tmod a3 64) + 64)) 64)))) := (blk_cell BK390.out 1).trans rfl; have hcz143_2 : w138.cell? ⟨gb390, 2, none⟩ = some (.int .i64 (wrap64 ((wrap64 (4 * (Int.tmod (wrap64 ((Int.tmod a2 64) + 64)) 64))) + 4))) := (blk_cell BK390.out 2).trans rfl; have hcz143_3 : w138.cell? ⟨gb390, 3, none⟩ = some (.int .i64 (wrap64 ((wrap64 (4 * (Int.tmod (wrap64 ((Int.tmod a3 64) + 64)) 64))) + 4))) := (blk_cell BK390.out 3).trans rfl; have hfz143_0 := blk_frozen BK390.out 0; have hfz143_1 := blk_frozen BK390.out 1; have hfz143_2 := blk_frozen BK390.out 2; have hfz143_3 := blk_frozen BK390.out 3))
                          go_roundg k5
                          case measure => have := HK1.out; have := HJ39.out; have := HJ52.out; have := HK4.out; have := HK5.out; omega
                          case rel => exact ⟨(x17_5), (wrap64 (x157_5 + 1)), (by first | rfl | (simp; done) | (simp [*]; done)), (by first | rfl | (simp; done) | (simp [*]; done)), H', ⟨by have := HK1.out; have := HJ39.out; have := HJ52.out; have := HK4.out; have := HK5.out; omega⟩, ⟨by (with_reducible repeat (first | apply Kd.R_alloc | apply Kd.R_drewN | apply Kd.R_drew)); exact Kd.R_mono (Kd.R_far (p := ⟨gb426, 1, none⟩) (Kd.R_far (p := ⟨gb426, 0, none⟩) (Kd.R_types HO_14.out BK426.out (by decide)) (fun _ hk => hk.2) (.int .i64 ((rd_T40 l1 x157_5).f0))) (fun _ hk => hk.2) (.int .i64 ((rd_T40 l1 x157_5).f1))) (fun _ hk => hk.1)⟩, ⟨by (with_reducible repeat (first | apply Kd.R_alloc | apply Kd.R_drewN | apply Kd.R_drew)); exact Kd.R_mono (Kd.R_far (p := ⟨gb426, 1, none⟩) (Kd.R_far (p := ⟨gb426, 0, none⟩) (Kd.R_types HO_15.out BK426.out (by decide)) (fun _ hk => hk.2) (.int .i64 ((rd_T40 l1 x157_5).f0))) (fun _ hk => hk.2) (.int .i64 ((rd_T40 l1 x157_5).f1))) (fun _ hk => hk.1)⟩, ⟨by (with_reducible repeat (first | refine blk_drewN ?_ _ | refine blk_drew ?_ | refine blk_alloc ?_ _)); refine blk_far ?_ NB385_426.out _; (with_reducible repeat (first | refine blk_drewN ?_ _ | refine blk_drew ?_ | refine blk_alloc ?_ _)); refine blk_far ?_ NB385_426.out _; (with_reducible repeat (first | refine blk_drewN ?_ _ | refine blk_drew ?_ | refine blk_alloc ?_ _)); exact BK385.out⟩, ⟨by (with_reducible repeat (first | refine blk_drewN ?_ _ | refine blk_drew ?_ | refine blk_alloc ?_ _)); refine blk_far ?_ NB390_426.out _; (with_reducible repeat (first | refine blk_drewN ?_ _ | refine blk_drew ?_ | refine blk_alloc ?_ _)); refine blk_far ?_ NB390_426.out _; (with_reducible repeat (first | refine blk_drewN ?_ _ | refine blk_drew ?_ | refine blk_alloc ?_ _)); exact BK390.out⟩, ⟨by repeat (first | (with_reducible first | exact HB.out | apply below_alloc | apply pw_below_drewN | apply below_drew1 | refine below_set ?_ GE385.out | refine below_set ?_ GE390.out | refine below_set ?_ GE426.out) | exact HB.out)⟩⟩
                        rw [if_pos c124] at H
                        have c124b0 : decide ((wrap64 (4 * (Int.tmod (wrap64 ((Int.tmod a3 64) + 64)) 64))) ≤ ((rd_T40 l1 x157_5).f1)) = true := decide_eq_true c124
                        clear c124
                        by_cases c125 : ((rd_T40 l1 x157_5).f1) < (wrap64 ((wrap64 (4 * (Int.tmod (wrap64 ((Int.tmod a3 64) + 64)) 64))) + 4))
                        rotate_left
                        · rw [if_neg c125] at H
                          have c125b0 : decide (((rd_T40 l1 x157_5).f1) < (wrap64 ((wrap64 (4 * (Int.tmod (wrap64 ((Int.tmod a3 64) + 64)) 64))) + 4))) = false := decide_eq_false c125
                          clear c125
                          have H' := Aside0.mk H
                          clear H
                          have p425 : 0 ≤ (x157_5 : Int) := of_decide_eq_true (by first | (with_reducible assumption) | assumption)
                          have q425 : x157_5 < (l1.length : Int) := of_decide_eq_true (by first | (with_reducible assumption) | assumption)
                          obtain ⟨ad425, e425, hx425_0, hx425_1⟩ := at_T40 HR1.out x157_5 p425 q425
                          cases e425
                          replace hx425_0 := (HB.out.cell (World.block_lt_of_cell? w _ hx425_0)).trans hx425_0
                          replace hx425_1 := (HB.out.cell (World.block_lt_of_cell? w _ hx425_1)).trans hx425_1
                          replace p425 := eq_true p425
                          replace q425 := eq_true q425
                          go_wp2_with (first | ((with_reducible refine gate_dst (N := 24) rfl ?_); (try (refine gate_guard (by rfl) ?_; dsimp only)); refine box_event ?hg (N := 24) ?hd (cs := #[.int .i64 0, .int .i64 0]) (t := 40) ?hr ?_; (case hd => rfl); (case hg => rfl); (case hr => first | (go_simp; done) | (go_simp; rfl)); intro gb426 hg w132 hbox hb; have BK426 := Aside0.mk (hbox); have GW426 := Aside0.mk ((by rw [hg]; exact (below_size (by repeat (first | (with_reducible first | exact HB.out | apply below_alloc | apply pw_below_drewN | apply below_drew1 | refine below_set ?_ GE385.out | refine below_set ?_ GE390.out) | exact HB.out))) : w.heap.size ≤ gb426)); have GE426 := Aside0.mk ((by rw [hg]; exact (below_size (by repeat (first | (with_reducible first | exact HB.out | apply below_alloc | apply pw_below_drewN | apply below_drew1 | refine below_set ?_ GE385.out | refine below_set ?_ GE390.out) | exact HB.out))) : w.heap.size ≤ gb426)); have NB385_426 := Aside0.mk ((by rw [hg]; exact Nat.ne_of_lt (blk_lt (g := gb385) (o := .cells #[.int .i64 (wrap64 (4 * t383)), .int .i64 (wrap64 (4 * t384))] 40 (0, 0)) (by (with_reducible repeat (first | refine blk_drewN ?_ _ | refine blk_drew ?_ | refine blk_alloc ?_ _)); exact BK385.out)) : gb385 ≠ gb426)); have NB426_385 := Aside0.mk ((by rw [hg]; exact Nat.ne_of_gt (blk_lt (g := gb385) (o := .cells #[.int .i64 (wrap64 (4 * t383)), .int .i64 (wrap64 (4 * t384))] 40 (0, 0)) (by (with_reducible repeat (first | refine blk_drewN ?_ _ | refine blk_drew ?_ | refine blk_alloc ?_ _)); exact BK385.out)) : gb426 ≠ gb385)); have NB390_426 := Aside0.mk ((by rw [hg]; exact Nat.ne_of_lt (blk_lt (g := gb390) (o := .cells #[.int .i64 (wrap64 (4 * (Int.tmod (wrap64 ((Int.tmod a2 64) + 64)) 64))), .int .i64 (wrap64 (4 * (Int.tmod (wrap64 ((Int.tmod a3 64) + 64)) 64))), .int .i64 (wrap64 ((wrap64 (4 * (Int.tmod (wrap64 ((Int.tmod a2 64) + 64)) 64))) + 4)), .int .i64 (wrap64 ((wrap64 (4 * (Int.tmod (wrap64 ((Int.tmod a3 64) + 64)) 64))) + 4))] 42 (0, 0)) (by (with_reducible repeat (first | refine blk_drewN ?_ _ | refine blk_drew ?_ | refine blk_alloc ?_ _)); exact BK390.out)) : gb390 ≠ gb426)); have NB426_390 := Aside0.mk ((by rw [hg]; exact Nat.ne_of_gt (blk_lt (g := gb390) (o := .cells #[.int .i64 (wrap64 (4 * (Int.tmod (wrap64 ((Int.tmod a2 64) + 64)) 64))), .int .i64 (wrap64 (4 * (Int.tmod (wrap64 ((Int.tmod a3 64) + 64)) 64))), .int .i64 (wrap64 ((wrap64 (4 * (Int.tmod (wrap64 ((Int.tmod a2 64) + 64)) 64))) + 4)), .int .i64 (wrap64 ((wrap64 (4 * (Int.tmod (wrap64 ((Int.tmod a3 64) + 64)) 64))) + 4))] 42 (0, 0)) (by (with_reducible repeat (first | refine blk_drewN ?_ _ | refine blk_drew ?_ | refine blk_alloc ?_ _)); exact BK390.out)) : gb426 ≠ gb390)); replace HO_14 := Aside0.mk (Kd.R_below (by (with_reducible repeat (first | apply Kd.R_alloc | apply Kd.R_drewN | apply Kd.R_drew)); exact HO_14.out) hb); replace HO_15 := Aside0.mk (Kd.R_below (by (with_reducible repeat (first | apply Kd.R_alloc | apply Kd.R_drewN | apply Kd.R_drew)); exact HO_15.out) hb); replace BK385 := Aside0.mk (blk_below (g := gb385) (o := .cells #[.int .i64 (wrap64 (4 * t383)), .int .i64 (wrap64 (4 * t384))] 40 (0, 0)) (by (with_reducible repeat (first | refine blk_drewN ?_ _ | refine blk_drew ?_ | refine blk_alloc ?_ _)); exact BK385.out) hb); replace BK390 := Aside0.mk (blk_below (g := gb390) (o := .cells #[.int .i64 (wrap64 (4 * (Int.tmod (wrap64 ((Int.tmod a2 64) + 64)) 64))), .int .i64 (wrap64 (4 * (Int.tmod (wrap64 ((Int.tmod a3 64) + 64)) 64))), .int .i64 (wrap64 ((wrap64 (4 * (Int.tmod (wrap64 ((Int.tmod a2 64) + 64)) 64))) + 4)), .int .i64 (wrap64 ((wrap64 (4 * (Int.tmod (wrap64 ((Int.tmod a3 64) + 64)) 64))) + 4))] 42 (0, 0)) (by (with_reducible repeat (first | refine blk_drewN ?_ _ | refine blk_drew ?_ | refine blk_alloc ?_ _)); exact BK390.out) hb); replace HB := Aside0.mk (below_step (by repeat (first | (with_reducible first | exact HB.out | apply below_alloc | apply pw_below_drewN | apply below_drew1 | refine below_set ?_ GE385.out | refine below_set ?_ GE390.out) | exact HB.out)) hb); clear hb hbox hg; have hnb133 := NB426_385.out; have hnc133 := NB385_426.out; have hnb134 := NB426_390.out; have hnc134 := NB390_426.out; have hcz135_0 : w132.cell? ⟨gb426, 0, none⟩ = some (.int .i64 0) := (blk_cell BK426.out 0).trans rfl; have hcz135_1 : w132.cell? ⟨gb426, 1, none⟩ = some (.int .i64 0) := (blk_cell BK426.out 1).trans rfl; have hfz135_0 := blk_frozen BK426.out 0; have hfz135_1 := blk_frozen BK426.out 1; have hnb136 := NB390_385.out; have hnc136 := NB385_390.out; have hcz137_0 : w132.cell? ⟨gb390, 0, none⟩ = some (.int .i64 (wrap64 (4 * (Int.tmod (wrap64 ((Int.tmod a2 64) + 64)) 64)))) := (blk_cell BK390.out 0).trans rfl; have hcz137_1 : w132.cell? ⟨gb390, 1, none⟩ = some (.int .i64 (wrap64 (4 * (Int.tmod (wrap64 ((Int.tmod a3 64) + 64)) 64)))) := (blk_cell BK390.out 1).trans rfl; have hcz137_2 : w132.cell? ⟨gb390, 2, none⟩ = some (.int .i64 (wrap64 ((wrap64 (4 * (Int.tmod (wrap64 ((Int.tmod a2 64) + 64)) 64))) + 4))) := (blk_cell BK390.out 2).trans rfl; have hcz137_3 : w132.cell? ⟨gb390, 3, none⟩ = some (.int .i64 (wrap64 ((wrap64 (4 * (Int.tmod (wrap64 ((Int.tmod a3 64) + 64)) 64))) + 4))) := (blk_cell BK390.out 3).trans rfl; have hfz137_0 := blk_frozen BK390.out 0; have hfz137_1 := blk_frozen BK390.out 1; have hfz137_2 := blk_frozen BK390.out 2; have hfz137_3 := blk_frozen BK390.out 3))
                          go_roundg k5
                          case measure => have := HK1.out; have := HJ39.out; have := HJ52.out; have := HK4.out; have := HK5.out; omega
                          case rel => exact ⟨(x17_5), (wrap64 (x157_5 + 1)), (by first | rfl | (simp; done) | (simp [*]; done)), (by first | rfl | (simp; done) | (simp [*]; done)), H', ⟨by have := HK1.out; have := HJ39.out; have := HJ52.out; have := HK4.out; have := HK5.out; omega⟩, ⟨by (with_reducible repeat (first | apply Kd.R_alloc | apply Kd.R_drewN | apply Kd.R_drew)); exact Kd.R_mono (Kd.R_far (p := ⟨gb426, 1, none⟩) (Kd.R_far (p := ⟨gb426, 0, none⟩) (Kd.R_types HO_14.out BK426.out (by decide)) (fun _ hk => hk.2) (.int .i64 ((rd_T40 l1 x157_5).f0))) (fun _ hk => hk.2) (.int .i64 ((rd_T40 l1 x157_5).f1))) (fun _ hk => hk.1)⟩, ⟨by (with_reducible repeat (first | apply Kd.R_alloc | apply Kd.R_drewN | apply Kd.R_drew)); exact Kd.R_mono (Kd.R_far (p := ⟨gb426, 1, none⟩) (Kd.R_far (p := ⟨gb426, 0, none⟩) (Kd.R_types HO_15.out BK426.out (by decide)) (fun _ hk => hk.2) (.int .i64 ((rd_T40 l1 x157_5).f0))) (fun _ hk => hk.2) (.int .i64 ((rd_T40 l1 x157_5).f1))) (fun _ hk => hk.1)⟩, ⟨by (with_reducible repeat (first | refine blk_drewN ?_ _ | refine blk_drew ?_ | refine blk_alloc ?_ _)); refine blk_far ?_ NB385_426.out _; (with_reducible repeat (first | refine blk_drewN ?_ _ | refine blk_drew ?_ | refine blk_alloc ?_ _)); refine blk_far ?_ NB385_426.out _; (with_reducible repeat (first | refine blk_drewN ?_ _ | refine blk_drew ?_ | refine blk_alloc ?_ _)); exact BK385.out⟩, ⟨by (with_reducible repeat (first | refine blk_drewN ?_ _ | refine blk_drew ?_ | refine blk_alloc ?_ _)); refine blk_far ?_ NB390_426.out _; (with_reducible repeat (first | refine blk_drewN ?_ _ | refine blk_drew ?_ | refine blk_alloc ?_ _)); refine blk_far ?_ NB390_426.out _; (with_reducible repeat (first | refine blk_drewN ?_ _ | refine blk_drew ?_ | refine blk_alloc ?_ _)); exact BK390.out⟩, ⟨by repeat (first | (with_reducible first | exact HB.out | apply below_alloc | apply pw_below_drewN | apply below_drew1 | refine below_set ?_ GE385.out | refine below_set ?_ GE390.out | refine below_set ?_ GE426.out) | exact HB.out)⟩⟩
                        rw [if_pos c125] at H
                        have c125b0 : decide (((rd_T40 l1 x157_5).f1) < (wrap64 ((wrap64 (4 * (Int.tmod (wrap64 ((Int.tmod a3 64) + 64)) 64))) + 4))) = true := decide_eq_true c125
                        clear c125
                        have H' := Aside0.mk H
                        clear H
                        have p425 : 0 ≤ (x157_5 : Int) := of_decide_eq_true (by first | (with_reducible assumption) | assumption)
                        have q425 : x157_5 < (l1.length : Int) := of_decide_eq_true (by first | (with_reducible assumption) | assumption)
                        obtain ⟨ad425, e425, hx425_0, hx425_1⟩ := at_T40 HR1.out x157_5 p425 q425
                        cases e425
                        replace hx425_0 := (HB.out.cell (World.block_lt_of_cell? w _ hx425_0)).trans hx425_0
                        replace hx425_1 := (HB.out.cell (World.block_lt_of_cell? w _ hx425_1)).trans hx425_1
                        replace p425 := eq_true p425
                        replace q425 := eq_true q425
                        go_wp2_with (first | ((with_reducible refine gate_dst (N := 24) rfl ?_); (try (refine gate_guard (by rfl) ?_; dsimp only)); refine box_event ?hg (N := 24) ?hd (cs := #[.int .i64 0, .int .i64 0]) (t := 40) ?hr ?_; (case hd => rfl); (case hg => rfl); (case hr => first | (go_simp; done) | (go_simp; rfl)); intro gb426 hg w126 hbox hb; have BK426 := Aside0.mk (hbox); have GW426 := Aside0.mk ((by rw [hg]; exact (below_size (by repeat (first | (with_reducible first | exact HB.out | apply below_alloc | apply pw_below_drewN | apply below_drew1 | refine below_set ?_ GE385.out | refine below_set ?_ GE390.out) | exact HB.out))) : w.heap.size ≤ gb426)); have GE426 := Aside0.mk ((by rw [hg]; exact (below_size (by repeat (first | (with_reducible first | exact HB.out | apply below_alloc | apply pw_below_drewN | apply below_drew1 | refine below_set ?_ GE385.out | refine below_set ?_ GE390.out) | exact HB.out))) : w.heap.size ≤ gb426)); have NB385_426 := Aside0.mk ((by rw [hg]; exact Nat.ne_of_lt (blk_lt (g := gb385) (o := .cells #[.int .i64 (wrap64 (4 * t383)), .int .i64 (wrap64 (4 * t384))] 40 (0, 0)) (by (with_reducible repeat (first | refine blk_drewN ?_ _ | refine blk_drew ?_ | refine blk_alloc ?_ _)); exact BK385.out)) : gb385 ≠ gb426)); have NB426_385 := Aside0.mk ((by rw [hg]; exact Nat.ne_of_gt (blk_lt (g := gb385) (o := .cells #[.int .i64 (wrap64 (4 * t383)), .int .i64 (wrap64 (4 * t384))] 40 (0, 0)) (by (with_reducible repeat (first | refine blk_drewN ?_ _ | refine blk_drew ?_ | refine blk_alloc ?_ _)); exact BK385.out)) : gb426 ≠ gb385)); have NB390_426 := Aside0.mk ((by rw [hg]; exact Nat.ne_of_lt (blk_lt (g := gb390) (o := .cells #[.int .i64 (wrap64 (4 * (Int.tmod (wrap64 ((Int.tmod a2 64) + 64)) 64))), .int .i64 (wrap64 (4 * (Int.tmod (wrap64 ((Int.tmod a3 64) + 64)) 64))), .int .i64 (wrap64 ((wrap64 (4 * (Int.tmod (wrap64 ((Int.tmod a2 64) + 64)) 64))) + 4)), .int .i64 (wrap64 ((wrap64 (4 * (Int.tmod (wrap64 ((Int.tmod a3 64) + 64)) 64))) + 4))] 42 (0, 0)) (by (with_reducible repeat (first | refine blk_drewN ?_ _ | refine blk_drew ?_ | refine blk_alloc ?_ _)); exact BK390.out)) : gb390 ≠ gb426)); have NB426_390 := Aside0.mk ((by rw [hg]; exact Nat.ne_of_gt (blk_lt (g := gb390) (o := .cells #[.int .i64 (wrap64 (4 * (Int.tmod (wrap64 ((Int.tmod a2 64) + 64)) 64))), .int .i64 (wrap64 (4 * (Int.tmod (wrap64 ((Int.tmod a3 64) + 64)) 64))), .int .i64 (wrap64 ((wrap64 (4 * (Int.tmod (wrap64 ((Int.tmod a2 64) + 64)) 64))) + 4)), .int .i64 (wrap64 ((wrap64 (4 * (Int.tmod (wrap64 ((Int.tmod a3 64) + 64)) 64))) + 4))] 42 (0, 0)) (by (with_reducible repeat (first | refine blk_drewN ?_ _ | refine blk_drew ?_ | refine blk_alloc ?_ _)); exact BK390.out)) : gb426 ≠ gb390)); replace HO_14 := Aside0.mk (Kd.R_below (by (with_reducible repeat (first | apply Kd.R_alloc | apply Kd.R_drewN | apply Kd.R_drew)); exact HO_14.out) hb); replace HO_15 := Aside0.mk (Kd.R_below (by (with_reducible repeat (first | apply Kd.R_alloc | apply Kd.R_drewN | apply Kd.R_drew)); exact HO_15.out) hb); replace BK385 := Aside0.mk (blk_below (g := gb385) (o := .cells #[.int .i64 (wrap64 (4 * t383)), .int .i64 (wrap64 (4 * t384))] 40 (0, 0)) (by (with_reducible repeat (first | refine blk_drewN ?_ _ | refine blk_drew ?_ | refine blk_alloc ?_ _)); exact BK385.out) hb); replace BK390 := Aside0.mk (blk_below (g := gb390) (o := .cells #[.int .i64 (wrap64 (4 * (Int.tmod (wrap64 ((Int.tmod a2 64) + 64)) 64))), .int .i64 (wrap64 (4 * (Int.tmod (wrap64 ((Int.tmod a3 64) + 64)) 64))), .int .i64 (wrap64 ((wrap64 (4 * (Int.tmod (wrap64 ((Int.tmod a2 64) + 64)) 64))) + 4)), .int .i64 (wrap64 ((wrap64 (4 * (Int.tmod (wrap64 ((Int.tmod a3 64) + 64)) 64))) + 4))] 42 (0, 0)) (by (with_reducible repeat (first | refine blk_drewN ?_ _ | refine blk_drew ?_ | refine blk_alloc ?_ _)); exact BK390.out) hb); replace HB := Aside0.mk (below_step (by repeat (first | (with_reducible first | exact HB.out | apply below_alloc | apply pw_below_drewN | apply below_drew1 | refine below_set ?_ GE385.out | refine below_set ?_ GE390.out) | exact HB.out)) hb); clear hb hbox hg; have hnb127 := NB426_385.out; have hnc127 := NB385_426.out; have hnb128 := NB426_390.out; have hnc128 := NB390_426.out; have hcz129_0 : w126.cell? ⟨gb426, 0, none⟩ = some (.int .i64 0) := (blk_cell BK426.out 0).trans rfl; have hcz129_1 : w126.cell? ⟨gb426, 1, none⟩ = some (.int .i64 0) := (blk_cell BK426.out 1).trans rfl; have hfz129_0 := blk_frozen BK426.out 0; have hfz129_1 := blk_frozen BK426.out 1; have hnb130 := NB390_385.out; have hnc130 := NB385_390.out; have hcz131_0 : w126.cell? ⟨gb390, 0, none⟩ = some (.int .i64 (wrap64 (4 * (Int.tmod (wrap64 ((Int.tmod a2 64) + 64)) 64)))) := (blk_cell BK390.out 0).trans rfl; have hcz131_1 : w126.cell? ⟨gb390, 1, none⟩ = some (.int .i64 (wrap64 (4 * (Int.tmod (wrap64 ((Int.tmod a3 64) + 64)) 64)))) := (blk_cell BK390.out 1).trans rfl; have hcz131_2 : w126.cell? ⟨gb390, 2, none⟩ = some (.int .i64 (wrap64 ((wrap64 (4 * (Int.tmod (wrap64 ((Int.tmod a2 64) + 64)) 64))) + 4))) := (blk_cell BK390.out 2).trans rfl; have hcz131_3 : w126.cell? ⟨gb390, 3, none⟩ = some (.int .i64 (wrap64 ((wrap64 (4 * (Int.tmod (wrap64 ((Int.tmod a3 64) + 64)) 64))) + 4))) := (blk_cell BK390.out 3).trans rfl; have hfz131_0 := blk_frozen BK390.out 0; have hfz131_1 := blk_frozen BK390.out 1; have hfz131_2 := blk_frozen BK390.out 2; have hfz131_3 := blk_frozen BK390.out 3))
                        go_roundg k5
                        case measure => have := HK1.out; have := HJ39.out; have := HJ52.out; have := HK4.out; have := HK5.out; omega
                        case rel => exact ⟨(wrap64 (x17_5 + 1)), (wrap64 (x157_5 + 1)), (by first | rfl | (simp; done) | (simp [*]; done)), (by first | rfl | (simp; done) | (simp [*]; done)), H', ⟨by have := HK1.out; have := HJ39.out; have := HJ52.out; have := HK4.out; have := HK5.out; omega⟩, ⟨by (with_reducible repeat (first | apply Kd.R_alloc | apply Kd.R_drewN | apply Kd.R_drew)); exact Kd.R_mono (Kd.R_far (p := ⟨gb426, 1, none⟩) (Kd.R_far (p := ⟨gb426, 0, none⟩) (Kd.R_types HO_14.out BK426.out (by decide)) (fun _ hk => hk.2) (.int .i64 ((rd_T40 l1 x157_5).f0))) (fun _ hk => hk.2) (.int .i64 ((rd_T40 l1 x157_5).f1))) (fun _ hk => hk.1)⟩, ⟨by (with_reducible repeat (first | apply Kd.R_alloc | apply Kd.R_drewN | apply Kd.R_drew)); exact Kd.R_mono (Kd.R_far (p := ⟨gb426, 1, none⟩) (Kd.R_far (p := ⟨gb426, 0, none⟩) (Kd.R_types HO_15.out BK426.out (by decide)) (fun _ hk => hk.2) (.int .i64 ((rd_T40 l1 x157_5).f0))) (fun _ hk => hk.2) (.int .i64 ((rd_T40 l1 x157_5).f1))) (fun _ hk => hk.1)⟩, ⟨by (with_reducible repeat (first | refine blk_drewN ?_ _ | refine blk_drew ?_ | refine blk_alloc ?_ _)); refine blk_far ?_ NB385_426.out _; (with_reducible repeat (first | refine blk_drewN ?_ _ | refine blk_drew ?_ | refine blk_alloc ?_ _)); refine blk_far ?_ NB385_426.out _; (with_reducible repeat (first | refine blk_drewN ?_ _ | refine blk_drew ?_ | refine blk_alloc ?_ _)); exact BK385.out⟩, ⟨by (with_reducible repeat (first | refine blk_drewN ?_ _ | refine blk_drew ?_ | refine blk_alloc ?_ _)); refine blk_far ?_ NB390_426.out _; (with_reducible repeat (first | refine blk_drewN ?_ _ | refine blk_drew ?_ | refine blk_alloc ?_ _)); refine blk_far ?_ NB390_426.out _; (with_reducible repeat (first | refine blk_drewN ?_ _ | refine blk_drew ?_ | refine blk_alloc ?_ _)); exact BK390.out⟩, ⟨by repeat (first | (with_reducible first | exact HB.out | apply below_alloc | apply pw_below_drewN | apply below_drew1 | refine below_set ?_ GE385.out | refine below_set ?_ GE390.out | refine below_set ?_ GE426.out) | exact HB.out)⟩⟩
                  rw [if_pos c61] at H
                  have c61b0 : decide (x110_4 < (l0.length : Int)) = true := decide_eq_true c61
                  clear c61
                  by_cases c62 : 0 ≤ x110_4
                  rotate_left
                  · rw [if_neg c62] at H
                    exact absurd H (by simp)
                  rw [if_pos c62] at H
                  have c62b0 : decide (0 ≤ x110_4) = true := decide_eq_true c62
                  clear c62
                  by_cases c63 : x110_4 < (l0.length : Int)
                  rotate_left
                  · rw [if_neg c63] at H
                    exact absurd H (by simp)
                  rw [if_pos c63] at H
                  have c63b0 : decide (x110_4 < (l0.length : Int)) = true := decide_eq_true c63
                  clear c63
                  have H' := Aside0.mk H
                  clear H
                  have p413 : 0 ≤ (x110_4 : Int) := of_decide_eq_true (by first | (with_reducible assumption) | assumption)
                  have q413 : x110_4 < (l0.length : Int) := of_decide_eq_true (by first | (with_reducible assumption) | assumption)
                  obtain ⟨ad413, A413_0, c413_0, e413, hx413_0, hl413_0, hi413_0⟩ := at_L2 HR0.out x110_4 p413 q413
                  cases e413
                  replace hx413_0 := (HB.out.cell (World.block_lt_of_cell? w _ hx413_0)).trans hx413_0
                  have HR413_0 := Aside0.mk hi413_0
                  have HC413_0 := Aside0.mk hl413_0
                  clear hi413_0 hl413_0
                  replace p413 := eq_true p413
                  replace q413 := eq_true q413
                  go_wp2
                  go_loopg [16, 20] k4 (fun kq v16 v20 w' => ∃ (x16_5 : Int) (x20_5 : Int), v16 = .int .i64 x16_5 ∧ v20 = .int .i64 x20_5 ∧ Aside0 (terrlaw5_RasterLines.l2 kq l1 (Int.tmod (wrap64 ((Int.tmod a2 64) + 64)) 64) (Int.tmod (wrap64 ((Int.tmod a3 64) + 64)) 64) t407 t410 x16_5 0 (rd_L2 l0 x110_4) x20_5 l0 (l0.length : Int) x110_4 (wrap64 (4 * (Int.tmod (wrap64 ((Int.tmod a2 64) + 64)) 64))) (wrap64 (4 * (Int.tmod (wrap64 ((Int.tmod a3 64) + 64)) 64))) (wrap64 ((wrap64 (4 * (Int.tmod (wrap64 ((Int.tmod a2 64) + 64)) 64))) + 4)) (wrap64 ((wrap64 (4 * (Int.tmod (wrap64 ((Int.tmod a3 64) + 64)) 64))) + 4)) = some r) ∧ Aside0 (kq ≤ k4) ∧ Aside0 (Kd.R (Kd.int .i64) 3 w' w.heap.size (fun k_ => some k_ ≠ (v411 : Value).ownBlock) v408 t407) ∧ Aside0 (Kd.R (Kd.int .i64) 3 w' w.heap.size (fun k_ => some k_ ≠ (v408 : Value).ownBlock) v411 t410) ∧ Aside0 (w'.heap[gb385]? = some (.cells #[.int .i64 (wrap64 (4 * t383)), .int .i64 (wrap64 (4 * t384))] 40 (0, 0))) ∧ Aside0 (w'.heap[gb390]? = some (.cells #[.int .i64 (wrap64 (4 * (Int.tmod (wrap64 ((Int.tmod a2 64) + 64)) 64))), .int .i64 (wrap64 (4 * (Int.tmod (wrap64 ((Int.tmod a3 64) + 64)) 64))), .int .i64 (wrap64 ((wrap64 (4 * (Int.tmod (wrap64 ((Int.tmod a2 64) + 64)) 64))) + 4)), .int .i64 (wrap64 ((wrap64 (4 * (Int.tmod (wrap64 ((Int.tmod a3 64) + 64)) 64))) + 4))] 42 (0, 0))) ∧ Aside0 (Below w.heap.size w w'))
                  case atStart => exact ⟨(x16_4), (1), (by first | rfl | (simp; done) | (simp [*]; done)), (by first | rfl | (simp; done) | (simp [*]; done)), H', ⟨Nat.le_refl _⟩, ⟨by (with_reducible repeat (first | apply Kd.R_alloc | apply Kd.R_drewN | apply Kd.R_drew)); exact HO_14.out⟩, ⟨by (with_reducible repeat (first | apply Kd.R_alloc | apply Kd.R_drewN | apply Kd.R_drew)); exact HO_15.out⟩, ⟨by (with_reducible repeat (first | refine blk_drewN ?_ _ | refine blk_drew ?_ | refine blk_alloc ?_ _)); exact BK385.out⟩, ⟨by (with_reducible repeat (first | refine blk_drewN ?_ _ | refine blk_drew ?_ | refine blk_alloc ?_ _)); exact BK390.out⟩, ⟨by repeat (first | (with_reducible first | exact HB.out | apply below_alloc | apply pw_below_drewN | apply below_drew1 | refine below_set ?_ GE385.out | refine below_set ?_ GE390.out) | exact HB.out)⟩⟩
                  case round =>
                    clear H'
                    try clear c61
                    try clear c61b0
                    try clear c62
                    try clear c62b0
                    try clear c63
                    try clear c63b0
                    try clear hx413_0
                    try clear p413
                    try clear q413
                    obtain ⟨x16_5, x20_5, rfl, rfl, HA, HK5, HO_14, HO_15, BK385, BK390, HB⟩ := hrel
                    cases gk with
                    | zero => exact absurd HA.out (by simp [terrlaw5_RasterLines.l2])
                    | succ k5 =>
                      have H := HA.out
                      clear HA
                      simp only [terrlaw5_RasterLines.l2] at H
                      by_cases c64 : x20_5 < ((rd_L2 l0 x110_4).length : Int)
                      rotate_left
                      · rw [if_neg c64] at H
                        have c64b0 : decide (x20_5 < ((rd_L2 l0 x110_4).length : Int)) = false := decide_eq_false c64
                        clear c64
                        have H' := Aside0.mk H
                        clear H
                        go_wp2
                        go_roundg k5
                        case measure => have := HK1.out; have := HJ39.out; have := HJ52.out; have := HK4.out; have := HK5.out; omega
                        case rel => exact ⟨(x16_5), (wrap64 (x110_4 + 1)), (by first | rfl | (simp; done) | (simp [*]; done)), (by first | rfl | (simp; done) | (simp [*]; done)), H', ⟨by have := HK1.out; have := HJ39.out; have := HJ52.out; have := HK4.out; have := HK5.out; omega⟩, ⟨by (with_reducible repeat (first | apply Kd.R_alloc | apply Kd.R_drewN | apply Kd.R_drew)); exact HO_14.out⟩, ⟨by (with_reducible repeat (first | apply Kd.R_alloc | apply Kd.R_drewN | apply Kd.R_drew)); exact HO_15.out⟩, ⟨by (with_reducible repeat (first | refine blk_drewN ?_ _ | refine blk_drew ?_ | refine blk_alloc ?_ _)); exact BK385.out⟩, ⟨by (with_reducible repeat (first | refine blk_drewN ?_ _ | refine blk_drew ?_ | refine blk_alloc ?_ _)); exact BK390.out⟩, ⟨by repeat (first | (with_reducible first | exact HB.out | apply below_alloc | apply pw_below_drewN | apply below_drew1 | refine below_set ?_ GE385.out | refine below_set ?_ GE390.out) | exact HB.out)⟩⟩
                      rw [if_pos c64] at H
                      have c64b0 : decide (x20_5 < ((rd_L2 l0 x110_4).length : Int)) = true := decide_eq_true c64
                      clear c64
                      obtain ⟨ji65, hji65⟩ : ∃ j_ : Int, (wrap64 (x20_5 - 1)) = j_ := ⟨_, rfl⟩
                      replace H : (if 0 ≤ (ji65) then (if (ji65) < ((rd_L2 l0 x110_4).length : Int) then ((terrref5_Short.f ((rd_T40 (rd_L2 l0 x110_4) (ji65)).f0)).bind fun t415 => ((terrref5_Short.f ((rd_T40 (rd_L2 l0 x110_4) (ji65)).f1)).bind fun t417 => (if 0 ≤ x20_5 then ((terrref5_Short.f ((rd_T40 (rd_L2 l0 x110_4) x20_5).f0)).bind fun t419 => ((terrref5_Short.f ((rd_T40 (rd_L2 l0 x110_4) x20_5).f1)).bind fun t421 => ((terrref5_Hits.f k5 (wrap64 (4 * (Int.tmod (wrap64 ((Int.tmod a2 64) + 64)) 64))) (wrap64 (4 * (Int.tmod (wrap64 ((Int.tmod a3 64) + 64)) 64))) (wrap64 ((wrap64 (4 * (Int.tmod (wrap64 ((Int.tmod a2 64) + 64)) 64))) + 4)) (wrap64 ((wrap64 (4 * (Int.tmod (wrap64 ((Int.tmod a3 64) + 64)) 64))) + 4)) t415 t417 t419 t421).bind fun t424 => (if t424 = true then (terrlaw5_RasterLines.l2 k5 l1 (Int.tmod (wrap64 ((Int.tmod a2 64) + 64)) 64) (Int.tmod (wrap64 ((Int.tmod a3 64) + 64)) 64) t407 t410 (wrap64 (x16_5 + 1)) 0 (rd_L2 l0 x110_4) (wrap64 (x20_5 + 1)) l0 (l0.length : Int) x110_4 (wrap64 (4 * (Int.tmod (wrap64 ((Int.tmod a2 64) + 64)) 64))) (wrap64 (4 * (Int.tmod (wrap64 ((Int.tmod a3 64) + 64)) 64))) (wrap64 ((wrap64 (4 * (Int.tmod (wrap64 ((Int.tmod a2 64) + 64)) 64))) + 4)) (wrap64 ((wrap64 (4 * (Int.tmod (wrap64 ((Int.tmod a3 64) + 64)) 64))) + 4))) else (terrlaw5_RasterLines.l2 k5 l1 (Int.tmod (wrap64 ((Int.tmod a2 64) + 64)) 64) (Int.tmod (wrap64 ((Int.tmod a3 64) + 64)) 64) t407 t410 x16_5 0 (rd_L2 l0 x110_4) (wrap64 (x20_5 + 1)) l0 (l0.length : Int) x110_4 (wrap64 (4 * (Int.tmod (wrap64 ((Int.tmod a2 64) + 64)) 64))) (wrap64 (4 * (Int.tmod (wrap64 ((Int.tmod a3 64) + 64)) 64))) (wrap64 ((wrap64 (4 * (Int.tmod (wrap64 ((Int.tmod a2 64) + 64)) 64))) + 4)) (wrap64 ((wrap64 (4 * (Int.tmod (wrap64 ((Int.tmod a3 64) + 64)) 64))) + 4))))))) else (none)))) else (none)) else (none)) = some r := by first | (rw [hji65] at H; exact H) | (simp only [hji65] at H ⊢; exact H)
                      have hji65w : (IntKind.i64.wrap (x20_5 - 1)) = ji65 := (i64_w _).trans hji65
                      by_cases c66 : 0 ≤ (ji65)
                      rotate_left
                      · rw [if_neg c66] at H
                        exact absurd H (by simp)
                      rw [if_pos c66] at H
                      have c66b0 : decide (0 ≤ (ji65)) = true := decide_eq_true c66
                      clear c66
                      by_cases c67 : (ji65) < ((rd_L2 l0 x110_4).length : Int)
                      rotate_left
                      · rw [if_neg c67] at H
                        exact absurd H (by simp)
                      rw [if_pos c67] at H
                      have c67b0 : decide ((ji65) < ((rd_L2 l0 x110_4).length : Int)) = true := decide_eq_true c67
                      clear c67
                      replace H := Option.bind_eq_some_iff.mp H
                      obtain ⟨t415, A680, H⟩ := H
                      replace H : ((terrref5_Short.f ((rd_T40 (rd_L2 l0 x110_4) (ji65)).f1)).bind fun t417 => (if 0 ≤ x20_5 then ((terrref5_Short.f ((rd_T40 (rd_L2 l0 x110_4) x20_5).f0)).bind fun t419 => ((terrref5_Short.f ((rd_T40 (rd_L2 l0 x110_4) x20_5).f1)).bind fun t421 => ((terrref5_Hits.f k5 (wrap64 (4 * (Int.tmod (wrap64 ((Int.tmod a2 64) + 64)) 64))) (wrap64 (4 * (Int.tmod (wrap64 ((Int.tmod a3 64) + 64)) 64))) (wrap64 ((wrap64 (4 * (Int.tmod (wrap64 ((Int.tmod a2 64) + 64)) 64))) + 4)) (wrap64 ((wrap64 (4 * (Int.tmod (wrap64 ((Int.tmod a3 64) + 64)) 64))) + 4)) t415 t417 t419 t421).bind fun t424 => (if t424 = true then (terrlaw5_RasterLines.l2 k5 l1 (Int.tmod (wrap64 ((Int.tmod a2 64) + 64)) 64) (Int.tmod (wrap64 ((Int.tmod a3 64) + 64)) 64) t407 t410 (wrap64 (x16_5 + 1)) 0 (rd_L2 l0 x110_4) (wrap64 (x20_5 + 1)) l0 (l0.length : Int) x110_4 (wrap64 (4 * (Int.tmod (wrap64 ((Int.tmod a2 64) + 64)) 64))) (wrap64 (4 * (Int.tmod (wrap64 ((Int.tmod a3 64) + 64)) 64))) (wrap64 ((wrap64 (4 * (Int.tmod (wrap64 ((Int.tmod a2 64) + 64)) 64))) + 4)) (wrap64 ((wrap64 (4 * (Int.tmod (wrap64 ((Int.tmod a3 64) + 64)) 64))) + 4))) else (terrlaw5_RasterLines.l2 k5 l1 (Int.tmod (wrap64 ((Int.tmod a2 64) + 64)) 64) (Int.tmod (wrap64 ((Int.tmod a3 64) + 64)) 64) t407 t410 x16_5 0 (rd_L2 l0 x110_4) (wrap64 (x20_5 + 1)) l0 (l0.length : Int) x110_4 (wrap64 (4 * (Int.tmod (wrap64 ((Int.tmod a2 64) + 64)) 64))) (wrap64 (4 * (Int.tmod (wrap64 ((Int.tmod a3 64) + 64)) 64))) (wrap64 ((wrap64 (4 * (Int.tmod (wrap64 ((Int.tmod a2 64) + 64)) 64))) + 4)) (wrap64 ((wrap64 (4 * (Int.tmod (wrap64 ((Int.tmod a3 64) + 64)) 64))) + 4))))))) else (none))) = some r := H
                      have A68 := Aside0.mk A680
                      clear A680
                      replace H := Option.bind_eq_some_iff.mp H
                      obtain ⟨t417, A690, H⟩ := H
                      replace H : (if 0 ≤ x20_5 then ((terrref5_Short.f ((rd_T40 (rd_L2 l0 x110_4) x20_5).f0)).bind fun t419 => ((terrref5_Short.f ((rd_T40 (rd_L2 l0 x110_4) x20_5).f1)).bind fun t421 => ((terrref5_Hits.f k5 (wrap64 (4 * (Int.tmod (wrap64 ((Int.tmod a2 64) + 64)) 64))) (wrap64 (4 * (Int.tmod (wrap64 ((Int.tmod a3 64) + 64)) 64))) (wrap64 ((wrap64 (4 * (Int.tmod (wrap64 ((Int.tmod a2 64) + 64)) 64))) + 4)) (wrap64 ((wrap64 (4 * (Int.tmod (wrap64 ((Int.tmod a3 64) + 64)) 64))) + 4)) t415 t417 t419 t421).bind fun t424 => (if t424 = true then (terrlaw5_RasterLines.l2 k5 l1 (Int.tmod (wrap64 ((Int.tmod a2 64) + 64)) 64) (Int.tmod (wrap64 ((Int.tmod a3 64) + 64)) 64) t407 t410 (wrap64 (x16_5 + 1)) 0 (rd_L2 l0 x110_4) (wrap64 (x20_5 + 1)) l0 (l0.length : Int) x110_4 (wrap64 (4 * (Int.tmod (wrap64 ((Int.tmod a2 64) + 64)) 64))) (wrap64 (4 * (Int.tmod (wrap64 ((Int.tmod a3 64) + 64)) 64))) (wrap64 ((wrap64 (4 * (Int.tmod (wrap64 ((Int.tmod a2 64) + 64)) 64))) + 4)) (wrap64 ((wrap64 (4 * (Int.tmod (wrap64 ((Int.tmod a3 64) + 64)) 64))) + 4))) else (terrlaw5_RasterLines.l2 k5 l1 (Int.tmod (wrap64 ((Int.tmod a2 64) + 64)) 64) (Int.tmod (wrap64 ((Int.tmod a3 64) + 64)) 64) t407 t410 x16_5 0 (rd_L2 l0 x110_4) (wrap64 (x20_5 + 1)) l0 (l0.length : Int) x110_4 (wrap64 (4 * (Int.tmod (wrap64 ((Int.tmod a2 64) + 64)) 64))) (wrap64 (4 * (Int.tmod (wrap64 ((Int.tmod a3 64) + 64)) 64))) (wrap64 ((wrap64 (4 * (Int.tmod (wrap64 ((Int.tmod a2 64) + 64)) 64))) + 4)) (wrap64 ((wrap64 (4 * (Int.tmod (wrap64 ((Int.tmod a3 64) + 64)) 64))) + 4))))))) else (none)) = some r := H
                      have A69 := Aside0.mk A690
                      clear A690
                      by_cases c70 : 0 ≤ x20_5
                      rotate_left
                      · rw [if_neg c70] at H
                        exact absurd H (by simp)
                      rw [if_pos c70] at H
                      have c70b0 : decide (0 ≤ x20_5) = true := decide_eq_true c70
                      clear c70
                      replace H := Option.bind_eq_some_iff.mp H
                      obtain ⟨t419, A710, H⟩ := H
                      replace H : ((terrref5_Short.f ((rd_T40 (rd_L2 l0 x110_4) x20_5).f1)).bind fun t421 => ((terrref5_Hits.f k5 (wrap64 (4 * (Int.tmod (wrap64 ((Int.tmod a2 64) + 64)) 64))) (wrap64 (4 * (Int.tmod (wrap64 ((Int.tmod a3 64) + 64)) 64))) (wrap64 ((wrap64 (4 * (Int.tmod (wrap64 ((Int.tmod a2 64) + 64)) 64))) + 4)) (wrap64 ((wrap64 (4 * (Int.tmod (wrap64 ((Int.tmod a3 64) + 64)) 64))) + 4)) t415 t417 t419 t421).bind fun t424 => (if t424 = true then (terrlaw5_RasterLines.l2 k5 l1 (Int.tmod (wrap64 ((Int.tmod a2 64) + 64)) 64) (Int.tmod (wrap64 ((Int.tmod a3 64) + 64)) 64) t407 t410 (wrap64 (x16_5 + 1)) 0 (rd_L2 l0 x110_4) (wrap64 (x20_5 + 1)) l0 (l0.length : Int) x110_4 (wrap64 (4 * (Int.tmod (wrap64 ((Int.tmod a2 64) + 64)) 64))) (wrap64 (4 * (Int.tmod (wrap64 ((Int.tmod a3 64) + 64)) 64))) (wrap64 ((wrap64 (4 * (Int.tmod (wrap64 ((Int.tmod a2 64) + 64)) 64))) + 4)) (wrap64 ((wrap64 (4 * (Int.tmod (wrap64 ((Int.tmod a3 64) + 64)) 64))) + 4))) else (terrlaw5_RasterLines.l2 k5 l1 (Int.tmod (wrap64 ((Int.tmod a2 64) + 64)) 64) (Int.tmod (wrap64 ((Int.tmod a3 64) + 64)) 64) t407 t410 x16_5 0 (rd_L2 l0 x110_4) (wrap64 (x20_5 + 1)) l0 (l0.length : Int) x110_4 (wrap64 (4 * (Int.tmod (wrap64 ((Int.tmod a2 64) + 64)) 64))) (wrap64 (4 * (Int.tmod (wrap64 ((Int.tmod a3 64) + 64)) 64))) (wrap64 ((wrap64 (4 * (Int.tmod (wrap64 ((Int.tmod a2 64) + 64)) 64))) + 4)) (wrap64 ((wrap64 (4 * (Int.tmod (wrap64 ((Int.tmod a3 64) + 64)) 64))) + 4)))))) = some r := H
                      have A71 := Aside0.mk A710
                      clear A710
                      replace H := Option.bind_eq_some_iff.mp H
                      obtain ⟨t421, A720, H⟩ := H
                      replace H : ((terrref5_Hits.f k5 (wrap64 (4 * (Int.tmod (wrap64 ((Int.tmod a2 64) + 64)) 64))) (wrap64 (4 * (Int.tmod (wrap64 ((Int.tmod a3 64) + 64)) 64))) (wrap64 ((wrap64 (4 * (Int.tmod (wrap64 ((Int.tmod a2 64) + 64)) 64))) + 4)) (wrap64 ((wrap64 (4 * (Int.tmod (wrap64 ((Int.tmod a3 64) + 64)) 64))) + 4)) t415 t417 t419 t421).bind fun t424 => (if t424 = true then (terrlaw5_RasterLines.l2 k5 l1 (Int.tmod (wrap64 ((Int.tmod a2 64) + 64)) 64) (Int.tmod (wrap64 ((Int.tmod a3 64) + 64)) 64) t407 t410 (wrap64 (x16_5 + 1)) 0 (rd_L2 l0 x110_4) (wrap64 (x20_5 + 1)) l0 (l0.length : Int) x110_4 (wrap64 (4 * (Int.tmod (wrap64 ((Int.tmod a2 64) + 64)) 64))) (wrap64 (4 * (Int.tmod (wrap64 ((Int.tmod a3 64) + 64)) 64))) (wrap64 ((wrap64 (4 * (Int.tmod (wrap64 ((Int.tmod a2 64) + 64)) 64))) + 4)) (wrap64 ((wrap64 (4 * (Int.tmod (wrap64 ((Int.tmod a3 64) + 64)) 64))) + 4))) else (terrlaw5_RasterLines.l2 k5 l1 (Int.tmod (wrap64 ((Int.tmod a2 64) + 64)) 64) (Int.tmod (wrap64 ((Int.tmod a3 64) + 64)) 64) t407 t410 x16_5 0 (rd_L2 l0 x110_4) (wrap64 (x20_5 + 1)) l0 (l0.length : Int) x110_4 (wrap64 (4 * (Int.tmod (wrap64 ((Int.tmod a2 64) + 64)) 64))) (wrap64 (4 * (Int.tmod (wrap64 ((Int.tmod a3 64) + 64)) 64))) (wrap64 ((wrap64 (4 * (Int.tmod (wrap64 ((Int.tmod a2 64) + 64)) 64))) + 4)) (wrap64 ((wrap64 (4 * (Int.tmod (wrap64 ((Int.tmod a3 64) + 64)) 64))) + 4))))) = some r := H
                      have A72 := Aside0.mk A720
                      clear A720
                      replace H := Option.bind_eq_some_iff.mp H
                      obtain ⟨t424, A730, H⟩ := H
                      replace H : (if t424 = true then (terrlaw5_RasterLines.l2 k5 l1 (Int.tmod (wrap64 ((Int.tmod a2 64) + 64)) 64) (Int.tmod (wrap64 ((Int.tmod a3 64) + 64)) 64) t407 t410 (wrap64 (x16_5 + 1)) 0 (rd_L2 l0 x110_4) (wrap64 (x20_5 + 1)) l0 (l0.length : Int) x110_4 (wrap64 (4 * (Int.tmod (wrap64 ((Int.tmod a2 64) + 64)) 64))) (wrap64 (4 * (Int.tmod (wrap64 ((Int.tmod a3 64) + 64)) 64))) (wrap64 ((wrap64 (4 * (Int.tmod (wrap64 ((Int.tmod a2 64) + 64)) 64))) + 4)) (wrap64 ((wrap64 (4 * (Int.tmod (wrap64 ((Int.tmod a3 64) + 64)) 64))) + 4))) else (terrlaw5_RasterLines.l2 k5 l1 (Int.tmod (wrap64 ((Int.tmod a2 64) + 64)) 64) (Int.tmod (wrap64 ((Int.tmod a3 64) + 64)) 64) t407 t410 x16_5 0 (rd_L2 l0 x110_4) (wrap64 (x20_5 + 1)) l0 (l0.length : Int) x110_4 (wrap64 (4 * (Int.tmod (wrap64 ((Int.tmod a2 64) + 64)) 64))) (wrap64 (4 * (Int.tmod (wrap64 ((Int.tmod a3 64) + 64)) 64))) (wrap64 ((wrap64 (4 * (Int.tmod (wrap64 ((Int.tmod a2 64) + 64)) 64))) + 4)) (wrap64 ((wrap64 (4 * (Int.tmod (wrap64 ((Int.tmod a3 64) + 64)) 64))) + 4)))) = some r := H
                      have A73 := Aside0.mk A730
                      clear A730
                      try go_wp2
                      have p414 : 0 ≤ ((ji65) : Int) := of_decide_eq_true (by first | (with_reducible assumption) | assumption)
                      have q414 : (ji65) < ((rd_L2 l0 x110_4).length : Int) := of_decide_eq_true (by first | (with_reducible assumption) | assumption)
                      obtain ⟨ad414, e414, hx414_0, hx414_1⟩ := at_T40 HR413_0.out (ji65) p414 q414
                      have hw414_1 := hx414_1
                      have hw414_0 := hx414_0
                      cases e414
                      replace hx414_0 := (HB.out.cell (World.block_lt_of_cell? w _ hx414_0)).trans hx414_0
                      replace hx414_1 := (HB.out.cell (World.block_lt_of_cell? w _ hx414_1)).trans hx414_1
                      replace p414 := eq_true p414
                      replace q414 := eq_true q414
                      have p416 : 0 ≤ ((ji65) : Int) := of_decide_eq_true (by first | (with_reducible assumption) | assumption)
                      have q416 : (ji65) < ((rd_L2 l0 x110_4).length : Int) := of_decide_eq_true (by first | (with_reducible assumption) | assumption)
                      obtain ⟨ad416, e416, hx416_0, hx416_1⟩ := at_T40 HR413_0.out (ji65) p416 q416
                      have hw416_1 := hx416_1
                      have hw416_0 := hx416_0
                      obtain rfl : ad414 = ad416 := (by injection e416)
                      replace hx416_0 := (HB.out.cell (World.block_lt_of_cell? w _ hx416_0)).trans hx416_0
                      replace hx416_1 := (HB.out.cell (World.block_lt_of_cell? w _ hx416_1)).trans hx416_1
                      replace p416 := eq_true p416
                      replace q416 := eq_true q416
                      have p418 : 0 ≤ (x20_5 : Int) := of_decide_eq_true (by first | (with_reducible assumption) | assumption)
                      have q418 : x20_5 < ((rd_L2 l0 x110_4).length : Int) := of_decide_eq_true (by first | (with_reducible assumption) | assumption)
                      obtain ⟨ad418, e418, hx418_0, hx418_1⟩ := at_T40 HR413_0.out x20_5 p418 q418
                      have hw418_1 := hx418_1
                      have hw418_0 := hx418_0
                      obtain rfl : ad414 = ad418 := (by injection e418)
                      replace hx418_0 := (HB.out.cell (World.block_lt_of_cell? w _ hx418_0)).trans hx418_0
                      replace hx418_1 := (HB.out.cell (World.block_lt_of_cell? w _ hx418_1)).trans hx418_1
                      replace p418 := eq_true p418
                      replace q418 := eq_true q418
                      have p420 : 0 ≤ (x20_5 : Int) := of_decide_eq_true (by first | (with_reducible assumption) | assumption)
                      have q420 : x20_5 < ((rd_L2 l0 x110_4).length : Int) := of_decide_eq_true (by first | (with_reducible assumption) | assumption)
                      obtain ⟨ad420, e420, hx420_0, hx420_1⟩ := at_T40 HR413_0.out x20_5 p420 q420
                      have hw420_1 := hx420_1
                      have hw420_0 := hx420_0
                      obtain rfl : ad414 = ad420 := (by injection e420)
                      replace hx420_0 := (HB.out.cell (World.block_lt_of_cell? w _ hx420_0)).trans hx420_0
                      replace hx420_1 := (HB.out.cell (World.block_lt_of_cell? w _ hx420_1)).trans hx420_1
                      replace p420 := eq_true p420
                      replace q420 := eq_true q420
                      refine Uni.unij_ (Uni.JT [.val (.slice (some ad414) ((rd_L2 l0 x110_4).length) c413_0), .val (.int .i64 x20_5), .val (.int .i64 ji65), .val (.pointer (some (ad414.add ((ji65).toNat * 2)))), .val (.pointer (some (ad414.add ((ji65).toNat * 2)))), .val (.int .i64 ((rd_T40 (rd_L2 l0 x110_4) (ji65)).f0)), .val (.int .i64 t415), .val (.slice (some ad414) ((rd_L2 l0 x110_4).length) c413_0), .val (.int .i64 x20_5), .val (.int .i64 ji65), .val (.pointer (some (ad414.add ((ji65).toNat * 2)))), .val (.pointer (some ⟨(ad414.add ((ji65).toNat * 2)).block, (ad414.add ((ji65).toNat * 2)).off + 1, none⟩)), .val (.int .i64 ((rd_T40 (rd_L2 l0 x110_4) (ji65)).f1)), .val (.int .i64 t417), .val (.agg #[.int .i64 t415, .int .i64 t417]), .val (.slice (some ad414) ((rd_L2 l0 x110_4).length) c413_0), .val (.int .i64 x20_5), .val (.pointer (some (ad414.add ((x20_5).toNat * 2)))), .val (.pointer (some (ad414.add ((x20_5).toNat * 2)))), .val (.int .i64 ((rd_T40 (rd_L2 l0 x110_4) x20_5).f0)), .val (.int .i64 t419), .val (.slice (some ad414) ((rd_L2 l0 x110_4).length) c413_0), .val (.int .i64 x20_5), .val (.pointer (some (ad414.add ((x20_5).toNat * 2)))), .val (.pointer (some ⟨(ad414.add ((x20_5).toNat * 2)).block, (ad414.add ((x20_5).toNat * 2)).off + 1, none⟩)), .val (.int .i64 ((rd_T40 (rd_L2 l0 x110_4) x20_5).f1)), .val (.int .i64 t421), .val (.agg #[.int .i64 t419, .int .i64 t421]), .box (.cells #[.int .i64 0, .int .i64 0] 40 (0, 0)) (.cells #[.int .i64 t415, .int .i64 t417] 40 (0, 0)) 30, .box (.cells #[.int .i64 0, .int .i64 0] 40 (0, 0)) (.cells #[.int .i64 t419, .int .i64 t421] 40 (0, 0)) 31, .sto, .sto] wr) [some 120, some 121, some 122, some 123, some 124, some 125, some 126, some 127, some 128, some 129, some 130, some 131, some 132, some 133, some 134, some 135, some 136, some 137, some 138, some 139, some 140, some 141, some 142, some 143, some 144, some 145, some 146, some 147, some 21, some 22, none, none] [[], [], [1], [0, 2], [3], [4], [5], [], [], [8], [7, 9], [10], [11], [12, 6], [6, 13], [], [], [15, 16], [17], [18], [19, 13], [], [], [21, 22], [23], [24], [25, 20], [20, 26], [], [], [28, 14, 26, 0, 1, 2, 3, 4, 5, 6, 7, 8, 9, 10, 11, 12, 13, 14, 28, 29], [29, 27, 30, 0, 1, 2, 3, 4, 5, 6, 7, 8, 9, 10, 11, 12, 13, 14, 15, 16, 17, 18, 19, 20, 21, 22, 23, 24, 25, 26, 27, 28, 29, 30]] (by kernel_rfl) (by kernel_rfl) (by kernel_rfl) (by kernel_rfl) (by kernel_rfl) (fun v => Uni.JT.init (below_drew1 (Below.refl wr.heap.size wr))) ⟨?_, ?_, ?_, ?_, ?_, ?_, ?_, ?_, ?_, ?_, ?_, ?_, ?_, ?_, ?_, ?_, ?_, ?_, ?_, ?_, ?_, ?_, ?_, ?_, ?_, ?_, ?_, ?_, ?_, ?_, ?_, ?_, trivial⟩ ?_
                      · intro l v w' hJ hi hw hf a' ha K hK
                        simp only [Uni.fill, Uni.fillT, List.setIfInBounds_toArray, List.set_cons_zero, List.set_cons_succ, Nat.zero_add, Nat.reduceAdd] at ha
                        subst ha
                        refine event_step (by rfl) (w1 := w') (v := .slice (some ad414) ((rd_L2 l0 x110_4).length) c413_0) ?_ (hK _ _ (hJ.plain (by rfl) (by rfl) (Below.refl _ _)))
                        go_simp
                        try rfl
                      · intro l v w' hJ hi hw hf a' ha K hK
                        simp only [Uni.fill, Uni.fillT, List.setIfInBounds_toArray, List.set_cons_zero, List.set_cons_succ, Nat.zero_add, Nat.reduceAdd] at ha
                        subst ha
                        refine event_step (by rfl) (w1 := w') (v := .int .i64 x20_5) ?_ (hK _ _ (hJ.plain (by rfl) (by rfl) (Below.refl _ _)))
                        go_simp
                        try rfl
                      · intro l v w' hJ hi hw hf a' ha K hK
                        have e1 : v 1 = .int .i64 x20_5 := hJ.val (by rfl) (hw 1 (by decide))
                        simp only [Uni.fill, Uni.fillT, List.setIfInBounds_toArray, List.set_cons_zero, List.set_cons_succ, Nat.zero_add, Nat.reduceAdd, e1] at ha
                        subst ha
                        clear e1
                        refine event_step (by rfl) (w1 := w') (v := .int .i64 ji65) ?_ (hK _ _ (hJ.plain (by rfl) (by rfl) (Below.refl _ _)))
                        go_simp
                        try first | rfl | exact hji65w
                      · intro l v w' hJ hi hw hf a' ha K hK
                        have e0 : v 0 = .slice (some ad414) ((rd_L2 l0 x110_4).length) c413_0 := hJ.val (by rfl) (hw 0 (by decide))
                        have e2 : v 2 = .int .i64 ji65 := hJ.val (by rfl) (hw 2 (by decide))
                        simp only [Uni.fill, Uni.fillT, List.setIfInBounds_toArray, List.set_cons_zero, List.set_cons_succ, Nat.zero_add, Nat.reduceAdd, e0, e2] at ha
                        subst ha
                        clear e0 e2
                        refine event_step (by rfl) (w1 := w') (v := .pointer (some (ad414.add ((ji65).toNat * 2)))) ?_ (hK _ _ (hJ.plain (by rfl) (by rfl) (Below.refl _ _)))
                        go_simp
                        try rfl
                      · intro l v w' hJ hi hw hf a' ha K hK
                        have e3 : v 3 = .pointer (some (ad414.add ((ji65).toNat * 2))) := hJ.val (by rfl) (hw 3 (by decide))
                        simp only [Uni.fill, Uni.fillT, List.setIfInBounds_toArray, List.set_cons_zero, List.set_cons_succ, Nat.zero_add, Nat.reduceAdd, e3] at ha
                        subst ha
                        clear e3
                        refine event_step (by rfl) (w1 := w') (v := .pointer (some (ad414.add ((ji65).toNat * 2)))) ?_ (hK _ _ (hJ.plain (by rfl) (by rfl) (Below.refl _ _)))
                        go_simp
                        try rfl
                      · intro l v w' hJ hi hw hf a' ha K hK
                        have e4 : v 4 = .pointer (some (ad414.add ((ji65).toNat * 2))) := hJ.val (by rfl) (hw 4 (by decide))
                        simp only [Uni.fill, Uni.fillT, List.setIfInBounds_toArray, List.set_cons_zero, List.set_cons_succ, Nat.zero_add, Nat.reduceAdd, e4] at ha
                        subst ha
                        clear e4
                        have hq_hx414_0 := (hJ.low.cell (World.block_lt_of_cell? wr _ hx414_0)).trans hx414_0
                        refine event_step (by rfl) (w1 := w') (v := .int .i64 ((rd_T40 (rd_L2 l0 x110_4) (ji65)).f0)) ?_ (hK _ _ (hJ.plain (by rfl) (by rfl) (Below.refl _ _)))
                        go_simp
                        try rfl
                      · intro l v w' hJ hi hw hf a' ha K hK
                        have e5 : v 5 = .int .i64 ((rd_T40 (rd_L2 l0 x110_4) (ji65)).f0) := hJ.val (by rfl) (hw 5 (by decide))
                        simp only [Uni.fill, Uni.fillT, List.setIfInBounds_toArray, List.set_cons_zero, List.set_cons_succ, Nat.zero_add, Nat.reduceAdd, e5] at ha
                        subst ha
                        clear e5
                        refine goes_ Try.func50 (by kernel_rfl) rfl #[.int .i64 ((rd_T40 (rd_L2 l0 x110_4) (ji65)).f0)] (by rfl) rfl rfl (by (try simp only [List.map_toArray, List.map_cons, List.map_nil]); first | done | rfl) ?_
                        refine (terrref5_Short.calls ((rd_T40 (rd_L2 l0 x110_4) (ji65)).f0) t415 _ A68.out).mono ?_
                        rintro e_ w2 ⟨rfl, hb0⟩
                        have hb : Below w'.heap.size w' w2 := by first | exact hb0 | exact hb0.below
                        exact ⟨_, rfl, hK _ _ (hJ.plain (by rfl) (by rfl) hb)⟩
                      · intro l v w' hJ hi hw hf a' ha K hK
                        simp only [Uni.fill, Uni.fillT, List.setIfInBounds_toArray, List.set_cons_zero, List.set_cons_succ, Nat.zero_add, Nat.reduceAdd] at ha
                        subst ha
                        refine event_step (by rfl) (w1 := w') (v := .slice (some ad414) ((rd_L2 l0 x110_4).length) c413_0) ?_ (hK _ _ (hJ.plain (by rfl) (by rfl) (Below.refl _ _)))
                        go_simp
                        try rfl
                      · intro l v w' hJ hi hw hf a' ha K hK
                        simp only [Uni.fill, Uni.fillT, List.setIfInBounds_toArray, List.set_cons_zero, List.set_cons_succ, Nat.zero_add, Nat.reduceAdd] at ha
                        subst ha
                        refine event_step (by rfl) (w1 := w') (v := .int .i64 x20_5) ?_ (hK _ _ (hJ.plain (by rfl) (by rfl) (Below.refl _ _)))
                        go_simp
                        try rfl
                      · intro l v w' hJ hi hw hf a' ha K hK
                        have e8 : v 8 = .int .i64 x20_5 := hJ.val (by rfl) (hw 8 (by decide))
                        simp only [Uni.fill, Uni.fillT, List.setIfInBounds_toArray, List.set_cons_zero, List.set_cons_succ, Nat.zero_add, Nat.reduceAdd, e8] at ha
                        subst ha
                        clear e8
                        refine event_step (by rfl) (w1 := w') (v := .int .i64 ji65) ?_ (hK _ _ (hJ.plain (by rfl) (by rfl) (Below.refl _ _)))
                        go_simp
                        try first | rfl | exact hji65w
                      · intro l v w' hJ hi hw hf a' ha K hK
                        have e7 : v 7 = .slice (some ad414) ((rd_L2 l0 x110_4).length) c413_0 := hJ.val (by rfl) (hw 7 (by decide))
                        have e9 : v 9 = .int .i64 ji65 := hJ.val (by rfl) (hw 9 (by decide))
                        simp only [Uni.fill, Uni.fillT, List.setIfInBounds_toArray, List.set_cons_zero, List.set_cons_succ, Nat.zero_add, Nat.reduceAdd, e7, e9] at ha
                        subst ha
                        clear e7 e9
                        refine event_step (by rfl) (w1 := w') (v := .pointer (some (ad414.add ((ji65).toNat * 2)))) ?_ (hK _ _ (hJ.plain (by rfl) (by rfl) (Below.refl _ _)))
                        go_simp
                        try rfl
                      · intro l v w' hJ hi hw hf a' ha K hK
                        have e10 : v 10 = .pointer (some (ad414.add ((ji65).toNat * 2))) := hJ.val (by rfl) (hw 10 (by decide))
                        simp only [Uni.fill, Uni.fillT, List.setIfInBounds_toArray, List.set_cons_zero, List.set_cons_succ, Nat.zero_add, Nat.reduceAdd, e10] at ha
                        subst ha
                        clear e10
                        refine event_step (by rfl) (w1 := w') (v := .pointer (some ⟨(ad414.add ((ji65).toNat * 2)).block, (ad414.add ((ji65).toNat * 2)).off + 1, none⟩)) ?_ (hK _ _ (hJ.plain (by rfl) (by rfl) (Below.refl _ _)))
                        go_simp
                        try rfl
                      · intro l v w' hJ hi hw hf a' ha K hK
                        have e11 : v 11 = .pointer (some ⟨(ad414.add ((ji65).toNat * 2)).block, (ad414.add ((ji65).toNat * 2)).off + 1, none⟩) := hJ.val (by rfl) (hw 11 (by decide))
                        simp only [Uni.fill, Uni.fillT, List.setIfInBounds_toArray, List.set_cons_zero, List.set_cons_succ, Nat.zero_add, Nat.reduceAdd, e11] at ha
                        subst ha
                        clear e11
                        have hq_hx416_1 := (hJ.low.cell (World.block_lt_of_cell? wr _ hx416_1)).trans hx416_1
                        refine event_step (by rfl) (w1 := w') (v := .int .i64 ((rd_T40 (rd_L2 l0 x110_4) (ji65)).f1)) ?_ (hK _ _ (hJ.plain (by rfl) (by rfl) (Below.refl _ _)))
                        go_simp
                        try rfl
                      · intro l v w' hJ hi hw hf a' ha K hK
                        have e12 : v 12 = .int .i64 ((rd_T40 (rd_L2 l0 x110_4) (ji65)).f1) := hJ.val (by rfl) (hw 12 (by decide))
                        have e6 : v 6 = .int .i64 t415 := hJ.val (by rfl) (hw 6 (by decide))
                        simp only [Uni.fill, Uni.fillT, List.setIfInBounds_toArray, List.set_cons_zero, List.set_cons_succ, Nat.zero_add, Nat.reduceAdd, e12, e6] at ha
                        subst ha
                        clear e12 e6
                        refine goes_ Try.func50 (by kernel_rfl) rfl #[.int .i64 ((rd_T40 (rd_L2 l0 x110_4) (ji65)).f1)] (by rfl) rfl rfl (by (try simp only [List.map_toArray, List.map_cons, List.map_nil]); first | done | rfl) ?_
                        refine (terrref5_Short.calls ((rd_T40 (rd_L2 l0 x110_4) (ji65)).f1) t417 _ A69.out).mono ?_
                        rintro e_ w2 ⟨rfl, hb0⟩
                        have hb : Below w'.heap.size w' w2 := by first | exact hb0 | exact hb0.below
                        exact ⟨_, rfl, hK _ _ (hJ.plain (by rfl) (by rfl) hb)⟩
                      · intro l v w' hJ hi hw hf a' ha K hK
                        have e6 : v 6 = .int .i64 t415 := hJ.val (by rfl) (hw 6 (by decide))
                        have e13 : v 13 = .int .i64 t417 := hJ.val (by rfl) (hw 13 (by decide))
                        simp only [Uni.fill, Uni.fillT, List.setIfInBounds_toArray, List.set_cons_zero, List.set_cons_succ, Nat.zero_add, Nat.reduceAdd, e6, e13] at ha
                        subst ha
                        clear e6 e13
                        refine event_step (by rfl) (w1 := w') (v := .agg #[.int .i64 t415, .int .i64 t417]) ?_ (hK _ _ (hJ.plain (by rfl) (by rfl) (Below.refl _ _)))
                        go_simp
                        try rfl
                      · intro l v w' hJ hi hw hf a' ha K hK
                        simp only [Uni.fill, Uni.fillT, List.setIfInBounds_toArray, List.set_cons_zero, List.set_cons_succ, Nat.zero_add, Nat.reduceAdd] at ha
                        subst ha
                        refine event_step (by rfl) (w1 := w') (v := .slice (some ad414) ((rd_L2 l0 x110_4).length) c413_0) ?_ (hK _ _ (hJ.plain (by rfl) (by rfl) (Below.refl _ _)))
                        go_simp
                        try rfl
                      · intro l v w' hJ hi hw hf a' ha K hK
                        simp only [Uni.fill, Uni.fillT, List.setIfInBounds_toArray, List.set_cons_zero, List.set_cons_succ, Nat.zero_add, Nat.reduceAdd] at ha
                        subst ha
                        refine event_step (by rfl) (w1 := w') (v := .int .i64 x20_5) ?_ (hK _ _ (hJ.plain (by rfl) (by rfl) (Below.refl _ _)))
                        go_simp
                        try rfl
                      · intro l v w' hJ hi hw hf a' ha K hK
                        have e15 : v 15 = .slice (some ad414) ((rd_L2 l0 x110_4).length) c413_0 := hJ.val (by rfl) (hw 15 (by decide))
                        have e16 : v 16 = .int .i64 x20_5 := hJ.val (by rfl) (hw 16 (by decide))
                        simp only [Uni.fill, Uni.fillT, List.setIfInBounds_toArray, List.set_cons_zero, List.set_cons_succ, Nat.zero_add, Nat.reduceAdd, e15, e16] at ha
                        subst ha
                        clear e15 e16
                        refine event_step (by rfl) (w1 := w') (v := .pointer (some (ad414.add ((x20_5).toNat * 2)))) ?_ (hK _ _ (hJ.plain (by rfl) (by rfl) (Below.refl _ _)))
                        go_simp
                        try rfl
                      · intro l v w' hJ hi hw hf a' ha K hK
                        have e17 : v 17 = .pointer (some (ad414.add ((x20_5).toNat * 2))) := hJ.val (by rfl) (hw 17 (by decide))
                        simp only [Uni.fill, Uni.fillT, List.setIfInBounds_toArray, List.set_cons_zero, List.set_cons_succ, Nat.zero_add, Nat.reduceAdd, e17] at ha
                        subst ha
                        clear e17
                        refine event_step (by rfl) (w1 := w') (v := .pointer (some (ad414.add ((x20_5).toNat * 2)))) ?_ (hK _ _ (hJ.plain (by rfl) (by rfl) (Below.refl _ _)))
                        go_simp
                        try rfl
                      · intro l v w' hJ hi hw hf a' ha K hK
                        have e18 : v 18 = .pointer (some (ad414.add ((x20_5).toNat * 2))) := hJ.val (by rfl) (hw 18 (by decide))
                        simp only [Uni.fill, Uni.fillT, List.setIfInBounds_toArray, List.set_cons_zero, List.set_cons_succ, Nat.zero_add, Nat.reduceAdd, e18] at ha
                        subst ha
                        clear e18
                        have hq_hx418_0 := (hJ.low.cell (World.block_lt_of_cell? wr _ hx418_0)).trans hx418_0
                        refine event_step (by rfl) (w1 := w') (v := .int .i64 ((rd_T40 (rd_L2 l0 x110_4) x20_5).f0)) ?_ (hK _ _ (hJ.plain (by rfl) (by rfl) (Below.refl _ _)))
                        go_simp
                        try rfl
                      · intro l v w' hJ hi hw hf a' ha K hK
                        have e19 : v 19 = .int .i64 ((rd_T40 (rd_L2 l0 x110_4) x20_5).f0) := hJ.val (by rfl) (hw 19 (by decide))
                        have e13 : v 13 = .int .i64 t417 := hJ.val (by rfl) (hw 13 (by decide))
                        simp only [Uni.fill, Uni.fillT, List.setIfInBounds_toArray, List.set_cons_zero, List.set_cons_succ, Nat.zero_add, Nat.reduceAdd, e19, e13] at ha
                        subst ha
                        clear e19 e13
                        refine goes_ Try.func50 (by kernel_rfl) rfl #[.int .i64 ((rd_T40 (rd_L2 l0 x110_4) x20_5).f0)] (by rfl) rfl rfl (by (try simp only [List.map_toArray, List.map_cons, List.map_nil]); first | done | rfl) ?_
                        refine (terrref5_Short.calls ((rd_T40 (rd_L2 l0 x110_4) x20_5).f0) t419 _ A71.out).mono ?_
                        rintro e_ w2 ⟨rfl, hb0⟩
                        have hb : Below w'.heap.size w' w2 := by first | exact hb0 | exact hb0.below
                        exact ⟨_, rfl, hK _ _ (hJ.plain (by rfl) (by rfl) hb)⟩
                      · intro l v w' hJ hi hw hf a' ha K hK
                        simp only [Uni.fill, Uni.fillT, List.setIfInBounds_toArray, List.set_cons_zero, List.set_cons_succ, Nat.zero_add, Nat.reduceAdd] at ha
                        subst ha
                        refine event_step (by rfl) (w1 := w') (v := .slice (some ad414) ((rd_L2 l0 x110_4).length) c413_0) ?_ (hK _ _ (hJ.plain (by rfl) (by rfl) (Below.refl _ _)))
                        go_simp
                        try rfl
                      · intro l v w' hJ hi hw hf a' ha K hK
                        simp only [Uni.fill, Uni.fillT, List.setIfInBounds_toArray, List.set_cons_zero, List.set_cons_succ, Nat.zero_add, Nat.reduceAdd] at ha
                        subst ha
                        refine event_step (by rfl) (w1 := w') (v := .int .i64 x20_5) ?_ (hK _ _ (hJ.plain (by rfl) (by rfl) (Below.refl _ _)))
                        go_simp
                        try rfl
                      · intro l v w' hJ hi hw hf a' ha K hK
                        have e21 : v 21 = .slice (some ad414) ((rd_L2 l0 x110_4).length) c413_0 := hJ.val (by rfl) (hw 21 (by decide))
                        have e22 : v 22 = .int .i64 x20_5 := hJ.val (by rfl) (hw 22 (by decide))
                        simp only [Uni.fill, Uni.fillT, List.setIfInBounds_toArray, List.set_cons_zero, List.set_cons_succ, Nat.zero_add, Nat.reduceAdd, e21, e22] at ha
                        subst ha
                        clear e21 e22
                        refine event_step (by rfl) (w1 := w') (v := .pointer (some (ad414.add ((x20_5).toNat * 2)))) ?_ (hK _ _ (hJ.plain (by rfl) (by rfl) (Below.refl _ _)))
                        go_simp
                        try rfl
                      · intro l v w' hJ hi hw hf a' ha K hK
                        have e23 : v 23 = .pointer (some (ad414.add ((x20_5).toNat * 2))) := hJ.val (by rfl) (hw 23 (by decide))
                        simp only [Uni.fill, Uni.fillT, List.setIfInBounds_toArray, List.set_cons_zero, List.set_cons_succ, Nat.zero_add, Nat.reduceAdd, e23] at ha
                        subst ha
                        clear e23
                        refine event_step (by rfl) (w1 := w') (v := .pointer (some ⟨(ad414.add ((x20_5).toNat * 2)).block, (ad414.add ((x20_5).toNat * 2)).off + 1, none⟩)) ?_ (hK _ _ (hJ.plain (by rfl) (by rfl) (Below.refl _ _)))
                        go_simp
                        try rfl
                      · intro l v w' hJ hi hw hf a' ha K hK
                        have e24 : v 24 = .pointer (some ⟨(ad414.add ((x20_5).toNat * 2)).block, (ad414.add ((x20_5).toNat * 2)).off + 1, none⟩) := hJ.val (by rfl) (hw 24 (by decide))
                        simp only [Uni.fill, Uni.fillT, List.setIfInBounds_toArray, List.set_cons_zero, List.set_cons_succ, Nat.zero_add, Nat.reduceAdd, e24] at ha
                        subst ha
                        clear e24
                        have hq_hx420_1 := (hJ.low.cell (World.block_lt_of_cell? wr _ hx420_1)).trans hx420_1
                        refine event_step (by rfl) (w1 := w') (v := .int .i64 ((rd_T40 (rd_L2 l0 x110_4) x20_5).f1)) ?_ (hK _ _ (hJ.plain (by rfl) (by rfl) (Below.refl _ _)))
                        go_simp
                        try rfl
                      · intro l v w' hJ hi hw hf a' ha K hK
                        have e25 : v 25 = .int .i64 ((rd_T40 (rd_L2 l0 x110_4) x20_5).f1) := hJ.val (by rfl) (hw 25 (by decide))
                        have e20 : v 20 = .int .i64 t419 := hJ.val (by rfl) (hw 20 (by decide))
                        simp only [Uni.fill, Uni.fillT, List.setIfInBounds_toArray, List.set_cons_zero, List.set_cons_succ, Nat.zero_add, Nat.reduceAdd, e25, e20] at ha
                        subst ha
                        clear e25 e20
                        refine goes_ Try.func50 (by kernel_rfl) rfl #[.int .i64 ((rd_T40 (rd_L2 l0 x110_4) x20_5).f1)] (by rfl) rfl rfl (by (try simp only [List.map_toArray, List.map_cons, List.map_nil]); first | done | rfl) ?_
                        refine (terrref5_Short.calls ((rd_T40 (rd_L2 l0 x110_4) x20_5).f1) t421 _ A72.out).mono ?_
                        rintro e_ w2 ⟨rfl, hb0⟩
                        have hb : Below w'.heap.size w' w2 := by first | exact hb0 | exact hb0.below
                        exact ⟨_, rfl, hK _ _ (hJ.plain (by rfl) (by rfl) hb)⟩
                      · intro l v w' hJ hi hw hf a' ha K hK
                        have e20 : v 20 = .int .i64 t419 := hJ.val (by rfl) (hw 20 (by decide))
                        have e26 : v 26 = .int .i64 t421 := hJ.val (by rfl) (hw 26 (by decide))
                        simp only [Uni.fill, Uni.fillT, List.setIfInBounds_toArray, List.set_cons_zero, List.set_cons_succ, Nat.zero_add, Nat.reduceAdd, e20, e26] at ha
                        subst ha
                        clear e20 e26
                        refine event_step (by rfl) (w1 := w') (v := .agg #[.int .i64 t419, .int .i64 t421]) ?_ (hK _ _ (hJ.plain (by rfl) (by rfl) (Below.refl _ _)))
                        go_simp
                        try rfl
                      · intro l v w' hJ hi hw hf a' ha K hK
                        simp only [Uni.fill, Uni.fillT, List.setIfInBounds_toArray, List.set_cons_zero, List.set_cons_succ, Nat.zero_add, Nat.reduceAdd] at ha
                        subst ha
                        refine box_step (by rfl) (N := 21) rfl (cs := #[.int .i64 0, .int .i64 0]) (t := 40) ?hr ?_
                        case hr => first | (go_simp; done) | (go_simp; rfl)
                        intro g_ hg w1 hbox hb
                        exact hK _ _ (hJ.alloc (by rfl) (by rfl) (hf 30 (by decide)) hg hbox hb)
                      · intro l v w' hJ hi hw hf a' ha K hK
                        simp only [Uni.fill, Uni.fillT, List.setIfInBounds_toArray, List.set_cons_zero, List.set_cons_succ, Nat.zero_add, Nat.reduceAdd] at ha
                        subst ha
                        refine box_step (by rfl) (N := 22) rfl (cs := #[.int .i64 0, .int .i64 0]) (t := 40) ?hr ?_
                        case hr => first | (go_simp; done) | (go_simp; rfl)
                        intro g_ hg w1 hbox hb
                        exact hK _ _ (hJ.alloc (by rfl) (by rfl) (hf 31 (by decide)) hg hbox hb)
                      · intro l v w' hJ hi hw hf a' ha K hK
                        obtain ⟨g28_, E28, b28, c28⟩ := hJ.box (j := 28) (by rfl) (hw 28 (by decide))
                        have e28 : v 28 = .pointer (some ⟨g28_, 0, none⟩) := E28
                        have e14 : v 14 = .agg #[.int .i64 t415, .int .i64 t417] := hJ.val (by rfl) (hw 14 (by decide))
                        have e26 : v 26 = .int .i64 t421 := hJ.val (by rfl) (hw 26 (by decide))
                        have e0 : v 0 = .slice (some ad414) ((rd_L2 l0 x110_4).length) c413_0 := hJ.val (by rfl) (hw 0 (by decide))
                        have e1 : v 1 = .int .i64 x20_5 := hJ.val (by rfl) (hw 1 (by decide))
                        have e2 : v 2 = .int .i64 ji65 := hJ.val (by rfl) (hw 2 (by decide))
                        have e3 : v 3 = .pointer (some (ad414.add ((ji65).toNat * 2))) := hJ.val (by rfl) (hw 3 (by decide))
                        have e4 : v 4 = .pointer (some (ad414.add ((ji65).toNat * 2))) := hJ.val (by rfl) (hw 4 (by decide))
                        have e5 : v 5 = .int .i64 ((rd_T40 (rd_L2 l0 x110_4) (ji65)).f0) := hJ.val (by rfl) (hw 5 (by decide))
                        have e6 : v 6 = .int .i64 t415 := hJ.val (by rfl) (hw 6 (by decide))
                        have e7 : v 7 = .slice (some ad414) ((rd_L2 l0 x110_4).length) c413_0 := hJ.val (by rfl) (hw 7 (by decide))
                        have e8 : v 8 = .int .i64 x20_5 := hJ.val (by rfl) (hw 8 (by decide))
                        have e9 : v 9 = .int .i64 ji65 := hJ.val (by rfl) (hw 9 (by decide))
                        have e10 : v 10 = .pointer (some (ad414.add ((ji65).toNat * 2))) := hJ.val (by rfl) (hw 10 (by decide))
                        have e11 : v 11 = .pointer (some ⟨(ad414.add ((ji65).toNat * 2)).block, (ad414.add ((ji65).toNat * 2)).off + 1, none⟩) := hJ.val (by rfl) (hw 11 (by decide))
                        have e12 : v 12 = .int .i64 ((rd_T40 (rd_L2 l0 x110_4) (ji65)).f1) := hJ.val (by rfl) (hw 12 (by decide))
                        have e13 : v 13 = .int .i64 t417 := hJ.val (by rfl) (hw 13 (by decide))
                        obtain ⟨g29_, E29, b29, c29⟩ := hJ.box (j := 29) (by rfl) (hw 29 (by decide))
                        have e29 : v 29 = .pointer (some ⟨g29_, 0, none⟩) := E29
                        simp only [Uni.fill, Uni.fillT, List.setIfInBounds_toArray, List.set_cons_zero, List.set_cons_succ, Nat.zero_add, Nat.reduceAdd, e28, e14, e26, e0, e1, e2, e3, e4, e5, e6, e7, e8, e9, e10, e11, e12, e13, e29] at ha
                        subst ha
                        clear e28 e14 e26 e0 e1 e2 e3 e4 e5 e6 e7 e8 e9 e10 e11 e12 e13 e29
                        have c : w'.heap[g28_]? = some (.cells #[.int .i64 0, .int .i64 0] 40 (0, 0)) := by rw [hi] at c28; exact c28
                        have hc_0 : w'.cell? ⟨g28_, 0, none⟩ = some (.int .i64 0) := (blk_cell c 0).trans rfl
                        have hf_0 := blk_frozen c 0
                        have hc_1 : w'.cell? ⟨g28_, 1, none⟩ = some (.int .i64 0) := (blk_cell c 1).trans rfl
                        have hf_1 := blk_frozen c 1
                        have hwf : ((w'.setCell ⟨g28_, 0, none⟩ (.int .i64 t415)).setCell ⟨g28_, 1, none⟩ (.int .i64 t417)).heap[g28_]? = some (.cells #[.int .i64 t415, .int .i64 t417] 40 (0, 0)) := (blk_put (blk_put c 0 (.int .i64 t415) (cs' := #[.int .i64 t415, .int .i64 0]) rfl) 1 (.int .i64 t417) (cs' := #[.int .i64 t415, .int .i64 t417]) rfl)
                        have hne : ∀ g : Nat, g ≠ g28_ → ((w'.setCell ⟨g28_, 0, none⟩ (.int .i64 t415)).setCell ⟨g28_, 1, none⟩ (.int .i64 t417)).heap[g]? = w'.heap[g]? := fun g hg => ((Below.heap_setCell _ _ _ g hg).trans ((Below.heap_setCell _ _ _ g hg)))
                        have hbe : Below wr.heap.size wr ((w'.setCell ⟨g28_, 0, none⟩ (.int .i64 t415)).setCell ⟨g28_, 1, none⟩ (.int .i64 t417)) := by (repeat refine below_set ?_ b28); exact hJ.low
                        refine Uni.store_step (by rfl) (w1 := ((w'.setCell ⟨g28_, 0, none⟩ (.int .i64 t415)).setCell ⟨g28_, 1, none⟩ (.int .i64 t417))) ?hr (hK undef _ (hJ.store (by rfl) (j := 28) (by rfl) (Uni.oneB_spec (by rfl)) (hw 28 (by decide)) E28 hwf hne hbe))
                        case hr => first | (go_simp; done) | (go_simp; rfl)
                      · intro l v w' hJ hi hw hf a' ha K hK
                        obtain ⟨g29_, E29, b29, c29⟩ := hJ.box (j := 29) (by rfl) (hw 29 (by decide))
                        have e29 : v 29 = .pointer (some ⟨g29_, 0, none⟩) := E29
                        have e27 : v 27 = .agg #[.int .i64 t419, .int .i64 t421] := hJ.val (by rfl) (hw 27 (by decide))
                        have e0 : v 0 = .slice (some ad414) ((rd_L2 l0 x110_4).length) c413_0 := hJ.val (by rfl) (hw 0 (by decide))
                        have e1 : v 1 = .int .i64 x20_5 := hJ.val (by rfl) (hw 1 (by decide))
                        have e2 : v 2 = .int .i64 ji65 := hJ.val (by rfl) (hw 2 (by decide))
                        have e3 : v 3 = .pointer (some (ad414.add ((ji65).toNat * 2))) := hJ.val (by rfl) (hw 3 (by decide))
                        have e4 : v 4 = .pointer (some (ad414.add ((ji65).toNat * 2))) := hJ.val (by rfl) (hw 4 (by decide))
                        have e5 : v 5 = .int .i64 ((rd_T40 (rd_L2 l0 x110_4) (ji65)).f0) := hJ.val (by rfl) (hw 5 (by decide))
                        have e6 : v 6 = .int .i64 t415 := hJ.val (by rfl) (hw 6 (by decide))
                        have e7 : v 7 = .slice (some ad414) ((rd_L2 l0 x110_4).length) c413_0 := hJ.val (by rfl) (hw 7 (by decide))
                        have e8 : v 8 = .int .i64 x20_5 := hJ.val (by rfl) (hw 8 (by decide))
                        have e9 : v 9 = .int .i64 ji65 := hJ.val (by rfl) (hw 9 (by decide))
                        have e10 : v 10 = .pointer (some (ad414.add ((ji65).toNat * 2))) := hJ.val (by rfl) (hw 10 (by decide))
                        have e11 : v 11 = .pointer (some ⟨(ad414.add ((ji65).toNat * 2)).block, (ad414.add ((ji65).toNat * 2)).off + 1, none⟩) := hJ.val (by rfl) (hw 11 (by decide))
                        have e12 : v 12 = .int .i64 ((rd_T40 (rd_L2 l0 x110_4) (ji65)).f1) := hJ.val (by rfl) (hw 12 (by decide))
                        have e13 : v 13 = .int .i64 t417 := hJ.val (by rfl) (hw 13 (by decide))
                        have e14 : v 14 = .agg #[.int .i64 t415, .int .i64 t417] := hJ.val (by rfl) (hw 14 (by decide))
                        have e15 : v 15 = .slice (some ad414) ((rd_L2 l0 x110_4).length) c413_0 := hJ.val (by rfl) (hw 15 (by decide))
                        have e16 : v 16 = .int .i64 x20_5 := hJ.val (by rfl) (hw 16 (by decide))
                        have e17 : v 17 = .pointer (some (ad414.add ((x20_5).toNat * 2))) := hJ.val (by rfl) (hw 17 (by decide))
                        have e18 : v 18 = .pointer (some (ad414.add ((x20_5).toNat * 2))) := hJ.val (by rfl) (hw 18 (by decide))
                        have e19 : v 19 = .int .i64 ((rd_T40 (rd_L2 l0 x110_4) x20_5).f0) := hJ.val (by rfl) (hw 19 (by decide))
                        have e20 : v 20 = .int .i64 t419 := hJ.val (by rfl) (hw 20 (by decide))
                        have e21 : v 21 = .slice (some ad414) ((rd_L2 l0 x110_4).length) c413_0 := hJ.val (by rfl) (hw 21 (by decide))
                        have e22 : v 22 = .int .i64 x20_5 := hJ.val (by rfl) (hw 22 (by decide))
                        have e23 : v 23 = .pointer (some (ad414.add ((x20_5).toNat * 2))) := hJ.val (by rfl) (hw 23 (by decide))
                        have e24 : v 24 = .pointer (some ⟨(ad414.add ((x20_5).toNat * 2)).block, (ad414.add ((x20_5).toNat * 2)).off + 1, none⟩) := hJ.val (by rfl) (hw 24 (by decide))
                        have e25 : v 25 = .int .i64 ((rd_T40 (rd_L2 l0 x110_4) x20_5).f1) := hJ.val (by rfl) (hw 25 (by decide))
                        have e26 : v 26 = .int .i64 t421 := hJ.val (by rfl) (hw 26 (by decide))
                        obtain ⟨g28_, E28, b28, c28⟩ := hJ.box (j := 28) (by rfl) (hw 28 (by decide))
                        have e28 : v 28 = .pointer (some ⟨g28_, 0, none⟩) := E28
                        simp only [Uni.fill, Uni.fillT, List.setIfInBounds_toArray, List.set_cons_zero, List.set_cons_succ, Nat.zero_add, Nat.reduceAdd, e29, e27, e0, e1, e2, e3, e4, e5, e6, e7, e8, e9, e10, e11, e12, e13, e14, e15, e16, e17, e18, e19, e20, e21, e22, e23, e24, e25, e26, e28] at ha
                        subst ha
                        clear e29 e27 e0 e1 e2 e3 e4 e5 e6 e7 e8 e9 e10 e11 e12 e13 e14 e15 e16 e17 e18 e19 e20 e21 e22 e23 e24 e25 e26 e28
                        have c : w'.heap[g29_]? = some (.cells #[.int .i64 0, .int .i64 0] 40 (0, 0)) := by rw [hi] at c29; exact c29
                        have hc_0 : w'.cell? ⟨g29_, 0, none⟩ = some (.int .i64 0) := (blk_cell c 0).trans rfl
                        have hf_0 := blk_frozen c 0
                        have hc_1 : w'.cell? ⟨g29_, 1, none⟩ = some (.int .i64 0) := (blk_cell c 1).trans rfl
                        have hf_1 := blk_frozen c 1
                        have hwf : ((w'.setCell ⟨g29_, 0, none⟩ (.int .i64 t419)).setCell ⟨g29_, 1, none⟩ (.int .i64 t421)).heap[g29_]? = some (.cells #[.int .i64 t419, .int .i64 t421] 40 (0, 0)) := (blk_put (blk_put c 0 (.int .i64 t419) (cs' := #[.int .i64 t419, .int .i64 0]) rfl) 1 (.int .i64 t421) (cs' := #[.int .i64 t419, .int .i64 t421]) rfl)
                        have hne : ∀ g : Nat, g ≠ g29_ → ((w'.setCell ⟨g29_, 0, none⟩ (.int .i64 t419)).setCell ⟨g29_, 1, none⟩ (.int .i64 t421)).heap[g]? = w'.heap[g]? := fun g hg => ((Below.heap_setCell _ _ _ g hg).trans ((Below.heap_setCell _ _ _ g hg)))
                        have hbe : Below wr.heap.size wr ((w'.setCell ⟨g29_, 0, none⟩ (.int .i64 t419)).setCell ⟨g29_, 1, none⟩ (.int .i64 t421)) := by (repeat refine below_set ?_ b29); exact hJ.low
                        refine Uni.store_step (by rfl) (w1 := ((w'.setCell ⟨g29_, 0, none⟩ (.int .i64 t419)).setCell ⟨g29_, 1, none⟩ (.int .i64 t421))) ?hr (hK undef _ (hJ.store (by rfl) (j := 29) (by rfl) (Uni.oneB_spec (by rfl)) (hw 29 (by decide)) E29 hwf hne hbe))
                        case hr => first | (go_simp; done) | (go_simp; rfl)
                      · intro l v w' hl hJ a' ha
                        obtain ⟨gb422, E28, b28, c28⟩ := hJ.box (j := 28) (by rfl) (hl 28 (by decide))
                        have e28 : v 28 = .pointer (some ⟨gb422, 0, none⟩) := E28
                        rw [hl 30 (by decide)] at c28
                        replace c28 : w'.heap[gb422]? = some (.cells #[.int .i64 t415, .int .i64 t417] 40 (0, 0)) := c28
                        obtain ⟨gb423, E29, b29, c29⟩ := hJ.box (j := 29) (by rfl) (hl 29 (by decide))
                        have e29 : v 29 = .pointer (some ⟨gb423, 0, none⟩) := E29
                        rw [hl 31 (by decide)] at c29
                        replace c29 : w'.heap[gb423]? = some (.cells #[.int .i64 t419, .int .i64 t421] 40 (0, 0)) := c29
                        simp only [Uni.fill, Uni.fillT, List.setIfInBounds_toArray, List.set_cons_zero, List.set_cons_succ, Nat.zero_add, Nat.reduceAdd, e28, e29] at ha
                        subst ha
                        clear e28 e29 E28 E29
                        have hl_ := hJ.low
                        clear hJ
                        have n0_ := Aside0.mk (Kd.R_below HO_14.out hl_); have n1_ := Aside0.mk (Kd.R_below HO_15.out hl_); have n2_ := Aside0.mk (blk_below BK385.out hl_); have n3_ := Aside0.mk (blk_below BK390.out hl_); have n4_ := Aside0.mk (below_step HB.out hl_); clear HO_14 HO_15 BK385 BK390 HB; have HO_14 := n0_; have HO_15 := n1_; have BK385 := n2_; have BK390 := n3_; have HB := n4_; clear n0_ n1_ n2_ n3_ n4_
                        clear hl_
                        have hcz90_0 : w'.cell? ⟨gb390, 0, none⟩ = some (.int .i64 (wrap64 (4 * (Int.tmod (wrap64 ((Int.tmod a2 64) + 64)) 64)))) := (blk_cell BK390.out 0).trans rfl
                        have hfz90_0 := blk_frozen BK390.out 0
                        have hcz90_1 : w'.cell? ⟨gb390, 1, none⟩ = some (.int .i64 (wrap64 (4 * (Int.tmod (wrap64 ((Int.tmod a3 64) + 64)) 64)))) := (blk_cell BK390.out 1).trans rfl
                        have hfz90_1 := blk_frozen BK390.out 1
                        have hcz90_2 : w'.cell? ⟨gb390, 2, none⟩ = some (.int .i64 (wrap64 ((wrap64 (4 * (Int.tmod (wrap64 ((Int.tmod a2 64) + 64)) 64))) + 4))) := (blk_cell BK390.out 2).trans rfl
                        have hfz90_2 := blk_frozen BK390.out 2
                        have hcz90_3 : w'.cell? ⟨gb390, 3, none⟩ = some (.int .i64 (wrap64 ((wrap64 (4 * (Int.tmod (wrap64 ((Int.tmod a3 64) + 64)) 64))) + 4))) := (blk_cell BK390.out 3).trans rfl
                        have hfz90_3 := blk_frozen BK390.out 3
                        have hcz28_0 : w'.cell? ⟨gb422, 0, none⟩ = some (.int .i64 t415) := (blk_cell c28 0).trans rfl
                        have hfz28_0 := blk_frozen c28 0
                        have hcz28_1 : w'.cell? ⟨gb422, 1, none⟩ = some (.int .i64 t417) := (blk_cell c28 1).trans rfl
                        have hfz28_1 := blk_frozen c28 1
                        have hcz29_0 : w'.cell? ⟨gb423, 0, none⟩ = some (.int .i64 t419) := (blk_cell c29 0).trans rfl
                        have hfz29_0 := blk_frozen c29 0
                        have hcz29_1 : w'.cell? ⟨gb423, 1, none⟩ = some (.int .i64 t421) := (blk_cell c29 1).trans rfl
                        have hfz29_1 := blk_frozen c29 1
                        by_cases c74 : t424 = true
                        · subst c74
                          have H1 : (terrlaw5_RasterLines.l2 k5 l1 (Int.tmod (wrap64 ((Int.tmod a2 64) + 64)) 64) (Int.tmod (wrap64 ((Int.tmod a3 64) + 64)) 64) t407 t410 (wrap64 (x16_5 + 1)) 0 (rd_L2 l0 x110_4) (wrap64 (x20_5 + 1)) l0 (l0.length : Int) x110_4 (wrap64 (4 * (Int.tmod (wrap64 ((Int.tmod a2 64) + 64)) 64))) (wrap64 (4 * (Int.tmod (wrap64 ((Int.tmod a3 64) + 64)) 64))) (wrap64 ((wrap64 (4 * (Int.tmod (wrap64 ((Int.tmod a2 64) + 64)) 64))) + 4)) (wrap64 ((wrap64 (4 * (Int.tmod (wrap64 ((Int.tmod a3 64) + 64)) 64))) + 4))) = some r := by rw [if_pos rfl] at H; exact H
                          clear H
                          have H' := Aside0.mk H1
                          clear H1
                          go_wp2_with (first | ((with_reducible refine gate_callee (f := 52) rfl ?_); refine goesL_ (some 151) rfl rfl Try.func52 (by kernel_rfl) rfl #[.agg #[.int .i64 (wrap64 (4 * (Int.tmod (wrap64 ((Int.tmod a2 64) + 64)) 64))), .int .i64 (wrap64 (4 * (Int.tmod (wrap64 ((Int.tmod a3 64) + 64)) 64))), .int .i64 (wrap64 ((wrap64 (4 * (Int.tmod (wrap64 ((Int.tmod a2 64) + 64)) 64))) + 4)), .int .i64 (wrap64 ((wrap64 (4 * (Int.tmod (wrap64 ((Int.tmod a3 64) + 64)) 64))) + 4))], .agg #[.int .i64 t415, .int .i64 t417], .agg #[.int .i64 t419, .int .i64 t421]] rfl (by (try simp only [List.map_toArray, List.map_cons, List.map_nil]); first | done | rfl) ?_; (with_reducible refine (terrref5_Hits.calls k5 (wrap64 (4 * (Int.tmod (wrap64 ((Int.tmod a2 64) + 64)) 64))) (wrap64 (4 * (Int.tmod (wrap64 ((Int.tmod a3 64) + 64)) 64))) (wrap64 ((wrap64 (4 * (Int.tmod (wrap64 ((Int.tmod a2 64) + 64)) 64))) + 4)) (wrap64 ((wrap64 (4 * (Int.tmod (wrap64 ((Int.tmod a3 64) + 64)) 64))) + 4)) t415 t417 t419 t421 true _ A73.out).mono ?_); rintro e w96 ⟨rfl, hb⟩; refine ⟨_, rfl, ?_⟩; replace HO_14 := Aside0.mk (Kd.R_below (by (with_reducible repeat (first | apply Kd.R_alloc | apply Kd.R_drewN | apply Kd.R_drew)); exact HO_14.out) hb); replace HO_15 := Aside0.mk (Kd.R_below (by (with_reducible repeat (first | apply Kd.R_alloc | apply Kd.R_drewN | apply Kd.R_drew)); exact HO_15.out) hb); replace BK385 := Aside0.mk (blk_below (g := gb385) (o := .cells #[.int .i64 (wrap64 (4 * t383)), .int .i64 (wrap64 (4 * t384))] 40 (0, 0)) (by (with_reducible repeat (first | refine blk_drewN ?_ _ | refine blk_drew ?_ | refine blk_alloc ?_ _)); exact BK385.out) hb); replace BK390 := Aside0.mk (blk_below (g := gb390) (o := .cells #[.int .i64 (wrap64 (4 * (Int.tmod (wrap64 ((Int.tmod a2 64) + 64)) 64))), .int .i64 (wrap64 (4 * (Int.tmod (wrap64 ((Int.tmod a3 64) + 64)) 64))), .int .i64 (wrap64 ((wrap64 (4 * (Int.tmod (wrap64 ((Int.tmod a2 64) + 64)) 64))) + 4)), .int .i64 (wrap64 ((wrap64 (4 * (Int.tmod (wrap64 ((Int.tmod a3 64) + 64)) 64))) + 4))] 42 (0, 0)) (by (with_reducible repeat (first | refine blk_drewN ?_ _ | refine blk_drew ?_ | refine blk_alloc ?_ _)); exact BK390.out) hb); replace HB := Aside0.mk (below_step (by repeat (first | (with_reducible first | exact HB.out | apply below_alloc | apply pw_below_drewN | apply below_drew1) | exact HB.out)) hb)))
                          go_roundg k5
                          case measure => have := HK1.out; have := HJ39.out; have := HJ52.out; have := HK4.out; have := HK5.out; omega
                          case rel => exact ⟨(wrap64 (x16_5 + 1)), (wrap64 (x20_5 + 1)), (by first | rfl | (simp; done) | (simp [*]; done)), (by first | rfl | (simp; done) | (simp [*]; done)), H', ⟨by have := HK1.out; have := HJ39.out; have := HJ52.out; have := HK4.out; have := HK5.out; omega⟩, ⟨by (with_reducible repeat (first | apply Kd.R_alloc | apply Kd.R_drewN | apply Kd.R_drew)); exact HO_14.out⟩, ⟨by (with_reducible repeat (first | apply Kd.R_alloc | apply Kd.R_drewN | apply Kd.R_drew)); exact HO_15.out⟩, ⟨by (with_reducible repeat (first | refine blk_drewN ?_ _ | refine blk_drew ?_ | refine blk_alloc ?_ _)); exact BK385.out⟩, ⟨by (with_reducible repeat (first | refine blk_drewN ?_ _ | refine blk_drew ?_ | refine blk_alloc ?_ _)); exact BK390.out⟩, ⟨by repeat (first | (with_reducible first | exact HB.out | apply below_alloc | apply pw_below_drewN | apply below_drew1 | refine below_set ?_ GE385.out | refine below_set ?_ GE390.out) | exact HB.out)⟩⟩
                        replace c74 := Bool.eq_false_iff.mpr c74
                        subst c74
                        have H1 : (terrlaw5_RasterLines.l2 k5 l1 (Int.tmod (wrap64 ((Int.tmod a2 64) + 64)) 64) (Int.tmod (wrap64 ((Int.tmod a3 64) + 64)) 64) t407 t410 x16_5 0 (rd_L2 l0 x110_4) (wrap64 (x20_5 + 1)) l0 (l0.length : Int) x110_4 (wrap64 (4 * (Int.tmod (wrap64 ((Int.tmod a2 64) + 64)) 64))) (wrap64 (4 * (Int.tmod (wrap64 ((Int.tmod a3 64) + 64)) 64))) (wrap64 ((wrap64 (4 * (Int.tmod (wrap64 ((Int.tmod a2 64) + 64)) 64))) + 4)) (wrap64 ((wrap64 (4 * (Int.tmod (wrap64 ((Int.tmod a3 64) + 64)) 64))) + 4))) = some r := by rw [if_neg (show ¬ (false = true) by decide)] at H; exact H
                        clear H
                        have H' := Aside0.mk H1
                        clear H1
                        go_wp2_with (first | ((with_reducible refine gate_callee (f := 52) rfl ?_); refine goesL_ (some 151) rfl rfl Try.func52 (by kernel_rfl) rfl #[.agg #[.int .i64 (wrap64 (4 * (Int.tmod (wrap64 ((Int.tmod a2 64) + 64)) 64))), .int .i64 (wrap64 (4 * (Int.tmod (wrap64 ((Int.tmod a3 64) + 64)) 64))), .int .i64 (wrap64 ((wrap64 (4 * (Int.tmod (wrap64 ((Int.tmod a2 64) + 64)) 64))) + 4)), .int .i64 (wrap64 ((wrap64 (4 * (Int.tmod (wrap64 ((Int.tmod a3 64) + 64)) 64))) + 4))], .agg #[.int .i64 t415, .int .i64 t417], .agg #[.int .i64 t419, .int .i64 t421]] rfl (by (try simp only [List.map_toArray, List.map_cons, List.map_nil]); first | done | rfl) ?_; (with_reducible refine (terrref5_Hits.calls k5 (wrap64 (4 * (Int.tmod (wrap64 ((Int.tmod a2 64) + 64)) 64))) (wrap64 (4 * (Int.tmod (wrap64 ((Int.tmod a3 64) + 64)) 64))) (wrap64 ((wrap64 (4 * (Int.tmod (wrap64 ((Int.tmod a2 64) + 64)) 64))) + 4)) (wrap64 ((wrap64 (4 * (Int.tmod (wrap64 ((Int.tmod a3 64) + 64)) 64))) + 4)) t415 t417 t419 t421 false _ A73.out).mono ?_); rintro e w96 ⟨rfl, hb⟩; refine ⟨_, rfl, ?_⟩; replace HO_14 := Aside0.mk (Kd.R_below (by (with_reducible repeat (first | apply Kd.R_alloc | apply Kd.R_drewN | apply Kd.R_drew)); exact HO_14.out) hb); replace HO_15 := Aside0.mk (Kd.R_below (by (with_reducible repeat (first | apply Kd.R_alloc | apply Kd.R_drewN | apply Kd.R_drew)); exact HO_15.out) hb); replace BK385 := Aside0.mk (blk_below (g := gb385) (o := .cells #[.int .i64 (wrap64 (4 * t383)), .int .i64 (wrap64 (4 * t384))] 40 (0, 0)) (by (with_reducible repeat (first | refine blk_drewN ?_ _ | refine blk_drew ?_ | refine blk_alloc ?_ _)); exact BK385.out) hb); replace BK390 := Aside0.mk (blk_below (g := gb390) (o := .cells #[.int .i64 (wrap64 (4 * (Int.tmod (wrap64 ((Int.tmod a2 64) + 64)) 64))), .int .i64 (wrap64 (4 * (Int.tmod (wrap64 ((Int.tmod a3 64) + 64)) 64))), .int .i64 (wrap64 ((wrap64 (4 * (Int.tmod (wrap64 ((Int.tmod a2 64) + 64)) 64))) + 4)), .int .i64 (wrap64 ((wrap64 (4 * (Int.tmod (wrap64 ((Int.tmod a3 64) + 64)) 64))) + 4))] 42 (0, 0)) (by (with_reducible repeat (first | refine blk_drewN ?_ _ | refine blk_drew ?_ | refine blk_alloc ?_ _)); exact BK390.out) hb); replace HB := Aside0.mk (below_step (by repeat (first | (with_reducible first | exact HB.out | apply below_alloc | apply pw_below_drewN | apply below_drew1) | exact HB.out)) hb)))
                        go_roundg k5
                        case measure => have := HK1.out; have := HJ39.out; have := HJ52.out; have := HK4.out; have := HK5.out; omega
                        case rel => exact ⟨(x16_5), (wrap64 (x20_5 + 1)), (by first | rfl | (simp; done) | (simp [*]; done)), (by first | rfl | (simp; done) | (simp [*]; done)), H', ⟨by have := HK1.out; have := HJ39.out; have := HJ52.out; have := HK4.out; have := HK5.out; omega⟩, ⟨by (with_reducible repeat (first | apply Kd.R_alloc | apply Kd.R_drewN | apply Kd.R_drew)); exact HO_14.out⟩, ⟨by (with_reducible repeat (first | apply Kd.R_alloc | apply Kd.R_drewN | apply Kd.R_drew)); exact HO_15.out⟩, ⟨by (with_reducible repeat (first | refine blk_drewN ?_ _ | refine blk_drew ?_ | refine blk_alloc ?_ _)); exact BK385.out⟩, ⟨by (with_reducible repeat (first | refine blk_drewN ?_ _ | refine blk_drew ?_ | refine blk_alloc ?_ _)); exact BK390.out⟩, ⟨by repeat (first | (with_reducible first | exact HB.out | apply below_alloc | apply pw_below_drewN | apply below_drew1 | refine below_set ?_ GE385.out | refine below_set ?_ GE390.out) | exact HB.out)⟩⟩
end Go.Proofs.Ytdmhnjpblpfbfaa.Q

