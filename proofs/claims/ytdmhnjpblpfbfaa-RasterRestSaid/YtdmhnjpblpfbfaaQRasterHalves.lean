/- What the Go function terrkeep5_RasterHalves comes to, and its contract. Condition: its printed twin gives an answer, which is true. -/
import Derived.Test.YtdmhnjpblpfbfaaQf18
import Derived.Test.YtdmhnjpblpfbfaaQf37
import Derived.Test.YtdmhnjpblpfbfaaQf43
import Derived.Test.YtdmhnjpblpfbfaaQf41
namespace Go.Proofs.Ytdmhnjpblpfbfaa.Q
open Go.RowKit Go.Proofs.YtdmhnjpblpfbfaaW.PrintWords Go.Proofs.YtdmhnjpblpfbfaaW.PrintLast Go.Proofs.YtdmhnjpblpfbfaaW.PrintMore
attribute [local go_sem] max2_int min2_int max_two min_two max_three min_three max_four min_four
set_option linter.unusedVariables false
set_option linter.unusedSimpArgs false
/-! ### terrkeep5_RasterHalves: function 11 -/
mutual
def terrkeep5_RasterHalves.j0 : Nat → List Int → List Int → List Int → Bool → Int → Int → Int → Int → Option (Bool)
  | 0, _, _, _, _, _, _, _, _ => none
  | k + 1, x13, x14, x15, x78, x271000, x271001, x274000, x274001 => if x78 = true then (some false) else (terrkeep5_RasterHalves.l0 k x13 x14 x15 (x15.length : Int) 0 x271000 x271001 x274000 x274001)
def terrkeep5_RasterHalves.l0 : Nat → List Int → List Int → List Int → Int → Int → Int → Int → Int → Int → Option (Bool)
  | 0, _, _, _, _, _, _, _, _, _ => none
  | k + 1, x13, x14, x15, x80, x81, x271000, x271001, x274000, x274001 => if x81 < x80 then (if 0 ≤ x81 then (if x81 < (x13.length : Int) then (if x81 < (x14.length : Int) then (if x81 < (x15.length : Int) then (if (wrap64 ((rd x13 x81) + (rd x14 x81))) = (rd x15 x81) then (terrkeep5_RasterHalves.l0 k x13 x14 x15 x80 (wrap64 (x81 + 1)) x271000 x271001 x274000 x274001) else (some false)) else (none)) else (none)) else (none)) else (none)) else ((raster_Total.f k x15).bind fun t306 => (some (t306 == (wrap64 ((wrap64 (16 * (wrap64 ((mn x274000 256) - x271000)))) * (wrap64 ((mn x274001 256) - x271001)))))))
end
def terrkeep5_RasterHalves.f (k : Nat) (a0 : Int) (a1 : Int) (a2 : Int) (a3 : Int) : Option (Bool) := (terrkeep5_covered.f k).bind fun t267 => (if t267 = true then ((terrmake_Below.f a0 200).bind fun t268 => ((terrmake_Below.f a1 200).bind fun t269 => ((terrmake_Below.f a2 100).bind fun t271 => ((terrmake_Below.f a3 100).bind fun t272 => ((raster_Cover.f k (([(([(⟨t268, t269⟩ : S40), (⟨wrap64 ((wrap64 (t268 + 1)) + t271), t269⟩ : S40), (⟨wrap64 ((wrap64 (t268 + 1)) + t271), wrap64 ((wrap64 (t269 + 1)) + t272)⟩ : S40)] : List (S40)))] : List (List (S40))))).bind fun t282 => ((raster_Cover.f k (([(([(⟨t268, t269⟩ : S40), (⟨wrap64 ((wrap64 (t268 + 1)) + t271), wrap64 ((wrap64 (t269 + 1)) + t272)⟩ : S40), (⟨t268, wrap64 ((wrap64 (t269 + 1)) + t272)⟩ : S40)] : List (S40)))] : List (List (S40))))).bind fun t291 => ((raster_Cover.f k (([(([(⟨t268, t269⟩ : S40), (⟨wrap64 ((wrap64 (t268 + 1)) + t271), t269⟩ : S40), (⟨wrap64 ((wrap64 (t268 + 1)) + t271), wrap64 ((wrap64 (t269 + 1)) + t272)⟩ : S40), (⟨t268, wrap64 ((wrap64 (t269 + 1)) + t272)⟩ : S40)] : List (S40)))] : List (List (S40))))).bind fun t300 => (if (t282.length : Int) = 4096 then (if (t291.length : Int) = 4096 then (terrkeep5_RasterHalves.j0 k t282 t291 t300 ((t300.length : Int) != 4096) t268 t269 (wrap64 ((wrap64 (t268 + 1)) + t271)) (wrap64 ((wrap64 (t269 + 1)) + t272))) else (terrkeep5_RasterHalves.j0 k t282 t291 t300 true t268 t269 (wrap64 ((wrap64 (t268 + 1)) + t271)) (wrap64 ((wrap64 (t269 + 1)) + t272)))) else (terrkeep5_RasterHalves.j0 k t282 t291 t300 true t268 t269 (wrap64 ((wrap64 (t268 + 1)) + t271)) (wrap64 ((wrap64 (t269 + 1)) + t272))))))))))) else (some false))
theorem terrkeep5_RasterHalves.mono_l : ∀ k, (∀ y0 y1 y2 y3 y4 y5 y6 y7, LeO (terrkeep5_RasterHalves.j0 k y0 y1 y2 y3 y4 y5 y6 y7) (terrkeep5_RasterHalves.j0 (k + 1) y0 y1 y2 y3 y4 y5 y6 y7)) ∧ (∀ y0 y1 y2 y3 y4 y5 y6 y7 y8, LeO (terrkeep5_RasterHalves.l0 k y0 y1 y2 y3 y4 y5 y6 y7 y8) (terrkeep5_RasterHalves.l0 (k + 1) y0 y1 y2 y3 y4 y5 y6 y7 y8))
  | 0 => ⟨fun _ _ _ _ _ _ _ _ r h => by simp [terrkeep5_RasterHalves.j0] at h, fun _ _ _ _ _ _ _ _ _ r h => by simp [terrkeep5_RasterHalves.l0] at h⟩
  | k + 1 => by
    obtain ⟨ih0, ih1⟩ := terrkeep5_RasterHalves.mono_l k
    refine ⟨?_, ?_⟩
    · intro y0 y1 y2 y3 y4 y5 y6 y7
      unfold terrkeep5_RasterHalves.j0
      repeat' first
      | (with_reducible exact ih0 _ _ _ _ _ _ _ _)
      | (with_reducible exact ih1 _ _ _ _ _ _ _ _ _)
      | (with_reducible exact raster_Cover.mono _ _)
      | (with_reducible exact raster_Total.mono _ _)
      | (with_reducible exact terrkeep5_covered.mono _)
      | (with_reducible exact LeO.refl _)
      | (with_reducible exact LeO.none _)
      | (with_reducible refine LeO.ite ?_ ?_)
      | (with_reducible refine LeO.bind ?_ (fun _ => ?_))
      | exact ih0 _ _ _ _ _ _ _ _
      | exact ih1 _ _ _ _ _ _ _ _ _
      | exact raster_Cover.mono _ _
      | exact raster_Total.mono _ _
      | exact terrkeep5_covered.mono _
      | exact LeO.none _
      | refine LeO.ite ?_ ?_
      | refine LeO.bind ?_ (fun _ => ?_)
    · intro y0 y1 y2 y3 y4 y5 y6 y7 y8
      unfold terrkeep5_RasterHalves.l0
      repeat' first
      | (with_reducible exact ih0 _ _ _ _ _ _ _ _)
      | (with_reducible exact ih1 _ _ _ _ _ _ _ _ _)
      | (with_reducible exact raster_Cover.mono _ _)
      | (with_reducible exact raster_Total.mono _ _)
      | (with_reducible exact terrkeep5_covered.mono _)
      | (with_reducible exact LeO.refl _)
      | (with_reducible exact LeO.none _)
      | (with_reducible refine LeO.ite ?_ ?_)
      | (with_reducible refine LeO.bind ?_ (fun _ => ?_))
      | exact ih0 _ _ _ _ _ _ _ _
      | exact ih1 _ _ _ _ _ _ _ _ _
      | exact raster_Cover.mono _ _
      | exact raster_Total.mono _ _
      | exact terrkeep5_covered.mono _
      | exact LeO.none _
      | refine LeO.ite ?_ ?_
      | refine LeO.bind ?_ (fun _ => ?_)
theorem terrkeep5_RasterHalves.mono : ∀ a0 a1 a2 a3 k, LeO (terrkeep5_RasterHalves.f k a0 a1 a2 a3) (terrkeep5_RasterHalves.f (k + 1) a0 a1 a2 a3) := by
  intro a0 a1 a2 a3 k
  obtain ⟨ih0, ih1⟩ := terrkeep5_RasterHalves.mono_l k
  unfold terrkeep5_RasterHalves.f
  repeat' first
      | (with_reducible exact ih0 _ _ _ _ _ _ _ _)
      | (with_reducible exact ih1 _ _ _ _ _ _ _ _ _)
      | (with_reducible exact raster_Cover.mono _ _)
      | (with_reducible exact raster_Total.mono _ _)
      | (with_reducible exact terrkeep5_covered.mono _)
      | (with_reducible exact LeO.refl _)
      | (with_reducible exact LeO.none _)
      | (with_reducible refine LeO.ite ?_ ?_)
      | (with_reducible refine LeO.bind ?_ (fun _ => ?_))
      | exact ih0 _ _ _ _ _ _ _ _
      | exact ih1 _ _ _ _ _ _ _ _ _
      | exact raster_Cover.mono _ _
      | exact raster_Total.mono _ _
      | exact terrkeep5_covered.mono _
      | exact LeO.none _
      | refine LeO.ite ?_ ?_
      | refine LeO.bind ?_ (fun _ => ?_)
def terrkeep5_RasterHalves.T4 : Bool × List (List Nat × List Nat) := (true, [([], []), ([0], [0]), ([1], [1]), ([], []), ([3], [3]), ([2, 4], [2, 4]), ([], []), ([6], [6]), ([7], [7]), ([], []), ([9, 4], [9]), ([8, 10], [8, 10]), ([5, 11], [5, 11]), ([], []), ([13, 12, 10, 0, 1, 2, 3, 4, 5, 6, 7, 8, 9, 10, 11, 12, 13], [12, 13])])
def terrkeep5_RasterHalves.B4 : List Nat := [0, 1, 3, 0, 8, 31, 0, 64, 192, 0, 536, 2008, 4095, 0, 16383]
theorem terrkeep5_RasterHalves.tab4 : rtab .any (opsOf Try.f11 4) = terrkeep5_RasterHalves.T4 := by kernel_rfl
theorem terrkeep5_RasterHalves.bits4 : waitsOk terrkeep5_RasterHalves.T4.2 terrkeep5_RasterHalves.B4 = true := by kernel_rfl
def terrkeep5_RasterHalves.T5 : Bool × List (List Nat × List Nat) := (true, [([], []), ([0], [0]), ([], []), ([2], [2]), ([1, 3], [1, 3]), ([], []), ([5], [5]), ([], []), ([7], [7]), ([6, 8], [6, 8]), ([], []), ([], []), ([10, 4, 0, 1, 2, 3, 4, 10, 11], [4, 10]), ([11, 9, 12, 0, 1, 2, 3, 4, 5, 6, 7, 8, 9, 10, 11, 12], [9, 11])])
def terrkeep5_RasterHalves.B5 : List Nat := [0, 1, 0, 4, 15, 0, 32, 0, 128, 480, 0, 0, 3103, 8191]
theorem terrkeep5_RasterHalves.tab5 : rtab .any (opsOf Try.f11 5) = terrkeep5_RasterHalves.T5 := by kernel_rfl
theorem terrkeep5_RasterHalves.bits5 : waitsOk terrkeep5_RasterHalves.T5.2 terrkeep5_RasterHalves.B5 = true := by kernel_rfl
def terrkeep5_RasterHalves.T6 : Bool × List (List Nat × List Nat) := (true, [([], []), ([], []), ([], []), ([0, 1, 2], [0, 1, 2]), ([3], [3]), ([4], [4]), ([], []), ([], []), ([], []), ([6, 7, 8], [6, 7, 8]), ([9], [9]), ([10, 5], [10]), ([], []), ([], []), ([], []), ([], []), ([12, 13, 14, 15], [12, 13, 14, 15]), ([16], [16]), ([17, 11], [17]), ([5, 18, 0, 1, 2, 3, 4, 5], [5]), ([11, 19, 0, 1, 2, 3, 4, 5, 6, 7, 8, 9, 10, 11, 19], [11]), ([18, 20, 0, 1, 2, 3, 4, 5, 6, 7, 8, 9, 10, 11, 12, 13, 14, 15, 16, 17, 18, 19, 20], [18])])
def terrkeep5_RasterHalves.B6 : List Nat := [0, 0, 0, 7, 15, 31, 0, 0, 0, 448, 960, 2047, 0, 0, 0, 0, 61440, 126976, 262143, 524287, 1048575, 2097151]
theorem terrkeep5_RasterHalves.tab6 : rtab .any (opsOf Try.f11 6) = terrkeep5_RasterHalves.T6 := by kernel_rfl
theorem terrkeep5_RasterHalves.bits6 : waitsOk terrkeep5_RasterHalves.T6.2 terrkeep5_RasterHalves.B6 = true := by kernel_rfl
def terrkeep5_RasterHalves.T12 : Bool × List (List Nat × List Nat) := (true, [([], []), ([], []), ([0, 1], [0, 1]), ([2], [2]), ([], []), ([], []), ([4, 5], [4, 5]), ([6], [6]), ([3, 7], [3, 7]), ([], []), ([], []), ([9, 10], [9, 10]), ([11], [11]), ([8, 12], [8, 12])])
def terrkeep5_RasterHalves.B12 : List Nat := [0, 0, 3, 7, 0, 0, 48, 112, 255, 0, 0, 1536, 3584, 8191]
theorem terrkeep5_RasterHalves.tab12 : rtab .any (opsOf Try.f11 12) = terrkeep5_RasterHalves.T12 := by kernel_rfl
theorem terrkeep5_RasterHalves.bits12 : waitsOk terrkeep5_RasterHalves.T12.2 terrkeep5_RasterHalves.B12 = true := by kernel_rfl
def terrkeep5_RasterHalves.T15 : Bool × List (List Nat × List Nat) := (true, [([], []), ([0], [0]), ([], []), ([2], [2]), ([3], [3]), ([], []), ([5], [5]), ([4, 6], [4, 6]), ([7], [7]), ([], []), ([9], [9]), ([10], [10]), ([], []), ([12], [12]), ([11, 13], [11, 13]), ([8, 14], [8, 14]), ([1, 15], [1, 15]), ([16, 1, 0, 1, 2, 3, 4, 5, 6, 7, 8, 9, 10, 11, 12, 13, 14, 15, 16], [16])])
def terrkeep5_RasterHalves.B15 : List Nat := [0, 1, 0, 4, 12, 0, 32, 124, 252, 0, 512, 1536, 0, 4096, 15872, 32764, 65535, 131071]
theorem terrkeep5_RasterHalves.tab15 : rtab .any (opsOf Try.f11 15) = terrkeep5_RasterHalves.T15 := by kernel_rfl
theorem terrkeep5_RasterHalves.bits15 : waitsOk terrkeep5_RasterHalves.T15.2 terrkeep5_RasterHalves.B15 = true := by kernel_rfl
set_option maxHeartbeats 8000000 in
set_option maxRecDepth 100000 in
theorem terrkeep5_RasterHalves.calls (k : Nat) (a0 : Int) (a1 : Int) (a2 : Int) (a3 : Int) (r : Bool) (w : World) (h : terrkeep5_RasterHalves.f k a0 a1 a2 a3 = some r) (hr : r = true) :
    Calls Try.prog 11 #[.int .i64 a0, .int .i64 a1, .int .i64 a2, .int .i64 a3] w fun e w' => e = .returned (.bool r) ∧ Below w.heap.size w w' := by
  have hu40 := Try.underlying40
  have HB := Aside0.mk (Below.refl w.heap.size w)
  have H : ((terrkeep5_covered.f k).bind fun t267 => (if t267 = true then ((terrmake_Below.f a0 200).bind fun t268 => ((terrmake_Below.f a1 200).bind fun t269 => ((terrmake_Below.f a2 100).bind fun t271 => ((terrmake_Below.f a3 100).bind fun t272 => ((raster_Cover.f k (([(([(⟨t268, t269⟩ : S40), (⟨wrap64 ((wrap64 (t268 + 1)) + t271), t269⟩ : S40), (⟨wrap64 ((wrap64 (t268 + 1)) + t271), wrap64 ((wrap64 (t269 + 1)) + t272)⟩ : S40)] : List (S40)))] : List (List (S40))))).bind fun t282 => ((raster_Cover.f k (([(([(⟨t268, t269⟩ : S40), (⟨wrap64 ((wrap64 (t268 + 1)) + t271), wrap64 ((wrap64 (t269 + 1)) + t272)⟩ : S40), (⟨t268, wrap64 ((wrap64 (t269 + 1)) + t272)⟩ : S40)] : List (S40)))] : List (List (S40))))).bind fun t291 => ((raster_Cover.f k (([(([(⟨t268, t269⟩ : S40), (⟨wrap64 ((wrap64 (t268 + 1)) + t271), t269⟩ : S40), (⟨wrap64 ((wrap64 (t268 + 1)) + t271), wrap64 ((wrap64 (t269 + 1)) + t272)⟩ : S40), (⟨t268, wrap64 ((wrap64 (t269 + 1)) + t272)⟩ : S40)] : List (S40)))] : List (List (S40))))).bind fun t300 => (if (t282.length : Int) = 4096 then (if (t291.length : Int) = 4096 then (terrkeep5_RasterHalves.j0 k t282 t291 t300 ((t300.length : Int) != 4096) t268 t269 (wrap64 ((wrap64 (t268 + 1)) + t271)) (wrap64 ((wrap64 (t269 + 1)) + t272))) else (terrkeep5_RasterHalves.j0 k t282 t291 t300 true t268 t269 (wrap64 ((wrap64 (t268 + 1)) + t271)) (wrap64 ((wrap64 (t269 + 1)) + t272)))) else (terrkeep5_RasterHalves.j0 k t282 t291 t300 true t268 t269 (wrap64 ((wrap64 (t268 + 1)) + t271)) (wrap64 ((wrap64 (t269 + 1)) + t272))))))))))) else (some false))) = some r := h
  clear h
  replace H := Option.bind_eq_some_iff.mp H
  obtain ⟨t267, A50, H⟩ := H
  replace H : (if t267 = true then ((terrmake_Below.f a0 200).bind fun t268 => ((terrmake_Below.f a1 200).bind fun t269 => ((terrmake_Below.f a2 100).bind fun t271 => ((terrmake_Below.f a3 100).bind fun t272 => ((raster_Cover.f k (([(([(⟨t268, t269⟩ : S40), (⟨wrap64 ((wrap64 (t268 + 1)) + t271), t269⟩ : S40), (⟨wrap64 ((wrap64 (t268 + 1)) + t271), wrap64 ((wrap64 (t269 + 1)) + t272)⟩ : S40)] : List (S40)))] : List (List (S40))))).bind fun t282 => ((raster_Cover.f k (([(([(⟨t268, t269⟩ : S40), (⟨wrap64 ((wrap64 (t268 + 1)) + t271), wrap64 ((wrap64 (t269 + 1)) + t272)⟩ : S40), (⟨t268, wrap64 ((wrap64 (t269 + 1)) + t272)⟩ : S40)] : List (S40)))] : List (List (S40))))).bind fun t291 => ((raster_Cover.f k (([(([(⟨t268, t269⟩ : S40), (⟨wrap64 ((wrap64 (t268 + 1)) + t271), t269⟩ : S40), (⟨wrap64 ((wrap64 (t268 + 1)) + t271), wrap64 ((wrap64 (t269 + 1)) + t272)⟩ : S40), (⟨t268, wrap64 ((wrap64 (t269 + 1)) + t272)⟩ : S40)] : List (S40)))] : List (List (S40))))).bind fun t300 => (if (t282.length : Int) = 4096 then (if (t291.length : Int) = 4096 then (terrkeep5_RasterHalves.j0 k t282 t291 t300 ((t300.length : Int) != 4096) t268 t269 (wrap64 ((wrap64 (t268 + 1)) + t271)) (wrap64 ((wrap64 (t269 + 1)) + t272))) else (terrkeep5_RasterHalves.j0 k t282 t291 t300 true t268 t269 (wrap64 ((wrap64 (t268 + 1)) + t271)) (wrap64 ((wrap64 (t269 + 1)) + t272)))) else (terrkeep5_RasterHalves.j0 k t282 t291 t300 true t268 t269 (wrap64 ((wrap64 (t268 + 1)) + t271)) (wrap64 ((wrap64 (t269 + 1)) + t272))))))))))) else (some false)) = some r := H
  have A5 := Aside0.mk A50
  clear A50
  by_cases c6 : t267 = true
  · subst c6
    have H1 : ((terrmake_Below.f a0 200).bind fun t268 => ((terrmake_Below.f a1 200).bind fun t269 => ((terrmake_Below.f a2 100).bind fun t271 => ((terrmake_Below.f a3 100).bind fun t272 => ((raster_Cover.f k (([(([(⟨t268, t269⟩ : S40), (⟨wrap64 ((wrap64 (t268 + 1)) + t271), t269⟩ : S40), (⟨wrap64 ((wrap64 (t268 + 1)) + t271), wrap64 ((wrap64 (t269 + 1)) + t272)⟩ : S40)] : List (S40)))] : List (List (S40))))).bind fun t282 => ((raster_Cover.f k (([(([(⟨t268, t269⟩ : S40), (⟨wrap64 ((wrap64 (t268 + 1)) + t271), wrap64 ((wrap64 (t269 + 1)) + t272)⟩ : S40), (⟨t268, wrap64 ((wrap64 (t269 + 1)) + t272)⟩ : S40)] : List (S40)))] : List (List (S40))))).bind fun t291 => ((raster_Cover.f k (([(([(⟨t268, t269⟩ : S40), (⟨wrap64 ((wrap64 (t268 + 1)) + t271), t269⟩ : S40), (⟨wrap64 ((wrap64 (t268 + 1)) + t271), wrap64 ((wrap64 (t269 + 1)) + t272)⟩ : S40), (⟨t268, wrap64 ((wrap64 (t269 + 1)) + t272)⟩ : S40)] : List (S40)))] : List (List (S40))))).bind fun t300 => (if (t282.length : Int) = 4096 then (if (t291.length : Int) = 4096 then (terrkeep5_RasterHalves.j0 k t282 t291 t300 ((t300.length : Int) != 4096) t268 t269 (wrap64 ((wrap64 (t268 + 1)) + t271)) (wrap64 ((wrap64 (t269 + 1)) + t272))) else (terrkeep5_RasterHalves.j0 k t282 t291 t300 true t268 t269 (wrap64 ((wrap64 (t268 + 1)) + t271)) (wrap64 ((wrap64 (t269 + 1)) + t272)))) else (terrkeep5_RasterHalves.j0 k t282 t291 t300 true t268 t269 (wrap64 ((wrap64 (t268 + 1)) + t271)) (wrap64 ((wrap64 (t269 + 1)) + t272))))))))))) = some r := by rw [if_pos rfl] at H; exact H
    clear H
    have H := H1
    clear H1
    replace H := Option.bind_eq_some_iff.mp H
    obtain ⟨t268, A70, H⟩ := H
    replace H : ((terrmake_Below.f a1 200).bind fun t269 => ((terrmake_Below.f a2 100).bind fun t271 => ((terrmake_Below.f a3 100).bind fun t272 => ((raster_Cover.f k (([(([(⟨t268, t269⟩ : S40), (⟨wrap64 ((wrap64 (t268 + 1)) + t271), t269⟩ : S40), (⟨wrap64 ((wrap64 (t268 + 1)) + t271), wrap64 ((wrap64 (t269 + 1)) + t272)⟩ : S40)] : List (S40)))] : List (List (S40))))).bind fun t282 => ((raster_Cover.f k (([(([(⟨t268, t269⟩ : S40), (⟨wrap64 ((wrap64 (t268 + 1)) + t271), wrap64 ((wrap64 (t269 + 1)) + t272)⟩ : S40), (⟨t268, wrap64 ((wrap64 (t269 + 1)) + t272)⟩ : S40)] : List (S40)))] : List (List (S40))))).bind fun t291 => ((raster_Cover.f k (([(([(⟨t268, t269⟩ : S40), (⟨wrap64 ((wrap64 (t268 + 1)) + t271), t269⟩ : S40), (⟨wrap64 ((wrap64 (t268 + 1)) + t271), wrap64 ((wrap64 (t269 + 1)) + t272)⟩ : S40), (⟨t268, wrap64 ((wrap64 (t269 + 1)) + t272)⟩ : S40)] : List (S40)))] : List (List (S40))))).bind fun t300 => (if (t282.length : Int) = 4096 then (if (t291.length : Int) = 4096 then (terrkeep5_RasterHalves.j0 k t282 t291 t300 ((t300.length : Int) != 4096) t268 t269 (wrap64 ((wrap64 (t268 + 1)) + t271)) (wrap64 ((wrap64 (t269 + 1)) + t272))) else (terrkeep5_RasterHalves.j0 k t282 t291 t300 true t268 t269 (wrap64 ((wrap64 (t268 + 1)) + t271)) (wrap64 ((wrap64 (t269 + 1)) + t272)))) else (terrkeep5_RasterHalves.j0 k t282 t291 t300 true t268 t269 (wrap64 ((wrap64 (t268 + 1)) + t271)) (wrap64 ((wrap64 (t269 + 1)) + t272)))))))))) = some r := H
    have A7 := Aside0.mk A70
    clear A70
    replace H := Option.bind_eq_some_iff.mp H
    obtain ⟨t269, A80, H⟩ := H
    replace H : ((terrmake_Below.f a2 100).bind fun t271 => ((terrmake_Below.f a3 100).bind fun t272 => ((raster_Cover.f k (([(([(⟨t268, t269⟩ : S40), (⟨wrap64 ((wrap64 (t268 + 1)) + t271), t269⟩ : S40), (⟨wrap64 ((wrap64 (t268 + 1)) + t271), wrap64 ((wrap64 (t269 + 1)) + t272)⟩ : S40)] : List (S40)))] : List (List (S40))))).bind fun t282 => ((raster_Cover.f k (([(([(⟨t268, t269⟩ : S40), (⟨wrap64 ((wrap64 (t268 + 1)) + t271), wrap64 ((wrap64 (t269 + 1)) + t272)⟩ : S40), (⟨t268, wrap64 ((wrap64 (t269 + 1)) + t272)⟩ : S40)] : List (S40)))] : List (List (S40))))).bind fun t291 => ((raster_Cover.f k (([(([(⟨t268, t269⟩ : S40), (⟨wrap64 ((wrap64 (t268 + 1)) + t271), t269⟩ : S40), (⟨wrap64 ((wrap64 (t268 + 1)) + t271), wrap64 ((wrap64 (t269 + 1)) + t272)⟩ : S40), (⟨t268, wrap64 ((wrap64 (t269 + 1)) + t272)⟩ : S40)] : List (S40)))] : List (List (S40))))).bind fun t300 => (if (t282.length : Int) = 4096 then (if (t291.length : Int) = 4096 then (terrkeep5_RasterHalves.j0 k t282 t291 t300 ((t300.length : Int) != 4096) t268 t269 (wrap64 ((wrap64 (t268 + 1)) + t271)) (wrap64 ((wrap64 (t269 + 1)) + t272))) else (terrkeep5_RasterHalves.j0 k t282 t291 t300 true t268 t269 (wrap64 ((wrap64 (t268 + 1)) + t271)) (wrap64 ((wrap64 (t269 + 1)) + t272)))) else (terrkeep5_RasterHalves.j0 k t282 t291 t300 true t268 t269 (wrap64 ((wrap64 (t268 + 1)) + t271)) (wrap64 ((wrap64 (t269 + 1)) + t272))))))))) = some r := H
    have A8 := Aside0.mk A80
    clear A80
    replace H := Option.bind_eq_some_iff.mp H
    obtain ⟨t271, A90, H⟩ := H
    replace H : ((terrmake_Below.f a3 100).bind fun t272 => ((raster_Cover.f k (([(([(⟨t268, t269⟩ : S40), (⟨wrap64 ((wrap64 (t268 + 1)) + t271), t269⟩ : S40), (⟨wrap64 ((wrap64 (t268 + 1)) + t271), wrap64 ((wrap64 (t269 + 1)) + t272)⟩ : S40)] : List (S40)))] : List (List (S40))))).bind fun t282 => ((raster_Cover.f k (([(([(⟨t268, t269⟩ : S40), (⟨wrap64 ((wrap64 (t268 + 1)) + t271), wrap64 ((wrap64 (t269 + 1)) + t272)⟩ : S40), (⟨t268, wrap64 ((wrap64 (t269 + 1)) + t272)⟩ : S40)] : List (S40)))] : List (List (S40))))).bind fun t291 => ((raster_Cover.f k (([(([(⟨t268, t269⟩ : S40), (⟨wrap64 ((wrap64 (t268 + 1)) + t271), t269⟩ : S40), (⟨wrap64 ((wrap64 (t268 + 1)) + t271), wrap64 ((wrap64 (t269 + 1)) + t272)⟩ : S40), (⟨t268, wrap64 ((wrap64 (t269 + 1)) + t272)⟩ : S40)] : List (S40)))] : List (List (S40))))).bind fun t300 => (if (t282.length : Int) = 4096 then (if (t291.length : Int) = 4096 then (terrkeep5_RasterHalves.j0 k t282 t291 t300 ((t300.length : Int) != 4096) t268 t269 (wrap64 ((wrap64 (t268 + 1)) + t271)) (wrap64 ((wrap64 (t269 + 1)) + t272))) else (terrkeep5_RasterHalves.j0 k t282 t291 t300 true t268 t269 (wrap64 ((wrap64 (t268 + 1)) + t271)) (wrap64 ((wrap64 (t269 + 1)) + t272)))) else (terrkeep5_RasterHalves.j0 k t282 t291 t300 true t268 t269 (wrap64 ((wrap64 (t268 + 1)) + t271)) (wrap64 ((wrap64 (t269 + 1)) + t272)))))))) = some r := H
    have A9 := Aside0.mk A90
    clear A90
    replace H := Option.bind_eq_some_iff.mp H
    obtain ⟨t272, A100, H⟩ := H
    replace H : ((raster_Cover.f k (([(([(⟨t268, t269⟩ : S40), (⟨wrap64 ((wrap64 (t268 + 1)) + t271), t269⟩ : S40), (⟨wrap64 ((wrap64 (t268 + 1)) + t271), wrap64 ((wrap64 (t269 + 1)) + t272)⟩ : S40)] : List (S40)))] : List (List (S40))))).bind fun t282 => ((raster_Cover.f k (([(([(⟨t268, t269⟩ : S40), (⟨wrap64 ((wrap64 (t268 + 1)) + t271), wrap64 ((wrap64 (t269 + 1)) + t272)⟩ : S40), (⟨t268, wrap64 ((wrap64 (t269 + 1)) + t272)⟩ : S40)] : List (S40)))] : List (List (S40))))).bind fun t291 => ((raster_Cover.f k (([(([(⟨t268, t269⟩ : S40), (⟨wrap64 ((wrap64 (t268 + 1)) + t271), t269⟩ : S40), (⟨wrap64 ((wrap64 (t268 + 1)) + t271), wrap64 ((wrap64 (t269 + 1)) + t272)⟩ : S40), (⟨t268, wrap64 ((wrap64 (t269 + 1)) + t272)⟩ : S40)] : List (S40)))] : List (List (S40))))).bind fun t300 => (if (t282.length : Int) = 4096 then (if (t291.length : Int) = 4096 then (terrkeep5_RasterHalves.j0 k t282 t291 t300 ((t300.length : Int) != 4096) t268 t269 (wrap64 ((wrap64 (t268 + 1)) + t271)) (wrap64 ((wrap64 (t269 + 1)) + t272))) else (terrkeep5_RasterHalves.j0 k t282 t291 t300 true t268 t269 (wrap64 ((wrap64 (t268 + 1)) + t271)) (wrap64 ((wrap64 (t269 + 1)) + t272)))) else (terrkeep5_RasterHalves.j0 k t282 t291 t300 true t268 t269 (wrap64 ((wrap64 (t268 + 1)) + t271)) (wrap64 ((wrap64 (t269 + 1)) + t272))))))) = some r := H
    have A10 := Aside0.mk A100
    clear A100
    obtain ⟨y276, hy276⟩ : ∃ y_ : List (S40), y_ = (([(⟨t268, t269⟩ : S40), (⟨wrap64 ((wrap64 (t268 + 1)) + t271), t269⟩ : S40), (⟨wrap64 ((wrap64 (t268 + 1)) + t271), wrap64 ((wrap64 (t269 + 1)) + t272)⟩ : S40)] : List (S40))) := ⟨_, rfl⟩
    replace H : ((raster_Cover.f k (([y276] : List (List (S40))))).bind fun t282 => ((raster_Cover.f k (([(([(⟨t268, t269⟩ : S40), (⟨wrap64 ((wrap64 (t268 + 1)) + t271), wrap64 ((wrap64 (t269 + 1)) + t272)⟩ : S40), (⟨t268, wrap64 ((wrap64 (t269 + 1)) + t272)⟩ : S40)] : List (S40)))] : List (List (S40))))).bind fun t291 => ((raster_Cover.f k (([(([(⟨t268, t269⟩ : S40), (⟨wrap64 ((wrap64 (t268 + 1)) + t271), t269⟩ : S40), (⟨wrap64 ((wrap64 (t268 + 1)) + t271), wrap64 ((wrap64 (t269 + 1)) + t272)⟩ : S40), (⟨t268, wrap64 ((wrap64 (t269 + 1)) + t272)⟩ : S40)] : List (S40)))] : List (List (S40))))).bind fun t300 => (if (t282.length : Int) = 4096 then (if (t291.length : Int) = 4096 then (terrkeep5_RasterHalves.j0 k t282 t291 t300 ((t300.length : Int) != 4096) t268 t269 (wrap64 ((wrap64 (t268 + 1)) + t271)) (wrap64 ((wrap64 (t269 + 1)) + t272))) else (terrkeep5_RasterHalves.j0 k t282 t291 t300 true t268 t269 (wrap64 ((wrap64 (t268 + 1)) + t271)) (wrap64 ((wrap64 (t269 + 1)) + t272)))) else (terrkeep5_RasterHalves.j0 k t282 t291 t300 true t268 t269 (wrap64 ((wrap64 (t268 + 1)) + t271)) (wrap64 ((wrap64 (t269 + 1)) + t272))))))) = some r := by first | (rw [hy276]; with_reducible exact H) | (have H2_ := (Option.bind_some _ _).symm.trans H; rw [hy276]; with_reducible exact H2_) | (have H2_ := (Option.bind_some _ _).symm.trans H; with_reducible exact H2_) | with_reducible exact H | (rw [hy276]; exact H) | exact H
    have Ny276 := Aside0.mk hy276
    clear hy276
    obtain ⟨y279, hy279⟩ : ∃ y_ : List (List (S40)), y_ = (([y276] : List (List (S40)))) := ⟨_, rfl⟩
    replace H : ((raster_Cover.f k y279).bind fun t282 => ((raster_Cover.f k (([(([(⟨t268, t269⟩ : S40), (⟨wrap64 ((wrap64 (t268 + 1)) + t271), wrap64 ((wrap64 (t269 + 1)) + t272)⟩ : S40), (⟨t268, wrap64 ((wrap64 (t269 + 1)) + t272)⟩ : S40)] : List (S40)))] : List (List (S40))))).bind fun t291 => ((raster_Cover.f k (([(([(⟨t268, t269⟩ : S40), (⟨wrap64 ((wrap64 (t268 + 1)) + t271), t269⟩ : S40), (⟨wrap64 ((wrap64 (t268 + 1)) + t271), wrap64 ((wrap64 (t269 + 1)) + t272)⟩ : S40), (⟨t268, wrap64 ((wrap64 (t269 + 1)) + t272)⟩ : S40)] : List (S40)))] : List (List (S40))))).bind fun t300 => (if (t282.length : Int) = 4096 then (if (t291.length : Int) = 4096 then (terrkeep5_RasterHalves.j0 k t282 t291 t300 ((t300.length : Int) != 4096) t268 t269 (wrap64 ((wrap64 (t268 + 1)) + t271)) (wrap64 ((wrap64 (t269 + 1)) + t272))) else (terrkeep5_RasterHalves.j0 k t282 t291 t300 true t268 t269 (wrap64 ((wrap64 (t268 + 1)) + t271)) (wrap64 ((wrap64 (t269 + 1)) + t272)))) else (terrkeep5_RasterHalves.j0 k t282 t291 t300 true t268 t269 (wrap64 ((wrap64 (t268 + 1)) + t271)) (wrap64 ((wrap64 (t269 + 1)) + t272))))))) = some r := by first | (rw [hy279]; with_reducible exact H) | (have H2_ := (Option.bind_some _ _).symm.trans H; rw [hy279]; with_reducible exact H2_) | (have H2_ := (Option.bind_some _ _).symm.trans H; with_reducible exact H2_) | with_reducible exact H | (rw [hy279]; exact H) | exact H
    have Ny279 := Aside0.mk hy279
    clear hy279
    replace H := Option.bind_eq_some_iff.mp H
    obtain ⟨t282, A110, H⟩ := H
    replace H : ((raster_Cover.f k (([(([(⟨t268, t269⟩ : S40), (⟨wrap64 ((wrap64 (t268 + 1)) + t271), wrap64 ((wrap64 (t269 + 1)) + t272)⟩ : S40), (⟨t268, wrap64 ((wrap64 (t269 + 1)) + t272)⟩ : S40)] : List (S40)))] : List (List (S40))))).bind fun t291 => ((raster_Cover.f k (([(([(⟨t268, t269⟩ : S40), (⟨wrap64 ((wrap64 (t268 + 1)) + t271), t269⟩ : S40), (⟨wrap64 ((wrap64 (t268 + 1)) + t271), wrap64 ((wrap64 (t269 + 1)) + t272)⟩ : S40), (⟨t268, wrap64 ((wrap64 (t269 + 1)) + t272)⟩ : S40)] : List (S40)))] : List (List (S40))))).bind fun t300 => (if (t282.length : Int) = 4096 then (if (t291.length : Int) = 4096 then (terrkeep5_RasterHalves.j0 k t282 t291 t300 ((t300.length : Int) != 4096) t268 t269 (wrap64 ((wrap64 (t268 + 1)) + t271)) (wrap64 ((wrap64 (t269 + 1)) + t272))) else (terrkeep5_RasterHalves.j0 k t282 t291 t300 true t268 t269 (wrap64 ((wrap64 (t268 + 1)) + t271)) (wrap64 ((wrap64 (t269 + 1)) + t272)))) else (terrkeep5_RasterHalves.j0 k t282 t291 t300 true t268 t269 (wrap64 ((wrap64 (t268 + 1)) + t271)) (wrap64 ((wrap64 (t269 + 1)) + t272)))))) = some r := H
    have A11 := Aside0.mk A110
    clear A110
    obtain ⟨y285, hy285⟩ : ∃ y_ : List (S40), y_ = (([(⟨t268, t269⟩ : S40), (⟨wrap64 ((wrap64 (t268 + 1)) + t271), wrap64 ((wrap64 (t269 + 1)) + t272)⟩ : S40), (⟨t268, wrap64 ((wrap64 (t269 + 1)) + t272)⟩ : S40)] : List (S40))) := ⟨_, rfl⟩
    replace H : ((raster_Cover.f k (([y285] : List (List (S40))))).bind fun t291 => ((raster_Cover.f k (([(([(⟨t268, t269⟩ : S40), (⟨wrap64 ((wrap64 (t268 + 1)) + t271), t269⟩ : S40), (⟨wrap64 ((wrap64 (t268 + 1)) + t271), wrap64 ((wrap64 (t269 + 1)) + t272)⟩ : S40), (⟨t268, wrap64 ((wrap64 (t269 + 1)) + t272)⟩ : S40)] : List (S40)))] : List (List (S40))))).bind fun t300 => (if (t282.length : Int) = 4096 then (if (t291.length : Int) = 4096 then (terrkeep5_RasterHalves.j0 k t282 t291 t300 ((t300.length : Int) != 4096) t268 t269 (wrap64 ((wrap64 (t268 + 1)) + t271)) (wrap64 ((wrap64 (t269 + 1)) + t272))) else (terrkeep5_RasterHalves.j0 k t282 t291 t300 true t268 t269 (wrap64 ((wrap64 (t268 + 1)) + t271)) (wrap64 ((wrap64 (t269 + 1)) + t272)))) else (terrkeep5_RasterHalves.j0 k t282 t291 t300 true t268 t269 (wrap64 ((wrap64 (t268 + 1)) + t271)) (wrap64 ((wrap64 (t269 + 1)) + t272)))))) = some r := by first | (rw [hy285]; with_reducible exact H) | (have H2_ := (Option.bind_some _ _).symm.trans H; rw [hy285]; with_reducible exact H2_) | (have H2_ := (Option.bind_some _ _).symm.trans H; with_reducible exact H2_) | with_reducible exact H | (rw [hy285]; exact H) | exact H
    have Ny285 := Aside0.mk hy285
    clear hy285
    obtain ⟨y288, hy288⟩ : ∃ y_ : List (List (S40)), y_ = (([y285] : List (List (S40)))) := ⟨_, rfl⟩
    replace H : ((raster_Cover.f k y288).bind fun t291 => ((raster_Cover.f k (([(([(⟨t268, t269⟩ : S40), (⟨wrap64 ((wrap64 (t268 + 1)) + t271), t269⟩ : S40), (⟨wrap64 ((wrap64 (t268 + 1)) + t271), wrap64 ((wrap64 (t269 + 1)) + t272)⟩ : S40), (⟨t268, wrap64 ((wrap64 (t269 + 1)) + t272)⟩ : S40)] : List (S40)))] : List (List (S40))))).bind fun t300 => (if (t282.length : Int) = 4096 then (if (t291.length : Int) = 4096 then (terrkeep5_RasterHalves.j0 k t282 t291 t300 ((t300.length : Int) != 4096) t268 t269 (wrap64 ((wrap64 (t268 + 1)) + t271)) (wrap64 ((wrap64 (t269 + 1)) + t272))) else (terrkeep5_RasterHalves.j0 k t282 t291 t300 true t268 t269 (wrap64 ((wrap64 (t268 + 1)) + t271)) (wrap64 ((wrap64 (t269 + 1)) + t272)))) else (terrkeep5_RasterHalves.j0 k t282 t291 t300 true t268 t269 (wrap64 ((wrap64 (t268 + 1)) + t271)) (wrap64 ((wrap64 (t269 + 1)) + t272)))))) = some r := by first | (rw [hy288]; with_reducible exact H) | (have H2_ := (Option.bind_some _ _).symm.trans H; rw [hy288]; with_reducible exact H2_) | (have H2_ := (Option.bind_some _ _).symm.trans H; with_reducible exact H2_) | with_reducible exact H | (rw [hy288]; exact H) | exact H
    have Ny288 := Aside0.mk hy288
    clear hy288
    replace H := Option.bind_eq_some_iff.mp H
    obtain ⟨t291, A120, H⟩ := H
    replace H : ((raster_Cover.f k (([(([(⟨t268, t269⟩ : S40), (⟨wrap64 ((wrap64 (t268 + 1)) + t271), t269⟩ : S40), (⟨wrap64 ((wrap64 (t268 + 1)) + t271), wrap64 ((wrap64 (t269 + 1)) + t272)⟩ : S40), (⟨t268, wrap64 ((wrap64 (t269 + 1)) + t272)⟩ : S40)] : List (S40)))] : List (List (S40))))).bind fun t300 => (if (t282.length : Int) = 4096 then (if (t291.length : Int) = 4096 then (terrkeep5_RasterHalves.j0 k t282 t291 t300 ((t300.length : Int) != 4096) t268 t269 (wrap64 ((wrap64 (t268 + 1)) + t271)) (wrap64 ((wrap64 (t269 + 1)) + t272))) else (terrkeep5_RasterHalves.j0 k t282 t291 t300 true t268 t269 (wrap64 ((wrap64 (t268 + 1)) + t271)) (wrap64 ((wrap64 (t269 + 1)) + t272)))) else (terrkeep5_RasterHalves.j0 k t282 t291 t300 true t268 t269 (wrap64 ((wrap64 (t268 + 1)) + t271)) (wrap64 ((wrap64 (t269 + 1)) + t272))))) = some r := H
    have A12 := Aside0.mk A120
    clear A120
    obtain ⟨y294, hy294⟩ : ∃ y_ : List (S40), y_ = (([(⟨t268, t269⟩ : S40), (⟨wrap64 ((wrap64 (t268 + 1)) + t271), t269⟩ : S40), (⟨wrap64 ((wrap64 (t268 + 1)) + t271), wrap64 ((wrap64 (t269 + 1)) + t272)⟩ : S40), (⟨t268, wrap64 ((wrap64 (t269 + 1)) + t272)⟩ : S40)] : List (S40))) := ⟨_, rfl⟩
    replace H : ((raster_Cover.f k (([y294] : List (List (S40))))).bind fun t300 => (if (t282.length : Int) = 4096 then (if (t291.length : Int) = 4096 then (terrkeep5_RasterHalves.j0 k t282 t291 t300 ((t300.length : Int) != 4096) t268 t269 (wrap64 ((wrap64 (t268 + 1)) + t271)) (wrap64 ((wrap64 (t269 + 1)) + t272))) else (terrkeep5_RasterHalves.j0 k t282 t291 t300 true t268 t269 (wrap64 ((wrap64 (t268 + 1)) + t271)) (wrap64 ((wrap64 (t269 + 1)) + t272)))) else (terrkeep5_RasterHalves.j0 k t282 t291 t300 true t268 t269 (wrap64 ((wrap64 (t268 + 1)) + t271)) (wrap64 ((wrap64 (t269 + 1)) + t272))))) = some r := by first | (rw [hy294]; with_reducible exact H) | (have H2_ := (Option.bind_some _ _).symm.trans H; rw [hy294]; with_reducible exact H2_) | (have H2_ := (Option.bind_some _ _).symm.trans H; with_reducible exact H2_) | with_reducible exact H | (rw [hy294]; exact H) | exact H
    have Ny294 := Aside0.mk hy294
    clear hy294
    obtain ⟨y297, hy297⟩ : ∃ y_ : List (List (S40)), y_ = (([y294] : List (List (S40)))) := ⟨_, rfl⟩
    replace H : ((raster_Cover.f k y297).bind fun t300 => (if (t282.length : Int) = 4096 then (if (t291.length : Int) = 4096 then (terrkeep5_RasterHalves.j0 k t282 t291 t300 ((t300.length : Int) != 4096) t268 t269 (wrap64 ((wrap64 (t268 + 1)) + t271)) (wrap64 ((wrap64 (t269 + 1)) + t272))) else (terrkeep5_RasterHalves.j0 k t282 t291 t300 true t268 t269 (wrap64 ((wrap64 (t268 + 1)) + t271)) (wrap64 ((wrap64 (t269 + 1)) + t272)))) else (terrkeep5_RasterHalves.j0 k t282 t291 t300 true t268 t269 (wrap64 ((wrap64 (t268 + 1)) + t271)) (wrap64 ((wrap64 (t269 + 1)) + t272))))) = some r := by first | (rw [hy297]; with_reducible exact H) | (have H2_ := (Option.bind_some _ _).symm.trans H; rw [hy297]; with_reducible exact H2_) | (have H2_ := (Option.bind_some _ _).symm.trans H; with_reducible exact H2_) | with_reducible exact H | (rw [hy297]; exact H) | exact H
    have Ny297 := Aside0.mk hy297
    clear hy297
    replace H := Option.bind_eq_some_iff.mp H
    obtain ⟨t300, A130, H⟩ := H
    replace H : (if (t282.length : Int) = 4096 then (if (t291.length : Int) = 4096 then (terrkeep5_RasterHalves.j0 k t282 t291 t300 ((t300.length : Int) != 4096) t268 t269 (wrap64 ((wrap64 (t268 + 1)) + t271)) (wrap64 ((wrap64 (t269 + 1)) + t272))) else (terrkeep5_RasterHalves.j0 k t282 t291 t300 true t268 t269 (wrap64 ((wrap64 (t268 + 1)) + t271)) (wrap64 ((wrap64 (t269 + 1)) + t272)))) else (terrkeep5_RasterHalves.j0 k t282 t291 t300 true t268 t269 (wrap64 ((wrap64 (t268 + 1)) + t271)) (wrap64 ((wrap64 (t269 + 1)) + t272)))) = some r := H
    have A13 := Aside0.mk A130
    clear A130
    have HC14 := Aside0.mk H
    clear H
    go_enter Try.func11, Try.ntmps11
    try go_wp2_with (first | ((with_reducible refine gate_callee (f := 41) rfl ?_); refine goesL_ (some 17) rfl rfl Try.func41 (by kernel_rfl) rfl #[] rfl (by (try simp only [List.map_toArray, List.map_cons, List.map_nil]); first | done | rfl | (simp only [List.length_drop, List.length_take]; rfl)) ?_; (with_reducible refine (terrkeep5_covered.calls k  true _ A5.out).mono ?_); rintro e w15 ⟨rfl, hb⟩; refine ⟨_, rfl, ?_⟩; have n0_ := Aside0.mk (below_step (by repeat (first | (with_reducible first | exact HB.out | apply below_alloc | apply pw_below_drewN | apply below_drew1) | exact HB.out)) hb); clear HB; have HB := n0_; clear n0_; (try clear hb); (try clear hb2); (try clear hk); (try clear hi)) | ((with_reducible refine gate_callee (f := 18) rfl ?_); refine goesL_ (some 20) rfl rfl Try.func18 (by kernel_rfl) rfl #[.int .i64 a0, .int .i64 200] rfl (by (try simp only [List.map_toArray, List.map_cons, List.map_nil]); first | done | rfl | (simp only [List.length_drop, List.length_take]; rfl)) ?_; (with_reducible refine (terrmake_Below.calls a0 200 t268 _ A7.out).mono ?_); rintro e w' ⟨rfl, ⟨nd, rfl⟩⟩; refine ⟨_, rfl, ?_⟩; (try (rw [drewN_self w15]; generalize hq_ : World.drewN w15 _ = w15; have n0_ : Aside0 (Below w.heap.size w w15) := ⟨by rw [← hq_]; exact (by repeat (first | (with_reducible first | exact HB.out | apply below_alloc | apply pw_below_drewN | apply below_drew1) | exact HB.out))⟩; clear HB hq_; have HB := n0_; clear n0_))) | ((with_reducible refine gate_callee (f := 18) rfl ?_); refine goesL_ (some 22) rfl rfl Try.func18 (by kernel_rfl) rfl #[.int .i64 a1, .int .i64 200] rfl (by (try simp only [List.map_toArray, List.map_cons, List.map_nil]); first | done | rfl | (simp only [List.length_drop, List.length_take]; rfl)) ?_; (with_reducible refine (terrmake_Below.calls a1 200 t269 _ A8.out).mono ?_); rintro e w' ⟨rfl, ⟨nd, rfl⟩⟩; refine ⟨_, rfl, ?_⟩; (try (rw [drewN_self w15]; generalize hq_ : World.drewN w15 _ = w15; have n0_ : Aside0 (Below w.heap.size w w15) := ⟨by rw [← hq_]; exact (by repeat (first | (with_reducible first | exact HB.out | apply below_alloc | apply pw_below_drewN | apply below_drew1) | exact HB.out))⟩; clear HB hq_; have HB := n0_; clear n0_))) | ((with_reducible refine gate_dst (N := 9) rfl ?_); (try (refine gate_guard (by rfl) ?_; dsimp only)); refine box_event ?hg (N := 9) ?hd (cs := #[.int .i64 0, .int .i64 0]) (t := 40) ?hr ?_; (case hd => rfl); (case hg => rfl); (case hr => first | (go_simp; done) | (go_simp; rfl)); intro gb270 hg w16 hbox hb; have n0_ := Aside0.mk (below_step (by repeat (first | (with_reducible first | exact HB.out | apply below_alloc | apply pw_below_drewN | apply below_drew1) | exact HB.out)) hb); have n1_ := Aside0.mk (hbox); have n2_ := Aside0.mk ((by rw [hg]; exact (below_size (by repeat (first | (with_reducible first | exact HB.out | apply below_alloc | apply pw_below_drewN | apply below_drew1) | exact HB.out))) : w.heap.size ≤ gb270)); have n3_ := Aside0.mk ((by rw [hg]; exact (below_size (by repeat (first | (with_reducible first | exact HB.out | apply below_alloc | apply pw_below_drewN | apply below_drew1) | exact HB.out))) : w.heap.size ≤ gb270)); clear HB; have HB := n0_; have BK270 := n1_; have GW270 := n2_; have GE270 := n3_; clear n0_ n1_ n2_ n3_; clear hb hbox hg; have hcz17_0 : w16.cell? ⟨gb270, 0, none⟩ = some (.int .i64 0) := (blk_cell BK270.out 0).trans rfl; have hcz17_1 : w16.cell? ⟨gb270, 1, none⟩ = some (.int .i64 0) := (blk_cell BK270.out 1).trans rfl; have hfz17_0 := blk_frozen BK270.out 0; have hfz17_1 := blk_frozen BK270.out 1))
    have n0_ : Aside0 (((w16.setCell ⟨gb270, 0, none⟩ (.int .i64 t268)).setCell ⟨gb270, 1, none⟩ (.int .i64 t269)).heap[gb270]? = some (.cells #[.int .i64 t268, .int .i64 t269] 40 (0, 0))) := ⟨by (with_reducible repeat (first | refine blk_drewN ?_ _ | refine blk_drew ?_ | refine blk_alloc ?_ _)); refine blk_put (cs := #[.int .i64 t268, .int .i64 0]) ?_ 1 _ rfl; (with_reducible repeat (first | refine blk_drewN ?_ _ | refine blk_drew ?_ | refine blk_alloc ?_ _)); refine blk_put (cs := #[.int .i64 0, .int .i64 0]) ?_ 0 _ rfl; (with_reducible repeat (first | refine blk_drewN ?_ _ | refine blk_drew ?_ | refine blk_alloc ?_ _)); exact BK270.out⟩
    have n1_ : Aside0 (Below w.heap.size w ((w16.setCell ⟨gb270, 0, none⟩ (.int .i64 t268)).setCell ⟨gb270, 1, none⟩ (.int .i64 t269))) := ⟨by repeat (first | (with_reducible first | exact HB.out | apply below_alloc | apply pw_below_drewN | apply below_drew1 | refine below_set ?_ GE270.out) | exact HB.out)⟩
    (try clear BK270)
    (try clear HB)
    generalize ((w16.setCell ⟨gb270, 0, none⟩ (.int .i64 t268)).setCell ⟨gb270, 1, none⟩ (.int .i64 t269)) = w18 at n0_ n1_ ⊢
    have BK270 := n0_
    have HB := n1_
    clear n0_ n1_
    have n0_ := Aside0.mk (blk_drew BK270.out)
    have n1_ := Aside0.mk (below_drew1 HB.out)
    clear BK270
    clear HB
    have BK270 := n0_
    have HB := n1_
    clear n0_ n1_
    refine start_ (n := 15) (S := fun w' => w'.cell? ⟨gb270, 0, none⟩ = some (.int .i64 t268) ∧ w'.cell? ⟨gb270, 1, none⟩ = some (.int .i64 t269)) (ds := []) #[false, false, false, false, false, false, false, false, false, false, false, false, false, false, false] (by kernel_rfl) rfl rfl ⟨(blk_cell BK270.out 0).trans rfl, (blk_cell BK270.out 1).trans rfl⟩ (fun hHeld => ?_); refine with_tabW terrkeep5_RasterHalves.tab4 terrkeep5_RasterHalves.bits4 (fun HT_ HW_ => ?_)
    generalize w18.drew = w19 at BK270 HB hHeld ⊢
    refine pure_ (i := 0) (N := some 24) (v := ?_) (a' := ?_) #[true, false, false, false, false, false, false, false, false, false, false, false, false, false, false] rfl rfl (any_of HT_.out (by kernel_rfl)) (fun _ _ _ h => h) (Or.inl ⟨by rfl, ?_⟩) ?_ ?_
    rotate_left
    · intro w'
      go_simp
      with_reducible rfl
    rotate_left
    · simp only [Act.put, List.setIfInBounds_toArray, List.set_cons_zero, List.set_cons_succ, i64_w, i32_w]
      rfl
    refine pure_ (i := 3) (N := some 27) (v := ?_) (a' := ?_) #[true, false, false, true, false, false, false, false, false, false, false, false, false, false, false] rfl rfl (any_of HT_.out (by kernel_rfl)) (fun _ _ _ h => h) (Or.inl ⟨by rfl, ?_⟩) ?_ ?_
    rotate_left
    · intro w'
      go_simp
      with_reducible rfl
    rotate_left
    · simp only [Act.put, List.setIfInBounds_toArray, List.set_cons_zero, List.set_cons_succ, i64_w, i32_w]
      rfl
    refine pure_ (i := 6) (N := some 30) (v := ?_) (a' := ?_) #[true, false, false, true, false, false, true, false, false, false, false, false, false, false, false] rfl rfl (any_of HT_.out (by kernel_rfl)) (fun _ _ _ h => h) (Or.inl ⟨by rfl, ?_⟩) ?_ ?_
    rotate_left
    · intro w'
      go_simp
      with_reducible rfl
    rotate_left
    · simp only [Act.put, List.setIfInBounds_toArray, List.set_cons_zero, List.set_cons_succ, i64_w, i32_w]
      rfl
    refine pure_ (i := 9) (N := some 33) (v := ?_) (a' := ?_) #[true, false, false, true, false, false, true, false, false, true, false, false, false, false, false] rfl rfl (any_of HT_.out (by kernel_rfl)) (fun _ _ _ h => h) (Or.inl ⟨by rfl, ?_⟩) ?_ ?_
    rotate_left
    · intro w'
      go_simp
      with_reducible rfl
    rotate_left
    · simp only [Act.put, List.setIfInBounds_toArray, List.set_cons_zero, List.set_cons_succ, i64_w, i32_w]
      rfl
    refine take_ (i := 1) (N := some 25) (v := ?_) (a' := ?_) #[true, true, false, true, false, false, true, false, false, true, false, false, false, false, false] rfl rfl (take_ofW HT_.out HW_.out (by kernel_rfl)) (fun _ _ _ h => h) (Or.inl ⟨by rfl, ?_⟩) hHeld ?_ ?_
    rotate_left
    · rintro w' ⟨s0, s1⟩
      go_simp
      with_reducible rfl
    rotate_left
    · simp only [Act.put, List.setIfInBounds_toArray, List.set_cons_zero, List.set_cons_succ, i64_w, i32_w]
      rfl
    refine pure_ (i := 2) (N := some 26) (v := ?_) (a' := ?_) #[true, true, true, true, false, false, true, false, false, true, false, false, false, false, false] rfl rfl (any_of HT_.out (by kernel_rfl)) (fun _ _ _ h => h) (Or.inl ⟨by rfl, ?_⟩) ?_ ?_
    rotate_left
    · intro w'
      go_simp
      with_reducible rfl
    rotate_left
    · simp only [Act.put, List.setIfInBounds_toArray, List.set_cons_zero, List.set_cons_succ, i64_w, i32_w]
      rfl
    refine take_ (i := 7) (N := some 31) (v := ?_) (a' := ?_) #[true, true, true, true, false, false, true, true, false, true, false, false, false, false, false] rfl rfl (take_ofW HT_.out HW_.out (by kernel_rfl)) (fun _ _ _ h => h) (Or.inl ⟨by rfl, ?_⟩) hHeld ?_ ?_
    rotate_left
    · rintro w' ⟨s0, s1⟩
      go_simp
      with_reducible rfl
    rotate_left
    · simp only [Act.put, List.setIfInBounds_toArray, List.set_cons_zero, List.set_cons_succ, i64_w, i32_w]
      rfl
    refine pure_ (i := 8) (N := some 32) (v := ?_) (a' := ?_) #[true, true, true, true, false, false, true, true, true, true, false, false, false, false, false] rfl rfl (any_of HT_.out (by kernel_rfl)) (fun _ _ _ h => h) (Or.inl ⟨by rfl, ?_⟩) ?_ ?_
    rotate_left
    · intro w'
      go_simp
      with_reducible rfl
    rotate_left
    · simp only [Act.put, List.setIfInBounds_toArray, List.set_cons_zero, List.set_cons_succ, i64_w, i32_w]
      rfl
    refine join_ (σ := Nat) 1 #[true, true, true, true, true, true, true, true, true, true, true, true, true, true, false] (fun s_ => [(28, .int .i64 t271), (34, .int .i64 t272), (10, .pointer (some ⟨s_, 0, none⟩)), (29, .int .i64 (wrap64 ((wrap64 (t268 + 1)) + t271))), (35, .int .i64 (wrap64 ((wrap64 (t269 + 1)) + t272))), (36, .agg #[.int .i64 (wrap64 ((wrap64 (t268 + 1)) + t271)), .int .i64 (wrap64 ((wrap64 (t269 + 1)) + t272))])]) (fun s_ w' => (w'.cell? ⟨gb270, 0, none⟩ = some (.int .i64 t268) ∧ w'.cell? ⟨gb270, 1, none⟩ = some (.int .i64 t269)) ∧ (w'.heap[gb270]? = some (.cells #[.int .i64 t268, .int .i64 t269] 40 (0, 0))) ∧ (w'.heap[s_]? = some (.cells #[.int .i64 0, .int .i64 0] 40 (0, 0))) ∧ (w.heap.size ≤ s_) ∧ (w.heap.size ≤ s_) ∧ (gb270 ≠ s_) ∧ (s_ ≠ gb270) ∧ (Below w.heap.size w w')) ?_ ?_
    rotate_left
    · intro hCont
      refine two_ (i := 4) (j := 13) (Ni := some 28) (Nj := some 10) #[true, true, true, true, true, false, true, true, true, true, false, false, false, false, false] #[true, true, true, true, false, false, true, true, true, true, false, false, false, true, false] rfl rfl rfl rfl (two_of HT_.out (by kernel_rfl)) (by decide) (by decide) (fun K hK => ?_) (fun K hK => ?_)
      · skip
        refine goes_ Try.func18 (by kernel_rfl) rfl #[.int .i64 a2, .int .i64 100] (by rfl) rfl rfl (by (try simp only [List.map_toArray, List.map_cons, List.map_nil]); first | done | rfl | (simp only [List.length_drop, List.length_take]; rfl)) ?_
        with_reducible refine (terrmake_Below.calls a2 100 t271 _ A9.out).mono ?_
        rintro e w' ⟨rfl, ⟨nd, rfl⟩⟩
        refine ⟨_, rfl, ?_⟩
        refine hK.out _ _ ⟨(blk_cell BK270.out 0).trans rfl, (blk_cell BK270.out 1).trans rfl⟩ (fun hHeld => ?_)
        clear hK K
        refine norm_ (a' := ?_) ?_ ?_
        rotate_left
        · show Act.put _ (some 28) _ = _
          simp only [Act.put, List.setIfInBounds_toArray, List.set_cons_zero, List.set_cons_succ, i64_w, i32_w]
          rfl
        refine pure_ (i := 5) (N := some 29) (v := ?_) (a' := ?_) #[true, true, true, true, true, true, true, true, true, true, false, false, false, false, false] rfl rfl (any_of HT_.out (by kernel_rfl)) (fun _ _ _ h => h) (Or.inl ⟨by rfl, ?_⟩) ?_ ?_
        rotate_left
        · intro w'
          go_simp
          with_reducible rfl
        rotate_left
        · simp only [Act.put, List.setIfInBounds_toArray, List.set_cons_zero, List.set_cons_succ, i64_w, i32_w]
          rfl
        refine two_ (i := 10) (j := 13) (Ni := some 34) (Nj := some 10) #[true, true, true, true, true, true, true, true, true, true, true, false, false, false, false] #[true, true, true, true, true, true, true, true, true, true, false, false, false, true, false] rfl rfl rfl rfl (two_of HT_.out (by kernel_rfl)) (by decide) (by decide) (fun K hK => ?_) (fun K hK => ?_)
        · skip
          refine goes_ Try.func18 (by kernel_rfl) rfl #[.int .i64 a3, .int .i64 100] (by rfl) rfl rfl (by (try simp only [List.map_toArray, List.map_cons, List.map_nil]); first | done | rfl | (simp only [List.length_drop, List.length_take]; rfl)) ?_
          with_reducible refine (terrmake_Below.calls a3 100 t272 _ A10.out).mono ?_
          rintro e w' ⟨rfl, ⟨nd, rfl⟩⟩
          refine ⟨_, rfl, ?_⟩
          refine hK.out _ _ ⟨(blk_cell BK270.out 0).trans rfl, (blk_cell BK270.out 1).trans rfl⟩ (fun hHeld => ?_)
          clear hK K
          refine norm_ (a' := ?_) ?_ ?_
          rotate_left
          · show Act.put _ (some 34) _ = _
            simp only [Act.put, List.setIfInBounds_toArray, List.set_cons_zero, List.set_cons_succ, i64_w, i32_w]
            rfl
          refine pure_ (i := 11) (N := some 35) (v := ?_) (a' := ?_) #[true, true, true, true, true, true, true, true, true, true, true, true, false, false, false] rfl rfl (any_of HT_.out (by kernel_rfl)) (fun _ _ _ h => h) (Or.inl ⟨by rfl, ?_⟩) ?_ ?_
          rotate_left
          · intro w'
            go_simp
            with_reducible rfl
          rotate_left
          · simp only [Act.put, List.setIfInBounds_toArray, List.set_cons_zero, List.set_cons_succ, i64_w, i32_w]
            rfl
          refine pure_ (i := 12) (N := some 36) (v := ?_) (a' := ?_) #[true, true, true, true, true, true, true, true, true, true, true, true, true, false, false] rfl rfl (any_of HT_.out (by kernel_rfl)) (fun _ _ _ h => h) (Or.inl ⟨by rfl, ?_⟩) ?_ ?_
          rotate_left
          · intro w'
            go_simp
            with_reducible rfl
          rotate_left
          · simp only [Act.put, List.setIfInBounds_toArray, List.set_cons_zero, List.set_cons_succ, i64_w, i32_w]
            rfl
          refine one_ (i := 13) (N := some 10) #[true, true, true, true, true, true, true, true, true, true, true, true, true, true, false] rfl rfl (one_of HT_.out (by kernel_rfl)) (by decide) (fun K hK => ?_)
          refine box_step ?hg (N := 10) ?hd (cs := #[.int .i64 0, .int .i64 0]) (t := 40) ?hr ?_; (case hd => rfl); (case hg => rfl); (case hr => first | (go_simp; done) | (go_simp; rfl))
          intro gb273 hg w20 hbox hb
          have n0_ := Aside0.mk (blk_below (g := gb270) (o := .cells #[.int .i64 t268, .int .i64 t269] 40 (0, 0)) (by (with_reducible repeat (first | refine blk_drewN ?_ _ | refine blk_drew ?_ | refine blk_alloc ?_ _)); exact BK270.out) hb)
          have n1_ := Aside0.mk (below_step (by repeat (first | (with_reducible first | exact HB.out | apply below_alloc | apply pw_below_drewN | apply below_drew1 | refine below_set ?_ GE270.out) | exact HB.out)) hb)
          have n2_ := Aside0.mk (hbox)
          have n3_ := Aside0.mk ((by rw [hg]; exact (below_size (by repeat (first | (with_reducible first | exact HB.out | apply below_alloc | apply pw_below_drewN | apply below_drew1 | refine below_set ?_ GE270.out) | exact HB.out))) : w.heap.size ≤ gb273))
          have n4_ := Aside0.mk ((by rw [hg]; exact (below_size (by repeat (first | (with_reducible first | exact HB.out | apply below_alloc | apply pw_below_drewN | apply below_drew1 | refine below_set ?_ GE270.out) | exact HB.out))) : w.heap.size ≤ gb273))
          have n5_ := Aside0.mk ((by rw [hg]; exact Nat.ne_of_lt (blk_lt (g := gb270) (o := .cells #[.int .i64 t268, .int .i64 t269] 40 (0, 0)) (by (with_reducible repeat (first | refine blk_drewN ?_ _ | refine blk_drew ?_ | refine blk_alloc ?_ _)); exact BK270.out)) : gb270 ≠ gb273))
          have n6_ := Aside0.mk ((by rw [hg]; exact Nat.ne_of_gt (blk_lt (g := gb270) (o := .cells #[.int .i64 t268, .int .i64 t269] 40 (0, 0)) (by (with_reducible repeat (first | refine blk_drewN ?_ _ | refine blk_drew ?_ | refine blk_alloc ?_ _)); exact BK270.out)) : gb273 ≠ gb270))
          clear BK270
          clear HB
          have BK270 := n0_
          have HB := n1_
          have BK273 := n2_
          have GW273 := n3_
          have GE273 := n4_
          have NB270_273 := n5_
          have NB273_270 := n6_
          clear n0_ n1_ n2_ n3_ n4_ n5_ n6_
          clear hb hbox hg
          refine hK.out _ _ ⟨(blk_cell BK270.out 0).trans rfl, (blk_cell BK270.out 1).trans rfl⟩ (fun hHeld => ?_)
          clear hK K
          refine norm_ (a' := ?_) ?_ ?_
          rotate_left
          · show Act.put _ (some 10) _ = _
            simp only [Act.put, List.setIfInBounds_toArray, List.set_cons_zero, List.set_cons_succ, i64_w, i32_w]
            rfl
          exact norm_ (by simp only [putAll, Act.put, List.setIfInBounds_toArray, List.set_cons_zero, List.set_cons_succ]) (hCont (gb273) _ ⟨hHeld, (by (with_reducible repeat (first | refine blk_drewN ?_ _ | refine blk_drew ?_ | refine blk_alloc ?_ _)); exact BK270.out), (by (with_reducible repeat (first | refine blk_drewN ?_ _ | refine blk_drew ?_ | refine blk_alloc ?_ _)); exact BK273.out), GW273.out, GE273.out, NB270_273.out, NB273_270.out, (by repeat (first | (with_reducible first | exact HB.out | apply below_alloc | apply pw_below_drewN | apply below_drew1 | refine below_set ?_ GE270.out | refine below_set ?_ GE273.out) | exact HB.out))⟩)
        · skip
          refine box_step ?hg (N := 10) ?hd (cs := #[.int .i64 0, .int .i64 0]) (t := 40) ?hr ?_; (case hd => rfl); (case hg => rfl); (case hr => first | (go_simp; done) | (go_simp; rfl))
          intro gb273 hg w20 hbox hb
          have n0_ := Aside0.mk (blk_below (g := gb270) (o := .cells #[.int .i64 t268, .int .i64 t269] 40 (0, 0)) (by (with_reducible repeat (first | refine blk_drewN ?_ _ | refine blk_drew ?_ | refine blk_alloc ?_ _)); exact BK270.out) hb)
          have n1_ := Aside0.mk (below_step (by repeat (first | (with_reducible first | exact HB.out | apply below_alloc | apply pw_below_drewN | apply below_drew1 | refine below_set ?_ GE270.out) | exact HB.out)) hb)
          have n2_ := Aside0.mk (hbox)
          have n3_ := Aside0.mk ((by rw [hg]; exact (below_size (by repeat (first | (with_reducible first | exact HB.out | apply below_alloc | apply pw_below_drewN | apply below_drew1 | refine below_set ?_ GE270.out) | exact HB.out))) : w.heap.size ≤ gb273))
          have n4_ := Aside0.mk ((by rw [hg]; exact (below_size (by repeat (first | (with_reducible first | exact HB.out | apply below_alloc | apply pw_below_drewN | apply below_drew1 | refine below_set ?_ GE270.out) | exact HB.out))) : w.heap.size ≤ gb273))
          have n5_ := Aside0.mk ((by rw [hg]; exact Nat.ne_of_lt (blk_lt (g := gb270) (o := .cells #[.int .i64 t268, .int .i64 t269] 40 (0, 0)) (by (with_reducible repeat (first | refine blk_drewN ?_ _ | refine blk_drew ?_ | refine blk_alloc ?_ _)); exact BK270.out)) : gb270 ≠ gb273))
          have n6_ := Aside0.mk ((by rw [hg]; exact Nat.ne_of_gt (blk_lt (g := gb270) (o := .cells #[.int .i64 t268, .int .i64 t269] 40 (0, 0)) (by (with_reducible repeat (first | refine blk_drewN ?_ _ | refine blk_drew ?_ | refine blk_alloc ?_ _)); exact BK270.out)) : gb273 ≠ gb270))
          clear BK270
          clear HB
          have BK270 := n0_
          have HB := n1_
          have BK273 := n2_
          have GW273 := n3_
          have GE273 := n4_
          have NB270_273 := n5_
          have NB273_270 := n6_
          clear n0_ n1_ n2_ n3_ n4_ n5_ n6_
          clear hb hbox hg
          refine hK.out _ _ ⟨(blk_cell BK270.out 0).trans rfl, (blk_cell BK270.out 1).trans rfl⟩ (fun hHeld => ?_)
          clear hK K
          refine norm_ (a' := ?_) ?_ ?_
          rotate_left
          · show Act.put _ (some 10) _ = _
            simp only [Act.put, List.setIfInBounds_toArray, List.set_cons_zero, List.set_cons_succ, i64_w, i32_w]
            rfl
          refine one_ (i := 10) (N := some 34) #[true, true, true, true, true, true, true, true, true, true, true, false, false, true, false] rfl rfl (one_of HT_.out (by kernel_rfl)) (by decide) (fun K hK => ?_)
          refine goes_ Try.func18 (by kernel_rfl) rfl #[.int .i64 a3, .int .i64 100] (by rfl) rfl rfl (by (try simp only [List.map_toArray, List.map_cons, List.map_nil]); first | done | rfl | (simp only [List.length_drop, List.length_take]; rfl)) ?_
          with_reducible refine (terrmake_Below.calls a3 100 t272 _ A10.out).mono ?_
          rintro e w' ⟨rfl, ⟨nd, rfl⟩⟩
          refine ⟨_, rfl, ?_⟩
          refine hK.out _ _ ⟨(blk_cell BK270.out 0).trans rfl, (blk_cell BK270.out 1).trans rfl⟩ (fun hHeld => ?_)
          clear hK K
          refine norm_ (a' := ?_) ?_ ?_
          rotate_left
          · show Act.put _ (some 34) _ = _
            simp only [Act.put, List.setIfInBounds_toArray, List.set_cons_zero, List.set_cons_succ, i64_w, i32_w]
            rfl
          refine pure_ (i := 11) (N := some 35) (v := ?_) (a' := ?_) #[true, true, true, true, true, true, true, true, true, true, true, true, false, true, false] rfl rfl (any_of HT_.out (by kernel_rfl)) (fun _ _ _ h => h) (Or.inl ⟨by rfl, ?_⟩) ?_ ?_
          rotate_left
          · intro w'
            go_simp
            with_reducible rfl
          rotate_left
          · simp only [Act.put, List.setIfInBounds_toArray, List.set_cons_zero, List.set_cons_succ, i64_w, i32_w]
            rfl
          refine pure_ (i := 12) (N := some 36) (v := ?_) (a' := ?_) #[true, true, true, true, true, true, true, true, true, true, true, true, true, true, false] rfl rfl (any_of HT_.out (by kernel_rfl)) (fun _ _ _ h => h) (Or.inl ⟨by rfl, ?_⟩) ?_ ?_
          rotate_left
          · intro w'
            go_simp
            with_reducible rfl
          rotate_left
          · simp only [Act.put, List.setIfInBounds_toArray, List.set_cons_zero, List.set_cons_succ, i64_w, i32_w]
            rfl
          exact norm_ (by simp only [putAll, Act.put, List.setIfInBounds_toArray, List.set_cons_zero, List.set_cons_succ]) (hCont (gb273) _ ⟨hHeld, (by (with_reducible repeat (first | refine blk_drewN ?_ _ | refine blk_drew ?_ | refine blk_alloc ?_ _)); exact BK270.out), (by (with_reducible repeat (first | refine blk_drewN ?_ _ | refine blk_drew ?_ | refine blk_alloc ?_ _)); exact BK273.out), GW273.out, GE273.out, NB270_273.out, NB273_270.out, (by repeat (first | (with_reducible first | exact HB.out | apply below_alloc | apply pw_below_drewN | apply below_drew1 | refine below_set ?_ GE270.out | refine below_set ?_ GE273.out) | exact HB.out))⟩)
      · skip
        refine box_step ?hg (N := 10) ?hd (cs := #[.int .i64 0, .int .i64 0]) (t := 40) ?hr ?_; (case hd => rfl); (case hg => rfl); (case hr => first | (go_simp; done) | (go_simp; rfl))
        intro gb273 hg w20 hbox hb
        have n0_ := Aside0.mk (blk_below (g := gb270) (o := .cells #[.int .i64 t268, .int .i64 t269] 40 (0, 0)) (by (with_reducible repeat (first | refine blk_drewN ?_ _ | refine blk_drew ?_ | refine blk_alloc ?_ _)); exact BK270.out) hb)
        have n1_ := Aside0.mk (below_step (by repeat (first | (with_reducible first | exact HB.out | apply below_alloc | apply pw_below_drewN | apply below_drew1 | refine below_set ?_ GE270.out) | exact HB.out)) hb)
        have n2_ := Aside0.mk (hbox)
        have n3_ := Aside0.mk ((by rw [hg]; exact (below_size (by repeat (first | (with_reducible first | exact HB.out | apply below_alloc | apply pw_below_drewN | apply below_drew1 | refine below_set ?_ GE270.out) | exact HB.out))) : w.heap.size ≤ gb273))
        have n4_ := Aside0.mk ((by rw [hg]; exact (below_size (by repeat (first | (with_reducible first | exact HB.out | apply below_alloc | apply pw_below_drewN | apply below_drew1 | refine below_set ?_ GE270.out) | exact HB.out))) : w.heap.size ≤ gb273))
        have n5_ := Aside0.mk ((by rw [hg]; exact Nat.ne_of_lt (blk_lt (g := gb270) (o := .cells #[.int .i64 t268, .int .i64 t269] 40 (0, 0)) (by (with_reducible repeat (first | refine blk_drewN ?_ _ | refine blk_drew ?_ | refine blk_alloc ?_ _)); exact BK270.out)) : gb270 ≠ gb273))
        have n6_ := Aside0.mk ((by rw [hg]; exact Nat.ne_of_gt (blk_lt (g := gb270) (o := .cells #[.int .i64 t268, .int .i64 t269] 40 (0, 0)) (by (with_reducible repeat (first | refine blk_drewN ?_ _ | refine blk_drew ?_ | refine blk_alloc ?_ _)); exact BK270.out)) : gb273 ≠ gb270))
        clear BK270
        clear HB
        have BK270 := n0_
        have HB := n1_
        have BK273 := n2_
        have GW273 := n3_
        have GE273 := n4_
        have NB270_273 := n5_
        have NB273_270 := n6_
        clear n0_ n1_ n2_ n3_ n4_ n5_ n6_
        clear hb hbox hg
        refine hK.out _ _ ⟨(blk_cell BK270.out 0).trans rfl, (blk_cell BK270.out 1).trans rfl⟩ (fun hHeld => ?_)
        clear hK K
        refine norm_ (a' := ?_) ?_ ?_
        rotate_left
        · show Act.put _ (some 10) _ = _
          simp only [Act.put, List.setIfInBounds_toArray, List.set_cons_zero, List.set_cons_succ, i64_w, i32_w]
          rfl
        refine one_ (i := 4) (N := some 28) #[true, true, true, true, true, false, true, true, true, true, false, false, false, true, false] rfl rfl (one_of HT_.out (by kernel_rfl)) (by decide) (fun K hK => ?_)
        refine goes_ Try.func18 (by kernel_rfl) rfl #[.int .i64 a2, .int .i64 100] (by rfl) rfl rfl (by (try simp only [List.map_toArray, List.map_cons, List.map_nil]); first | done | rfl | (simp only [List.length_drop, List.length_take]; rfl)) ?_
        with_reducible refine (terrmake_Below.calls a2 100 t271 _ A9.out).mono ?_
        rintro e w' ⟨rfl, ⟨nd, rfl⟩⟩
        refine ⟨_, rfl, ?_⟩
        refine hK.out _ _ ⟨(blk_cell BK270.out 0).trans rfl, (blk_cell BK270.out 1).trans rfl⟩ (fun hHeld => ?_)
        clear hK K
        refine norm_ (a' := ?_) ?_ ?_
        rotate_left
        · show Act.put _ (some 28) _ = _
          simp only [Act.put, List.setIfInBounds_toArray, List.set_cons_zero, List.set_cons_succ, i64_w, i32_w]
          rfl
        refine pure_ (i := 5) (N := some 29) (v := ?_) (a' := ?_) #[true, true, true, true, true, true, true, true, true, true, false, false, false, true, false] rfl rfl (any_of HT_.out (by kernel_rfl)) (fun _ _ _ h => h) (Or.inl ⟨by rfl, ?_⟩) ?_ ?_
        rotate_left
        · intro w'
          go_simp
          with_reducible rfl
        rotate_left
        · simp only [Act.put, List.setIfInBounds_toArray, List.set_cons_zero, List.set_cons_succ, i64_w, i32_w]
          rfl
        refine one_ (i := 10) (N := some 34) #[true, true, true, true, true, true, true, true, true, true, true, false, false, true, false] rfl rfl (one_of HT_.out (by kernel_rfl)) (by decide) (fun K hK => ?_)
        refine goes_ Try.func18 (by kernel_rfl) rfl #[.int .i64 a3, .int .i64 100] (by rfl) rfl rfl (by (try simp only [List.map_toArray, List.map_cons, List.map_nil]); first | done | rfl | (simp only [List.length_drop, List.length_take]; rfl)) ?_
        with_reducible refine (terrmake_Below.calls a3 100 t272 _ A10.out).mono ?_
        rintro e w' ⟨rfl, ⟨nd, rfl⟩⟩
        refine ⟨_, rfl, ?_⟩
        refine hK.out _ _ ⟨(blk_cell BK270.out 0).trans rfl, (blk_cell BK270.out 1).trans rfl⟩ (fun hHeld => ?_)
        clear hK K
        refine norm_ (a' := ?_) ?_ ?_
        rotate_left
        · show Act.put _ (some 34) _ = _
          simp only [Act.put, List.setIfInBounds_toArray, List.set_cons_zero, List.set_cons_succ, i64_w, i32_w]
          rfl
        refine pure_ (i := 11) (N := some 35) (v := ?_) (a' := ?_) #[true, true, true, true, true, true, true, true, true, true, true, true, false, true, false] rfl rfl (any_of HT_.out (by kernel_rfl)) (fun _ _ _ h => h) (Or.inl ⟨by rfl, ?_⟩) ?_ ?_
        rotate_left
        · intro w'
          go_simp
          with_reducible rfl
        rotate_left
        · simp only [Act.put, List.setIfInBounds_toArray, List.set_cons_zero, List.set_cons_succ, i64_w, i32_w]
          rfl
        refine pure_ (i := 12) (N := some 36) (v := ?_) (a' := ?_) #[true, true, true, true, true, true, true, true, true, true, true, true, true, true, false] rfl rfl (any_of HT_.out (by kernel_rfl)) (fun _ _ _ h => h) (Or.inl ⟨by rfl, ?_⟩) ?_ ?_
        rotate_left
        · intro w'
          go_simp
          with_reducible rfl
        rotate_left
        · simp only [Act.put, List.setIfInBounds_toArray, List.set_cons_zero, List.set_cons_succ, i64_w, i32_w]
          rfl
        exact norm_ (by simp only [putAll, Act.put, List.setIfInBounds_toArray, List.set_cons_zero, List.set_cons_succ]) (hCont (gb273) _ ⟨hHeld, (by (with_reducible repeat (first | refine blk_drewN ?_ _ | refine blk_drew ?_ | refine blk_alloc ?_ _)); exact BK270.out), (by (with_reducible repeat (first | refine blk_drewN ?_ _ | refine blk_drew ?_ | refine blk_alloc ?_ _)); exact BK273.out), GW273.out, GE273.out, NB270_273.out, NB273_270.out, (by repeat (first | (with_reducible first | exact HB.out | apply below_alloc | apply pw_below_drewN | apply below_drew1 | refine below_set ?_ GE270.out | refine below_set ?_ GE273.out) | exact HB.out))⟩)
    rintro gb273 w21 ⟨hS_, h0_, h1_, h2_, h3_, h4_, h5_, h6_⟩
    have n0_ : Aside0 (w21.heap[gb270]? = some (.cells #[.int .i64 t268, .int .i64 t269] 40 (0, 0))) := ⟨h0_⟩
    have n1_ : Aside0 (w21.heap[gb273]? = some (.cells #[.int .i64 0, .int .i64 0] 40 (0, 0))) := ⟨h1_⟩
    have n2_ : Aside0 (w.heap.size ≤ gb273) := ⟨h2_⟩
    have n3_ : Aside0 (w.heap.size ≤ gb273) := ⟨h3_⟩
    have n4_ : Aside0 (gb270 ≠ gb273) := ⟨h4_⟩
    have n5_ : Aside0 (gb273 ≠ gb270) := ⟨h5_⟩
    have n6_ : Aside0 (Below w.heap.size w w21) := ⟨h6_⟩
    clear BK270
    clear HB
    clear h0_ h1_ h2_ h3_ h4_ h5_ h6_
    have BK270 := n0_
    have BK273 := n1_
    have GW273 := n2_
    have GE273 := n3_
    have NB270_273 := n4_
    have NB273_270 := n5_
    have HB := n6_
    clear n0_ n1_ n2_ n3_ n4_ n5_ n6_
    have hHeld : w21.cell? ⟨gb270, 0, none⟩ = some (.int .i64 t268) ∧ w21.cell? ⟨gb270, 1, none⟩ = some (.int .i64 t269) := hS_
    refine norm_ (a' := ?_) ?_ ?_
    rotate_left
    · simp only [putAll, Act.put, List.setIfInBounds_toArray, List.set_cons_zero, List.set_cons_succ]
      rfl
    refine one_ (i := 14) (N := none) #[true, true, true, true, true, true, true, true, true, true, true, true, true, true, true] rfl rfl (one_of HT_.out (by kernel_rfl)) (by decide) (fun K hK => ?_)
    have hs22 : w21.cell? ⟨gb273, 0, none⟩ = some (.int .i64 0) := (blk_cell BK273.out 0).trans rfl
    have hfs22 := blk_frozen BK273.out 0
    have hns22_0 := NB270_273.out
    have hms22_0 := NB273_270.out
    have hs23 : w21.cell? ⟨gb273, 1, none⟩ = some (.int .i64 0) := (blk_cell BK273.out 1).trans rfl
    have hfs23 := blk_frozen BK273.out 1
    have hns23_0 := NB270_273.out
    have hms23_0 := NB273_270.out
    refine skip_ (w1 := ?_) (by rfl) rfl ?_ ?_
    rotate_left
    · go_simp
      rfl
    refine hK.out _ _ ⟨((cell_far (p := ⟨gb273, _, none⟩) NB270_273.out _).trans (((cell_far (p := ⟨gb273, _, none⟩) NB270_273.out _).trans (hHeld.1)))), ((cell_far (p := ⟨gb273, _, none⟩) NB270_273.out _).trans (((cell_far (p := ⟨gb273, _, none⟩) NB270_273.out _).trans (hHeld.2))))⟩ (fun hHeld => ?_)
    clear hK K
    refine done_ (done_of HT_.out (by kernel_rfl)) ?_
    try go_wp2
    have n0_ : Aside0 (((w21.setCell ⟨gb273, 0, none⟩ (.int .i64 (wrap64 ((wrap64 (t268 + 1)) + t271)))).setCell ⟨gb273, 1, none⟩ (.int .i64 (wrap64 ((wrap64 (t269 + 1)) + t272)))).heap[gb270]? = some (.cells #[.int .i64 t268, .int .i64 t269] 40 (0, 0))) := ⟨by (with_reducible repeat (first | refine blk_drewN ?_ _ | refine blk_drew ?_ | refine blk_alloc ?_ _)); refine blk_far ?_ NB270_273.out _; (with_reducible repeat (first | refine blk_drewN ?_ _ | refine blk_drew ?_ | refine blk_alloc ?_ _)); refine blk_far ?_ NB270_273.out _; (with_reducible repeat (first | refine blk_drewN ?_ _ | refine blk_drew ?_ | refine blk_alloc ?_ _)); exact BK270.out⟩
    have n1_ : Aside0 (((w21.setCell ⟨gb273, 0, none⟩ (.int .i64 (wrap64 ((wrap64 (t268 + 1)) + t271)))).setCell ⟨gb273, 1, none⟩ (.int .i64 (wrap64 ((wrap64 (t269 + 1)) + t272)))).heap[gb273]? = some (.cells #[.int .i64 (wrap64 ((wrap64 (t268 + 1)) + t271)), .int .i64 (wrap64 ((wrap64 (t269 + 1)) + t272))] 40 (0, 0))) := ⟨by (with_reducible repeat (first | refine blk_drewN ?_ _ | refine blk_drew ?_ | refine blk_alloc ?_ _)); refine blk_put (cs := #[.int .i64 (wrap64 ((wrap64 (t268 + 1)) + t271)), .int .i64 0]) ?_ 1 _ rfl; (with_reducible repeat (first | refine blk_drewN ?_ _ | refine blk_drew ?_ | refine blk_alloc ?_ _)); refine blk_put (cs := #[.int .i64 0, .int .i64 0]) ?_ 0 _ rfl; (with_reducible repeat (first | refine blk_drewN ?_ _ | refine blk_drew ?_ | refine blk_alloc ?_ _)); exact BK273.out⟩
    have n2_ : Aside0 (Below w.heap.size w ((w21.setCell ⟨gb273, 0, none⟩ (.int .i64 (wrap64 ((wrap64 (t268 + 1)) + t271)))).setCell ⟨gb273, 1, none⟩ (.int .i64 (wrap64 ((wrap64 (t269 + 1)) + t272))))) := ⟨by repeat (first | (with_reducible first | exact HB.out | apply below_alloc | apply pw_below_drewN | apply below_drew1 | refine below_set ?_ GE270.out | refine below_set ?_ GE273.out) | exact HB.out)⟩
    (try clear BK270)
    (try clear BK273)
    (try clear HB)
    generalize ((w21.setCell ⟨gb273, 0, none⟩ (.int .i64 (wrap64 ((wrap64 (t268 + 1)) + t271)))).setCell ⟨gb273, 1, none⟩ (.int .i64 (wrap64 ((wrap64 (t269 + 1)) + t272)))) = w24 at n0_ n1_ n2_ ⊢
    have BK270 := n0_
    have BK273 := n1_
    have HB := n2_
    clear n0_ n1_ n2_
    have n0_ := Aside0.mk (blk_drew BK270.out)
    have n1_ := Aside0.mk (blk_drew BK273.out)
    have n2_ := Aside0.mk (below_drew1 HB.out)
    clear BK270
    clear BK273
    clear HB
    have BK270 := n0_
    have BK273 := n1_
    have HB := n2_
    clear n0_ n1_ n2_
    refine start_ (n := 14) (S := fun w' => w'.cell? ⟨gb273, 0, none⟩ = some (.int .i64 (wrap64 ((wrap64 (t268 + 1)) + t271))) ∧ w'.cell? ⟨gb273, 1, none⟩ = some (.int .i64 (wrap64 ((wrap64 (t269 + 1)) + t272))) ∧ w'.cell? ⟨gb270, 0, none⟩ = some (.int .i64 t268) ∧ w'.cell? ⟨gb270, 1, none⟩ = some (.int .i64 t269)) (ds := []) #[false, false, false, false, false, false, false, false, false, false, false, false, false, false] (by kernel_rfl) rfl rfl ⟨(blk_cell BK273.out 0).trans rfl, (blk_cell BK273.out 1).trans rfl, (blk_cell BK270.out 0).trans rfl, (blk_cell BK270.out 1).trans rfl⟩ (fun hHeld => ?_); refine with_tabW terrkeep5_RasterHalves.tab5 terrkeep5_RasterHalves.bits5 (fun HT_ HW_ => ?_)
    generalize w24.drew = w25 at BK270 BK273 HB hHeld ⊢
    refine pure_ (i := 0) (N := some 37) (v := ?_) (a' := ?_) #[true, false, false, false, false, false, false, false, false, false, false, false, false, false] rfl rfl (any_of HT_.out (by kernel_rfl)) (fun _ _ _ h => h) (Or.inl ⟨by rfl, ?_⟩) ?_ ?_
    rotate_left
    · intro w'
      go_simp
      with_reducible rfl
    rotate_left
    · simp only [Act.put, List.setIfInBounds_toArray, List.set_cons_zero, List.set_cons_succ, i64_w, i32_w]
      rfl
    refine pure_ (i := 2) (N := some 39) (v := ?_) (a' := ?_) #[true, false, true, false, false, false, false, false, false, false, false, false, false, false] rfl rfl (any_of HT_.out (by kernel_rfl)) (fun _ _ _ h => h) (Or.inl ⟨by rfl, ?_⟩) ?_ ?_
    rotate_left
    · intro w'
      go_simp
      with_reducible rfl
    rotate_left
    · simp only [Act.put, List.setIfInBounds_toArray, List.set_cons_zero, List.set_cons_succ, i64_w, i32_w]
      rfl
    refine pure_ (i := 5) (N := some 42) (v := ?_) (a' := ?_) #[true, false, true, false, false, true, false, false, false, false, false, false, false, false] rfl rfl (any_of HT_.out (by kernel_rfl)) (fun _ _ _ h => h) (Or.inl ⟨by rfl, ?_⟩) ?_ ?_
    rotate_left
    · intro w'
      go_simp
      with_reducible rfl
    rotate_left
    · simp only [Act.put, List.setIfInBounds_toArray, List.set_cons_zero, List.set_cons_succ, i64_w, i32_w]
      rfl
    refine pure_ (i := 7) (N := some 44) (v := ?_) (a' := ?_) #[true, false, true, false, false, true, false, true, false, false, false, false, false, false] rfl rfl (any_of HT_.out (by kernel_rfl)) (fun _ _ _ h => h) (Or.inl ⟨by rfl, ?_⟩) ?_ ?_
    rotate_left
    · intro w'
      go_simp
      with_reducible rfl
    rotate_left
    · simp only [Act.put, List.setIfInBounds_toArray, List.set_cons_zero, List.set_cons_succ, i64_w, i32_w]
      rfl
    refine take_ (i := 1) (N := some 38) (v := ?_) (a' := ?_) #[true, true, true, false, false, true, false, true, false, false, false, false, false, false] rfl rfl (take_ofW HT_.out HW_.out (by kernel_rfl)) (fun _ _ _ h => h) (Or.inl ⟨by rfl, ?_⟩) hHeld ?_ ?_
    rotate_left
    · rintro w' ⟨s0, s1, s2, s3⟩
      go_simp
      with_reducible rfl
    rotate_left
    · simp only [Act.put, List.setIfInBounds_toArray, List.set_cons_zero, List.set_cons_succ, i64_w, i32_w]
      rfl
    refine take_ (i := 3) (N := some 40) (v := ?_) (a' := ?_) #[true, true, true, true, false, true, false, true, false, false, false, false, false, false] rfl rfl (take_ofW HT_.out HW_.out (by kernel_rfl)) (fun _ _ _ h => h) (Or.inl ⟨by rfl, ?_⟩) hHeld ?_ ?_
    rotate_left
    · rintro w' ⟨s0, s1, s2, s3⟩
      go_simp
      with_reducible rfl
    rotate_left
    · simp only [Act.put, List.setIfInBounds_toArray, List.set_cons_zero, List.set_cons_succ, i64_w, i32_w]
      rfl
    refine pure_ (i := 4) (N := some 41) (v := ?_) (a' := ?_) #[true, true, true, true, true, true, false, true, false, false, false, false, false, false] rfl rfl (any_of HT_.out (by kernel_rfl)) (fun _ _ _ h => h) (Or.inl ⟨by rfl, ?_⟩) ?_ ?_
    rotate_left
    · intro w'
      go_simp
      with_reducible rfl
    rotate_left
    · simp only [Act.put, List.setIfInBounds_toArray, List.set_cons_zero, List.set_cons_succ, i64_w, i32_w]
      rfl
    refine take_ (i := 6) (N := some 43) (v := ?_) (a' := ?_) #[true, true, true, true, true, true, true, true, false, false, false, false, false, false] rfl rfl (take_ofW HT_.out HW_.out (by kernel_rfl)) (fun _ _ _ h => h) (Or.inl ⟨by rfl, ?_⟩) hHeld ?_ ?_
    rotate_left
    · rintro w' ⟨s0, s1, s2, s3⟩
      go_simp
      with_reducible rfl
    rotate_left
    · simp only [Act.put, List.setIfInBounds_toArray, List.set_cons_zero, List.set_cons_succ, i64_w, i32_w]
      rfl
    refine take_ (i := 8) (N := some 45) (v := ?_) (a' := ?_) #[true, true, true, true, true, true, true, true, true, false, false, false, false, false] rfl rfl (take_ofW HT_.out HW_.out (by kernel_rfl)) (fun _ _ _ h => h) (Or.inl ⟨by rfl, ?_⟩) hHeld ?_ ?_
    rotate_left
    · rintro w' ⟨s0, s1, s2, s3⟩
      go_simp
      with_reducible rfl
    rotate_left
    · simp only [Act.put, List.setIfInBounds_toArray, List.set_cons_zero, List.set_cons_succ, i64_w, i32_w]
      rfl
    refine pure_ (i := 9) (N := some 46) (v := ?_) (a' := ?_) #[true, true, true, true, true, true, true, true, true, true, false, false, false, false] rfl rfl (any_of HT_.out (by kernel_rfl)) (fun _ _ _ h => h) (Or.inl ⟨by rfl, ?_⟩) ?_ ?_
    rotate_left
    · intro w'
      go_simp
      with_reducible rfl
    rotate_left
    · simp only [Act.put, List.setIfInBounds_toArray, List.set_cons_zero, List.set_cons_succ, i64_w, i32_w]
      rfl
    refine join_ (σ := Nat × Nat) 2 #[true, true, true, true, true, true, true, true, true, true, true, true, false, false] (fun s_ => [(11, .pointer (some ⟨s_.1, 0, none⟩)), (12, .pointer (some ⟨s_.2, 0, none⟩))]) (fun s_ w' => (w'.cell? ⟨gb273, 0, none⟩ = some (.int .i64 (wrap64 ((wrap64 (t268 + 1)) + t271))) ∧ w'.cell? ⟨gb273, 1, none⟩ = some (.int .i64 (wrap64 ((wrap64 (t269 + 1)) + t272))) ∧ w'.cell? ⟨gb270, 0, none⟩ = some (.int .i64 t268) ∧ w'.cell? ⟨gb270, 1, none⟩ = some (.int .i64 t269)) ∧ (w'.heap[gb270]? = some (.cells #[.int .i64 t268, .int .i64 t269] 40 (0, 0))) ∧ (w'.heap[gb273]? = some (.cells #[.int .i64 (wrap64 ((wrap64 (t268 + 1)) + t271)), .int .i64 (wrap64 ((wrap64 (t269 + 1)) + t272))] 40 (0, 0))) ∧ (w'.heap[s_.1]? = some (.cells #[.int .i64 0, .int .i64 0] 40 (0, 0))) ∧ (w'.heap[s_.2]? = some (.cells #[.int .i64 0, .int .i64 0] 40 (0, 0))) ∧ (w.heap.size ≤ s_.1) ∧ (w.heap.size ≤ s_.1) ∧ (gb270 ≠ s_.1) ∧ (s_.1 ≠ gb270) ∧ (gb273 ≠ s_.1) ∧ (s_.1 ≠ gb273) ∧ (s_.2 ≠ s_.1) ∧ (s_.1 ≠ s_.2) ∧ (w.heap.size ≤ s_.2) ∧ (w.heap.size ≤ s_.2) ∧ (gb270 ≠ s_.2) ∧ (s_.2 ≠ gb270) ∧ (gb273 ≠ s_.2) ∧ (s_.2 ≠ gb273) ∧ (Below w.heap.size w w')) ?_ ?_
    rotate_left
    · intro hCont
      refine two_ (i := 10) (j := 11) (Ni := some 11) (Nj := some 12) #[true, true, true, true, true, true, true, true, true, true, true, false, false, false] #[true, true, true, true, true, true, true, true, true, true, false, true, false, false] rfl rfl rfl rfl (two_of HT_.out (by kernel_rfl)) (by decide) (by decide) (fun K hK => ?_) (fun K hK => ?_)
      · skip
        refine box_step ?hg (N := 11) ?hd (cs := #[.int .i64 0, .int .i64 0]) (t := 40) ?hr ?_; (case hd => rfl); (case hg => rfl); (case hr => first | (go_simp; done) | (go_simp; rfl))
        intro gb274 hg w26 hbox hb
        have n0_ := Aside0.mk (blk_below (g := gb270) (o := .cells #[.int .i64 t268, .int .i64 t269] 40 (0, 0)) (by (with_reducible repeat (first | refine blk_drewN ?_ _ | refine blk_drew ?_ | refine blk_alloc ?_ _)); exact BK270.out) hb)
        have n1_ := Aside0.mk (blk_below (g := gb273) (o := .cells #[.int .i64 (wrap64 ((wrap64 (t268 + 1)) + t271)), .int .i64 (wrap64 ((wrap64 (t269 + 1)) + t272))] 40 (0, 0)) (by (with_reducible repeat (first | refine blk_drewN ?_ _ | refine blk_drew ?_ | refine blk_alloc ?_ _)); exact BK273.out) hb)
        have n2_ := Aside0.mk (below_step (by repeat (first | (with_reducible first | exact HB.out | apply below_alloc | apply pw_below_drewN | apply below_drew1 | refine below_set ?_ GE270.out | refine below_set ?_ GE273.out) | exact HB.out)) hb)
        have n3_ := Aside0.mk (hbox)
        have n4_ := Aside0.mk ((by rw [hg]; exact (below_size (by repeat (first | (with_reducible first | exact HB.out | apply below_alloc | apply pw_below_drewN | apply below_drew1 | refine below_set ?_ GE270.out | refine below_set ?_ GE273.out) | exact HB.out))) : w.heap.size ≤ gb274))
        have n5_ := Aside0.mk ((by rw [hg]; exact (below_size (by repeat (first | (with_reducible first | exact HB.out | apply below_alloc | apply pw_below_drewN | apply below_drew1 | refine below_set ?_ GE270.out | refine below_set ?_ GE273.out) | exact HB.out))) : w.heap.size ≤ gb274))
        have n6_ := Aside0.mk ((by rw [hg]; exact Nat.ne_of_lt (blk_lt (g := gb270) (o := .cells #[.int .i64 t268, .int .i64 t269] 40 (0, 0)) (by (with_reducible repeat (first | refine blk_drewN ?_ _ | refine blk_drew ?_ | refine blk_alloc ?_ _)); exact BK270.out)) : gb270 ≠ gb274))
        have n7_ := Aside0.mk ((by rw [hg]; exact Nat.ne_of_gt (blk_lt (g := gb270) (o := .cells #[.int .i64 t268, .int .i64 t269] 40 (0, 0)) (by (with_reducible repeat (first | refine blk_drewN ?_ _ | refine blk_drew ?_ | refine blk_alloc ?_ _)); exact BK270.out)) : gb274 ≠ gb270))
        have n8_ := Aside0.mk ((by rw [hg]; exact Nat.ne_of_lt (blk_lt (g := gb273) (o := .cells #[.int .i64 (wrap64 ((wrap64 (t268 + 1)) + t271)), .int .i64 (wrap64 ((wrap64 (t269 + 1)) + t272))] 40 (0, 0)) (by (with_reducible repeat (first | refine blk_drewN ?_ _ | refine blk_drew ?_ | refine blk_alloc ?_ _)); exact BK273.out)) : gb273 ≠ gb274))
        have n9_ := Aside0.mk ((by rw [hg]; exact Nat.ne_of_gt (blk_lt (g := gb273) (o := .cells #[.int .i64 (wrap64 ((wrap64 (t268 + 1)) + t271)), .int .i64 (wrap64 ((wrap64 (t269 + 1)) + t272))] 40 (0, 0)) (by (with_reducible repeat (first | refine blk_drewN ?_ _ | refine blk_drew ?_ | refine blk_alloc ?_ _)); exact BK273.out)) : gb274 ≠ gb273))
        clear BK270
        clear BK273
        clear HB
        have BK270 := n0_
        have BK273 := n1_
        have HB := n2_
        have BK274 := n3_
        have GW274 := n4_
        have GE274 := n5_
        have NB270_274 := n6_
        have NB274_270 := n7_
        have NB273_274 := n8_
        have NB274_273 := n9_
        clear n0_ n1_ n2_ n3_ n4_ n5_ n6_ n7_ n8_ n9_
        clear hb hbox hg
        refine hK.out _ _ ⟨(blk_cell BK273.out 0).trans rfl, (blk_cell BK273.out 1).trans rfl, (blk_cell BK270.out 0).trans rfl, (blk_cell BK270.out 1).trans rfl⟩ (fun hHeld => ?_)
        clear hK K
        refine norm_ (a' := ?_) ?_ ?_
        rotate_left
        · show Act.put _ (some 11) _ = _
          simp only [Act.put, List.setIfInBounds_toArray, List.set_cons_zero, List.set_cons_succ, i64_w, i32_w]
          rfl
        refine one_ (i := 11) (N := some 12) #[true, true, true, true, true, true, true, true, true, true, true, true, false, false] rfl rfl (one_of HT_.out (by kernel_rfl)) (by decide) (fun K hK => ?_)
        refine box_step ?hg (N := 12) ?hd (cs := #[.int .i64 0, .int .i64 0]) (t := 40) ?hr ?_; (case hd => rfl); (case hg => rfl); (case hr => first | (go_simp; done) | (go_simp; rfl))
        intro gb275 hg w27 hbox hb
        have n0_ := Aside0.mk (blk_below (g := gb270) (o := .cells #[.int .i64 t268, .int .i64 t269] 40 (0, 0)) (by (with_reducible repeat (first | refine blk_drewN ?_ _ | refine blk_drew ?_ | refine blk_alloc ?_ _)); exact BK270.out) hb)
        have n1_ := Aside0.mk (blk_below (g := gb273) (o := .cells #[.int .i64 (wrap64 ((wrap64 (t268 + 1)) + t271)), .int .i64 (wrap64 ((wrap64 (t269 + 1)) + t272))] 40 (0, 0)) (by (with_reducible repeat (first | refine blk_drewN ?_ _ | refine blk_drew ?_ | refine blk_alloc ?_ _)); exact BK273.out) hb)
        have n2_ := Aside0.mk (blk_below (g := gb274) (o := .cells #[.int .i64 0, .int .i64 0] 40 (0, 0)) (by (with_reducible repeat (first | refine blk_drewN ?_ _ | refine blk_drew ?_ | refine blk_alloc ?_ _)); exact BK274.out) hb)
        have n3_ := Aside0.mk (below_step (by repeat (first | (with_reducible first | exact HB.out | apply below_alloc | apply pw_below_drewN | apply below_drew1 | refine below_set ?_ GE270.out | refine below_set ?_ GE273.out | refine below_set ?_ GE274.out) | exact HB.out)) hb)
        have n4_ := Aside0.mk (hbox)
        have n5_ := Aside0.mk ((by rw [hg]; exact (below_size (by repeat (first | (with_reducible first | exact HB.out | apply below_alloc | apply pw_below_drewN | apply below_drew1 | refine below_set ?_ GE270.out | refine below_set ?_ GE273.out | refine below_set ?_ GE274.out) | exact HB.out))) : w.heap.size ≤ gb275))
        have n6_ := Aside0.mk ((by rw [hg]; exact (below_size (by repeat (first | (with_reducible first | exact HB.out | apply below_alloc | apply pw_below_drewN | apply below_drew1 | refine below_set ?_ GE270.out | refine below_set ?_ GE273.out | refine below_set ?_ GE274.out) | exact HB.out))) : w.heap.size ≤ gb275))
        have n7_ := Aside0.mk ((by rw [hg]; exact Nat.ne_of_lt (blk_lt (g := gb270) (o := .cells #[.int .i64 t268, .int .i64 t269] 40 (0, 0)) (by (with_reducible repeat (first | refine blk_drewN ?_ _ | refine blk_drew ?_ | refine blk_alloc ?_ _)); exact BK270.out)) : gb270 ≠ gb275))
        have n8_ := Aside0.mk ((by rw [hg]; exact Nat.ne_of_gt (blk_lt (g := gb270) (o := .cells #[.int .i64 t268, .int .i64 t269] 40 (0, 0)) (by (with_reducible repeat (first | refine blk_drewN ?_ _ | refine blk_drew ?_ | refine blk_alloc ?_ _)); exact BK270.out)) : gb275 ≠ gb270))
        have n9_ := Aside0.mk ((by rw [hg]; exact Nat.ne_of_lt (blk_lt (g := gb273) (o := .cells #[.int .i64 (wrap64 ((wrap64 (t268 + 1)) + t271)), .int .i64 (wrap64 ((wrap64 (t269 + 1)) + t272))] 40 (0, 0)) (by (with_reducible repeat (first | refine blk_drewN ?_ _ | refine blk_drew ?_ | refine blk_alloc ?_ _)); exact BK273.out)) : gb273 ≠ gb275))
        have n10_ := Aside0.mk ((by rw [hg]; exact Nat.ne_of_gt (blk_lt (g := gb273) (o := .cells #[.int .i64 (wrap64 ((wrap64 (t268 + 1)) + t271)), .int .i64 (wrap64 ((wrap64 (t269 + 1)) + t272))] 40 (0, 0)) (by (with_reducible repeat (first | refine blk_drewN ?_ _ | refine blk_drew ?_ | refine blk_alloc ?_ _)); exact BK273.out)) : gb275 ≠ gb273))
        have n11_ := Aside0.mk ((by rw [hg]; exact Nat.ne_of_lt (blk_lt (g := gb274) (o := .cells #[.int .i64 0, .int .i64 0] 40 (0, 0)) (by (with_reducible repeat (first | refine blk_drewN ?_ _ | refine blk_drew ?_ | refine blk_alloc ?_ _)); exact BK274.out)) : gb274 ≠ gb275))
        have n12_ := Aside0.mk ((by rw [hg]; exact Nat.ne_of_gt (blk_lt (g := gb274) (o := .cells #[.int .i64 0, .int .i64 0] 40 (0, 0)) (by (with_reducible repeat (first | refine blk_drewN ?_ _ | refine blk_drew ?_ | refine blk_alloc ?_ _)); exact BK274.out)) : gb275 ≠ gb274))
        clear BK270
        clear BK273
        clear BK274
        clear HB
        have BK270 := n0_
        have BK273 := n1_
        have BK274 := n2_
        have HB := n3_
        have BK275 := n4_
        have GW275 := n5_
        have GE275 := n6_
        have NB270_275 := n7_
        have NB275_270 := n8_
        have NB273_275 := n9_
        have NB275_273 := n10_
        have NB274_275 := n11_
        have NB275_274 := n12_
        clear n0_ n1_ n2_ n3_ n4_ n5_ n6_ n7_ n8_ n9_ n10_ n11_ n12_
        clear hb hbox hg
        refine hK.out _ _ ⟨(blk_cell BK273.out 0).trans rfl, (blk_cell BK273.out 1).trans rfl, (blk_cell BK270.out 0).trans rfl, (blk_cell BK270.out 1).trans rfl⟩ (fun hHeld => ?_)
        clear hK K
        refine norm_ (a' := ?_) ?_ ?_
        rotate_left
        · show Act.put _ (some 12) _ = _
          simp only [Act.put, List.setIfInBounds_toArray, List.set_cons_zero, List.set_cons_succ, i64_w, i32_w]
          rfl
        exact norm_ (by simp only [putAll, Act.put, List.setIfInBounds_toArray, List.set_cons_zero, List.set_cons_succ]) (hCont (gb274, gb275) _ ⟨hHeld, (by (with_reducible repeat (first | refine blk_drewN ?_ _ | refine blk_drew ?_ | refine blk_alloc ?_ _)); exact BK270.out), (by (with_reducible repeat (first | refine blk_drewN ?_ _ | refine blk_drew ?_ | refine blk_alloc ?_ _)); exact BK273.out), (by (with_reducible repeat (first | refine blk_drewN ?_ _ | refine blk_drew ?_ | refine blk_alloc ?_ _)); exact BK274.out), (by (with_reducible repeat (first | refine blk_drewN ?_ _ | refine blk_drew ?_ | refine blk_alloc ?_ _)); exact BK275.out), GW274.out, GE274.out, NB270_274.out, NB274_270.out, NB273_274.out, NB274_273.out, NB275_274.out, NB274_275.out, GW275.out, GE275.out, NB270_275.out, NB275_270.out, NB273_275.out, NB275_273.out, (by repeat (first | (with_reducible first | exact HB.out | apply below_alloc | apply pw_below_drewN | apply below_drew1 | refine below_set ?_ GE270.out | refine below_set ?_ GE273.out | refine below_set ?_ GE274.out | refine below_set ?_ GE275.out) | exact HB.out))⟩)
      · skip
        refine box_step ?hg (N := 12) ?hd (cs := #[.int .i64 0, .int .i64 0]) (t := 40) ?hr ?_; (case hd => rfl); (case hg => rfl); (case hr => first | (go_simp; done) | (go_simp; rfl))
        intro gb275 hg w26 hbox hb
        have n0_ := Aside0.mk (blk_below (g := gb270) (o := .cells #[.int .i64 t268, .int .i64 t269] 40 (0, 0)) (by (with_reducible repeat (first | refine blk_drewN ?_ _ | refine blk_drew ?_ | refine blk_alloc ?_ _)); exact BK270.out) hb)
        have n1_ := Aside0.mk (blk_below (g := gb273) (o := .cells #[.int .i64 (wrap64 ((wrap64 (t268 + 1)) + t271)), .int .i64 (wrap64 ((wrap64 (t269 + 1)) + t272))] 40 (0, 0)) (by (with_reducible repeat (first | refine blk_drewN ?_ _ | refine blk_drew ?_ | refine blk_alloc ?_ _)); exact BK273.out) hb)
        have n2_ := Aside0.mk (below_step (by repeat (first | (with_reducible first | exact HB.out | apply below_alloc | apply pw_below_drewN | apply below_drew1 | refine below_set ?_ GE270.out | refine below_set ?_ GE273.out) | exact HB.out)) hb)
        have n3_ := Aside0.mk (hbox)
        have n4_ := Aside0.mk ((by rw [hg]; exact (below_size (by repeat (first | (with_reducible first | exact HB.out | apply below_alloc | apply pw_below_drewN | apply below_drew1 | refine below_set ?_ GE270.out | refine below_set ?_ GE273.out) | exact HB.out))) : w.heap.size ≤ gb275))
        have n5_ := Aside0.mk ((by rw [hg]; exact (below_size (by repeat (first | (with_reducible first | exact HB.out | apply below_alloc | apply pw_below_drewN | apply below_drew1 | refine below_set ?_ GE270.out | refine below_set ?_ GE273.out) | exact HB.out))) : w.heap.size ≤ gb275))
        have n6_ := Aside0.mk ((by rw [hg]; exact Nat.ne_of_lt (blk_lt (g := gb270) (o := .cells #[.int .i64 t268, .int .i64 t269] 40 (0, 0)) (by (with_reducible repeat (first | refine blk_drewN ?_ _ | refine blk_drew ?_ | refine blk_alloc ?_ _)); exact BK270.out)) : gb270 ≠ gb275))
        have n7_ := Aside0.mk ((by rw [hg]; exact Nat.ne_of_gt (blk_lt (g := gb270) (o := .cells #[.int .i64 t268, .int .i64 t269] 40 (0, 0)) (by (with_reducible repeat (first | refine blk_drewN ?_ _ | refine blk_drew ?_ | refine blk_alloc ?_ _)); exact BK270.out)) : gb275 ≠ gb270))
        have n8_ := Aside0.mk ((by rw [hg]; exact Nat.ne_of_lt (blk_lt (g := gb273) (o := .cells #[.int .i64 (wrap64 ((wrap64 (t268 + 1)) + t271)), .int .i64 (wrap64 ((wrap64 (t269 + 1)) + t272))] 40 (0, 0)) (by (with_reducible repeat (first | refine blk_drewN ?_ _ | refine blk_drew ?_ | refine blk_alloc ?_ _)); exact BK273.out)) : gb273 ≠ gb275))
        have n9_ := Aside0.mk ((by rw [hg]; exact Nat.ne_of_gt (blk_lt (g := gb273) (o := .cells #[.int .i64 (wrap64 ((wrap64 (t268 + 1)) + t271)), .int .i64 (wrap64 ((wrap64 (t269 + 1)) + t272))] 40 (0, 0)) (by (with_reducible repeat (first | refine blk_drewN ?_ _ | refine blk_drew ?_ | refine blk_alloc ?_ _)); exact BK273.out)) : gb275 ≠ gb273))
        clear BK270
        clear BK273
        clear HB
        have BK270 := n0_
        have BK273 := n1_
        have HB := n2_
        have BK275 := n3_
        have GW275 := n4_
        have GE275 := n5_
        have NB270_275 := n6_
        have NB275_270 := n7_
        have NB273_275 := n8_
        have NB275_273 := n9_
        clear n0_ n1_ n2_ n3_ n4_ n5_ n6_ n7_ n8_ n9_
        clear hb hbox hg
        refine hK.out _ _ ⟨(blk_cell BK273.out 0).trans rfl, (blk_cell BK273.out 1).trans rfl, (blk_cell BK270.out 0).trans rfl, (blk_cell BK270.out 1).trans rfl⟩ (fun hHeld => ?_)
        clear hK K
        refine norm_ (a' := ?_) ?_ ?_
        rotate_left
        · show Act.put _ (some 12) _ = _
          simp only [Act.put, List.setIfInBounds_toArray, List.set_cons_zero, List.set_cons_succ, i64_w, i32_w]
          rfl
        refine one_ (i := 10) (N := some 11) #[true, true, true, true, true, true, true, true, true, true, true, true, false, false] rfl rfl (one_of HT_.out (by kernel_rfl)) (by decide) (fun K hK => ?_)
        refine box_step ?hg (N := 11) ?hd (cs := #[.int .i64 0, .int .i64 0]) (t := 40) ?hr ?_; (case hd => rfl); (case hg => rfl); (case hr => first | (go_simp; done) | (go_simp; rfl))
        intro gb274 hg w27 hbox hb
        have n0_ := Aside0.mk (blk_below (g := gb270) (o := .cells #[.int .i64 t268, .int .i64 t269] 40 (0, 0)) (by (with_reducible repeat (first | refine blk_drewN ?_ _ | refine blk_drew ?_ | refine blk_alloc ?_ _)); exact BK270.out) hb)
        have n1_ := Aside0.mk (blk_below (g := gb273) (o := .cells #[.int .i64 (wrap64 ((wrap64 (t268 + 1)) + t271)), .int .i64 (wrap64 ((wrap64 (t269 + 1)) + t272))] 40 (0, 0)) (by (with_reducible repeat (first | refine blk_drewN ?_ _ | refine blk_drew ?_ | refine blk_alloc ?_ _)); exact BK273.out) hb)
        have n2_ := Aside0.mk (blk_below (g := gb275) (o := .cells #[.int .i64 0, .int .i64 0] 40 (0, 0)) (by (with_reducible repeat (first | refine blk_drewN ?_ _ | refine blk_drew ?_ | refine blk_alloc ?_ _)); exact BK275.out) hb)
        have n3_ := Aside0.mk (below_step (by repeat (first | (with_reducible first | exact HB.out | apply below_alloc | apply pw_below_drewN | apply below_drew1 | refine below_set ?_ GE270.out | refine below_set ?_ GE273.out | refine below_set ?_ GE275.out) | exact HB.out)) hb)
        have n4_ := Aside0.mk (hbox)
        have n5_ := Aside0.mk ((by rw [hg]; exact (below_size (by repeat (first | (with_reducible first | exact HB.out | apply below_alloc | apply pw_below_drewN | apply below_drew1 | refine below_set ?_ GE270.out | refine below_set ?_ GE273.out | refine below_set ?_ GE275.out) | exact HB.out))) : w.heap.size ≤ gb274))
        have n6_ := Aside0.mk ((by rw [hg]; exact (below_size (by repeat (first | (with_reducible first | exact HB.out | apply below_alloc | apply pw_below_drewN | apply below_drew1 | refine below_set ?_ GE270.out | refine below_set ?_ GE273.out | refine below_set ?_ GE275.out) | exact HB.out))) : w.heap.size ≤ gb274))
        have n7_ := Aside0.mk ((by rw [hg]; exact Nat.ne_of_lt (blk_lt (g := gb270) (o := .cells #[.int .i64 t268, .int .i64 t269] 40 (0, 0)) (by (with_reducible repeat (first | refine blk_drewN ?_ _ | refine blk_drew ?_ | refine blk_alloc ?_ _)); exact BK270.out)) : gb270 ≠ gb274))
        have n8_ := Aside0.mk ((by rw [hg]; exact Nat.ne_of_gt (blk_lt (g := gb270) (o := .cells #[.int .i64 t268, .int .i64 t269] 40 (0, 0)) (by (with_reducible repeat (first | refine blk_drewN ?_ _ | refine blk_drew ?_ | refine blk_alloc ?_ _)); exact BK270.out)) : gb274 ≠ gb270))
        have n9_ := Aside0.mk ((by rw [hg]; exact Nat.ne_of_lt (blk_lt (g := gb273) (o := .cells #[.int .i64 (wrap64 ((wrap64 (t268 + 1)) + t271)), .int .i64 (wrap64 ((wrap64 (t269 + 1)) + t272))] 40 (0, 0)) (by (with_reducible repeat (first | refine blk_drewN ?_ _ | refine blk_drew ?_ | refine blk_alloc ?_ _)); exact BK273.out)) : gb273 ≠ gb274))
        have n10_ := Aside0.mk ((by rw [hg]; exact Nat.ne_of_gt (blk_lt (g := gb273) (o := .cells #[.int .i64 (wrap64 ((wrap64 (t268 + 1)) + t271)), .int .i64 (wrap64 ((wrap64 (t269 + 1)) + t272))] 40 (0, 0)) (by (with_reducible repeat (first | refine blk_drewN ?_ _ | refine blk_drew ?_ | refine blk_alloc ?_ _)); exact BK273.out)) : gb274 ≠ gb273))
        have n11_ := Aside0.mk ((by rw [hg]; exact Nat.ne_of_lt (blk_lt (g := gb275) (o := .cells #[.int .i64 0, .int .i64 0] 40 (0, 0)) (by (with_reducible repeat (first | refine blk_drewN ?_ _ | refine blk_drew ?_ | refine blk_alloc ?_ _)); exact BK275.out)) : gb275 ≠ gb274))
        have n12_ := Aside0.mk ((by rw [hg]; exact Nat.ne_of_gt (blk_lt (g := gb275) (o := .cells #[.int .i64 0, .int .i64 0] 40 (0, 0)) (by (with_reducible repeat (first | refine blk_drewN ?_ _ | refine blk_drew ?_ | refine blk_alloc ?_ _)); exact BK275.out)) : gb274 ≠ gb275))
        clear BK270
        clear BK273
        clear BK275
        clear HB
        have BK270 := n0_
        have BK273 := n1_
        have BK275 := n2_
        have HB := n3_
        have BK274 := n4_
        have GW274 := n5_
        have GE274 := n6_
        have NB270_274 := n7_
        have NB274_270 := n8_
        have NB273_274 := n9_
        have NB274_273 := n10_
        have NB275_274 := n11_
        have NB274_275 := n12_
        clear n0_ n1_ n2_ n3_ n4_ n5_ n6_ n7_ n8_ n9_ n10_ n11_ n12_
        clear hb hbox hg
        refine hK.out _ _ ⟨(blk_cell BK273.out 0).trans rfl, (blk_cell BK273.out 1).trans rfl, (blk_cell BK270.out 0).trans rfl, (blk_cell BK270.out 1).trans rfl⟩ (fun hHeld => ?_)
        clear hK K
        refine norm_ (a' := ?_) ?_ ?_
        rotate_left
        · show Act.put _ (some 11) _ = _
          simp only [Act.put, List.setIfInBounds_toArray, List.set_cons_zero, List.set_cons_succ, i64_w, i32_w]
          rfl
        exact norm_ (by simp only [putAll, Act.put, List.setIfInBounds_toArray, List.set_cons_zero, List.set_cons_succ]) (hCont (gb274, gb275) _ ⟨hHeld, (by (with_reducible repeat (first | refine blk_drewN ?_ _ | refine blk_drew ?_ | refine blk_alloc ?_ _)); exact BK270.out), (by (with_reducible repeat (first | refine blk_drewN ?_ _ | refine blk_drew ?_ | refine blk_alloc ?_ _)); exact BK273.out), (by (with_reducible repeat (first | refine blk_drewN ?_ _ | refine blk_drew ?_ | refine blk_alloc ?_ _)); exact BK274.out), (by (with_reducible repeat (first | refine blk_drewN ?_ _ | refine blk_drew ?_ | refine blk_alloc ?_ _)); exact BK275.out), GW274.out, GE274.out, NB270_274.out, NB274_270.out, NB273_274.out, NB274_273.out, NB275_274.out, NB274_275.out, GW275.out, GE275.out, NB270_275.out, NB275_270.out, NB273_275.out, NB275_273.out, (by repeat (first | (with_reducible first | exact HB.out | apply below_alloc | apply pw_below_drewN | apply below_drew1 | refine below_set ?_ GE270.out | refine below_set ?_ GE273.out | refine below_set ?_ GE275.out | refine below_set ?_ GE274.out) | exact HB.out))⟩)
    rintro ⟨gb274, gb275⟩ w28 ⟨hS_, h0_, h1_, h2_, h3_, h4_, h5_, h6_, h7_, h8_, h9_, h10_, h11_, h12_, h13_, h14_, h15_, h16_, h17_, h18_⟩
    have n0_ : Aside0 (w28.heap[gb270]? = some (.cells #[.int .i64 t268, .int .i64 t269] 40 (0, 0))) := ⟨h0_⟩
    have n1_ : Aside0 (w28.heap[gb273]? = some (.cells #[.int .i64 (wrap64 ((wrap64 (t268 + 1)) + t271)), .int .i64 (wrap64 ((wrap64 (t269 + 1)) + t272))] 40 (0, 0))) := ⟨h1_⟩
    have n2_ : Aside0 (w28.heap[gb274]? = some (.cells #[.int .i64 0, .int .i64 0] 40 (0, 0))) := ⟨h2_⟩
    have n3_ : Aside0 (w28.heap[gb275]? = some (.cells #[.int .i64 0, .int .i64 0] 40 (0, 0))) := ⟨h3_⟩
    have n4_ : Aside0 (w.heap.size ≤ gb274) := ⟨h4_⟩
    have n5_ : Aside0 (w.heap.size ≤ gb274) := ⟨h5_⟩
    have n6_ : Aside0 (gb270 ≠ gb274) := ⟨h6_⟩
    have n7_ : Aside0 (gb274 ≠ gb270) := ⟨h7_⟩
    have n8_ : Aside0 (gb273 ≠ gb274) := ⟨h8_⟩
    have n9_ : Aside0 (gb274 ≠ gb273) := ⟨h9_⟩
    have n10_ : Aside0 (gb275 ≠ gb274) := ⟨h10_⟩
    have n11_ : Aside0 (gb274 ≠ gb275) := ⟨h11_⟩
    have n12_ : Aside0 (w.heap.size ≤ gb275) := ⟨h12_⟩
    have n13_ : Aside0 (w.heap.size ≤ gb275) := ⟨h13_⟩
    have n14_ : Aside0 (gb270 ≠ gb275) := ⟨h14_⟩
    have n15_ : Aside0 (gb275 ≠ gb270) := ⟨h15_⟩
    have n16_ : Aside0 (gb273 ≠ gb275) := ⟨h16_⟩
    have n17_ : Aside0 (gb275 ≠ gb273) := ⟨h17_⟩
    have n18_ : Aside0 (Below w.heap.size w w28) := ⟨h18_⟩
    clear BK270
    clear BK273
    clear HB
    clear h0_ h1_ h2_ h3_ h4_ h5_ h6_ h7_ h8_ h9_ h10_ h11_ h12_ h13_ h14_ h15_ h16_ h17_ h18_
    have BK270 := n0_
    have BK273 := n1_
    have BK274 := n2_
    have BK275 := n3_
    have GW274 := n4_
    have GE274 := n5_
    have NB270_274 := n6_
    have NB274_270 := n7_
    have NB273_274 := n8_
    have NB274_273 := n9_
    have NB275_274 := n10_
    have NB274_275 := n11_
    have GW275 := n12_
    have GE275 := n13_
    have NB270_275 := n14_
    have NB275_270 := n15_
    have NB273_275 := n16_
    have NB275_273 := n17_
    have HB := n18_
    clear n0_ n1_ n2_ n3_ n4_ n5_ n6_ n7_ n8_ n9_ n10_ n11_ n12_ n13_ n14_ n15_ n16_ n17_ n18_
    have hHeld : w28.cell? ⟨gb273, 0, none⟩ = some (.int .i64 (wrap64 ((wrap64 (t268 + 1)) + t271))) ∧ w28.cell? ⟨gb273, 1, none⟩ = some (.int .i64 (wrap64 ((wrap64 (t269 + 1)) + t272))) ∧ w28.cell? ⟨gb270, 0, none⟩ = some (.int .i64 t268) ∧ w28.cell? ⟨gb270, 1, none⟩ = some (.int .i64 t269) := hS_
    refine norm_ (a' := ?_) ?_ ?_
    rotate_left
    · simp only [putAll, Act.put, List.setIfInBounds_toArray, List.set_cons_zero, List.set_cons_succ]
      rfl
    refine one_ (i := 12) (N := none) #[true, true, true, true, true, true, true, true, true, true, true, true, true, false] rfl rfl (one_of HT_.out (by kernel_rfl)) (by decide) (fun K hK => ?_)
    have hs29 : w28.cell? ⟨gb274, 0, none⟩ = some (.int .i64 0) := (blk_cell BK274.out 0).trans rfl
    have hfs29 := blk_frozen BK274.out 0
    have hns29_0 := NB270_274.out
    have hns29_1 := NB273_274.out
    have hns29_3 := NB275_274.out
    have hms29_0 := NB274_270.out
    have hms29_1 := NB274_273.out
    have hms29_3 := NB274_275.out
    have hs30 : w28.cell? ⟨gb274, 1, none⟩ = some (.int .i64 0) := (blk_cell BK274.out 1).trans rfl
    have hfs30 := blk_frozen BK274.out 1
    have hns30_0 := NB270_274.out
    have hns30_1 := NB273_274.out
    have hns30_3 := NB275_274.out
    have hms30_0 := NB274_270.out
    have hms30_1 := NB274_273.out
    have hms30_3 := NB274_275.out
    refine skip_ (w1 := ?_) (by rfl) rfl ?_ ?_
    rotate_left
    · go_simp
      rfl
    refine hK.out _ _ ⟨((cell_far (p := ⟨gb274, _, none⟩) NB273_274.out _).trans (((cell_far (p := ⟨gb274, _, none⟩) NB273_274.out _).trans (hHeld.1)))), ((cell_far (p := ⟨gb274, _, none⟩) NB273_274.out _).trans (((cell_far (p := ⟨gb274, _, none⟩) NB273_274.out _).trans (hHeld.2.1)))), ((cell_far (p := ⟨gb274, _, none⟩) NB270_274.out _).trans (((cell_far (p := ⟨gb274, _, none⟩) NB270_274.out _).trans (hHeld.2.2.1)))), ((cell_far (p := ⟨gb274, _, none⟩) NB270_274.out _).trans (((cell_far (p := ⟨gb274, _, none⟩) NB270_274.out _).trans (hHeld.2.2.2))))⟩ (fun hHeld => ?_)
    clear hK K
    refine one_ (i := 13) (N := none) #[true, true, true, true, true, true, true, true, true, true, true, true, true, true] rfl rfl (one_of HT_.out (by kernel_rfl)) (by decide) (fun K hK => ?_)
    have hs31 : w28.cell? ⟨gb275, 0, none⟩ = some (.int .i64 0) := (blk_cell BK275.out 0).trans rfl
    have hfs31 := blk_frozen BK275.out 0
    have hns31_0 := NB270_275.out
    have hns31_1 := NB273_275.out
    have hns31_2 := NB274_275.out
    have hms31_0 := NB275_270.out
    have hms31_1 := NB275_273.out
    have hms31_2 := NB275_274.out
    have hs32 : w28.cell? ⟨gb275, 1, none⟩ = some (.int .i64 0) := (blk_cell BK275.out 1).trans rfl
    have hfs32 := blk_frozen BK275.out 1
    have hns32_0 := NB270_275.out
    have hns32_1 := NB273_275.out
    have hns32_2 := NB274_275.out
    have hms32_0 := NB275_270.out
    have hms32_1 := NB275_273.out
    have hms32_2 := NB275_274.out
    refine skip_ (w1 := ?_) (by rfl) rfl ?_ ?_
    rotate_left
    · go_simp
      rfl
    refine hK.out _ _ ⟨((cell_far (p := ⟨gb275, _, none⟩) NB273_275.out _).trans (((cell_far (p := ⟨gb275, _, none⟩) NB273_275.out _).trans (hHeld.1)))), ((cell_far (p := ⟨gb275, _, none⟩) NB273_275.out _).trans (((cell_far (p := ⟨gb275, _, none⟩) NB273_275.out _).trans (hHeld.2.1)))), ((cell_far (p := ⟨gb275, _, none⟩) NB270_275.out _).trans (((cell_far (p := ⟨gb275, _, none⟩) NB270_275.out _).trans (hHeld.2.2.1)))), ((cell_far (p := ⟨gb275, _, none⟩) NB270_275.out _).trans (((cell_far (p := ⟨gb275, _, none⟩) NB270_275.out _).trans (hHeld.2.2.2))))⟩ (fun hHeld => ?_)
    clear hK K
    refine done_ (done_of HT_.out (by kernel_rfl)) ?_
    try go_wp2
    have n0_ : Aside0 (((((w28.setCell ⟨gb274, 0, none⟩ (.int .i64 (wrap64 ((wrap64 (t268 + 1)) + t271)))).setCell ⟨gb274, 1, none⟩ (.int .i64 t269)).setCell ⟨gb275, 0, none⟩ (.int .i64 t268)).setCell ⟨gb275, 1, none⟩ (.int .i64 (wrap64 ((wrap64 (t269 + 1)) + t272)))).heap[gb270]? = some (.cells #[.int .i64 t268, .int .i64 t269] 40 (0, 0))) := ⟨by (with_reducible repeat (first | refine blk_drewN ?_ _ | refine blk_drew ?_ | refine blk_alloc ?_ _)); refine blk_far ?_ NB270_275.out _; (with_reducible repeat (first | refine blk_drewN ?_ _ | refine blk_drew ?_ | refine blk_alloc ?_ _)); refine blk_far ?_ NB270_275.out _; (with_reducible repeat (first | refine blk_drewN ?_ _ | refine blk_drew ?_ | refine blk_alloc ?_ _)); refine blk_far ?_ NB270_274.out _; (with_reducible repeat (first | refine blk_drewN ?_ _ | refine blk_drew ?_ | refine blk_alloc ?_ _)); refine blk_far ?_ NB270_274.out _; (with_reducible repeat (first | refine blk_drewN ?_ _ | refine blk_drew ?_ | refine blk_alloc ?_ _)); exact BK270.out⟩
    have n1_ : Aside0 (((((w28.setCell ⟨gb274, 0, none⟩ (.int .i64 (wrap64 ((wrap64 (t268 + 1)) + t271)))).setCell ⟨gb274, 1, none⟩ (.int .i64 t269)).setCell ⟨gb275, 0, none⟩ (.int .i64 t268)).setCell ⟨gb275, 1, none⟩ (.int .i64 (wrap64 ((wrap64 (t269 + 1)) + t272)))).heap[gb273]? = some (.cells #[.int .i64 (wrap64 ((wrap64 (t268 + 1)) + t271)), .int .i64 (wrap64 ((wrap64 (t269 + 1)) + t272))] 40 (0, 0))) := ⟨by (with_reducible repeat (first | refine blk_drewN ?_ _ | refine blk_drew ?_ | refine blk_alloc ?_ _)); refine blk_far ?_ NB273_275.out _; (with_reducible repeat (first | refine blk_drewN ?_ _ | refine blk_drew ?_ | refine blk_alloc ?_ _)); refine blk_far ?_ NB273_275.out _; (with_reducible repeat (first | refine blk_drewN ?_ _ | refine blk_drew ?_ | refine blk_alloc ?_ _)); refine blk_far ?_ NB273_274.out _; (with_reducible repeat (first | refine blk_drewN ?_ _ | refine blk_drew ?_ | refine blk_alloc ?_ _)); refine blk_far ?_ NB273_274.out _; (with_reducible repeat (first | refine blk_drewN ?_ _ | refine blk_drew ?_ | refine blk_alloc ?_ _)); exact BK273.out⟩
    have n2_ : Aside0 (((((w28.setCell ⟨gb274, 0, none⟩ (.int .i64 (wrap64 ((wrap64 (t268 + 1)) + t271)))).setCell ⟨gb274, 1, none⟩ (.int .i64 t269)).setCell ⟨gb275, 0, none⟩ (.int .i64 t268)).setCell ⟨gb275, 1, none⟩ (.int .i64 (wrap64 ((wrap64 (t269 + 1)) + t272)))).heap[gb274]? = some (.cells #[.int .i64 (wrap64 ((wrap64 (t268 + 1)) + t271)), .int .i64 t269] 40 (0, 0))) := ⟨by (with_reducible repeat (first | refine blk_drewN ?_ _ | refine blk_drew ?_ | refine blk_alloc ?_ _)); refine blk_far ?_ NB274_275.out _; (with_reducible repeat (first | refine blk_drewN ?_ _ | refine blk_drew ?_ | refine blk_alloc ?_ _)); refine blk_far ?_ NB274_275.out _; (with_reducible repeat (first | refine blk_drewN ?_ _ | refine blk_drew ?_ | refine blk_alloc ?_ _)); refine blk_put (cs := #[.int .i64 (wrap64 ((wrap64 (t268 + 1)) + t271)), .int .i64 0]) ?_ 1 _ rfl; (with_reducible repeat (first | refine blk_drewN ?_ _ | refine blk_drew ?_ | refine blk_alloc ?_ _)); refine blk_put (cs := #[.int .i64 0, .int .i64 0]) ?_ 0 _ rfl; (with_reducible repeat (first | refine blk_drewN ?_ _ | refine blk_drew ?_ | refine blk_alloc ?_ _)); exact BK274.out⟩
    have n3_ : Aside0 (((((w28.setCell ⟨gb274, 0, none⟩ (.int .i64 (wrap64 ((wrap64 (t268 + 1)) + t271)))).setCell ⟨gb274, 1, none⟩ (.int .i64 t269)).setCell ⟨gb275, 0, none⟩ (.int .i64 t268)).setCell ⟨gb275, 1, none⟩ (.int .i64 (wrap64 ((wrap64 (t269 + 1)) + t272)))).heap[gb275]? = some (.cells #[.int .i64 t268, .int .i64 (wrap64 ((wrap64 (t269 + 1)) + t272))] 40 (0, 0))) := ⟨by (with_reducible repeat (first | refine blk_drewN ?_ _ | refine blk_drew ?_ | refine blk_alloc ?_ _)); refine blk_put (cs := #[.int .i64 t268, .int .i64 0]) ?_ 1 _ rfl; (with_reducible repeat (first | refine blk_drewN ?_ _ | refine blk_drew ?_ | refine blk_alloc ?_ _)); refine blk_put (cs := #[.int .i64 0, .int .i64 0]) ?_ 0 _ rfl; (with_reducible repeat (first | refine blk_drewN ?_ _ | refine blk_drew ?_ | refine blk_alloc ?_ _)); refine blk_far ?_ NB275_274.out _; (with_reducible repeat (first | refine blk_drewN ?_ _ | refine blk_drew ?_ | refine blk_alloc ?_ _)); refine blk_far ?_ NB275_274.out _; (with_reducible repeat (first | refine blk_drewN ?_ _ | refine blk_drew ?_ | refine blk_alloc ?_ _)); exact BK275.out⟩
    have n4_ : Aside0 (Below w.heap.size w ((((w28.setCell ⟨gb274, 0, none⟩ (.int .i64 (wrap64 ((wrap64 (t268 + 1)) + t271)))).setCell ⟨gb274, 1, none⟩ (.int .i64 t269)).setCell ⟨gb275, 0, none⟩ (.int .i64 t268)).setCell ⟨gb275, 1, none⟩ (.int .i64 (wrap64 ((wrap64 (t269 + 1)) + t272))))) := ⟨by repeat (first | (with_reducible first | exact HB.out | apply below_alloc | apply pw_below_drewN | apply below_drew1 | refine below_set ?_ GE270.out | refine below_set ?_ GE273.out | refine below_set ?_ GE274.out | refine below_set ?_ GE275.out) | exact HB.out)⟩
    (try clear BK270)
    (try clear BK273)
    (try clear BK274)
    (try clear BK275)
    (try clear HB)
    generalize ((((w28.setCell ⟨gb274, 0, none⟩ (.int .i64 (wrap64 ((wrap64 (t268 + 1)) + t271)))).setCell ⟨gb274, 1, none⟩ (.int .i64 t269)).setCell ⟨gb275, 0, none⟩ (.int .i64 t268)).setCell ⟨gb275, 1, none⟩ (.int .i64 (wrap64 ((wrap64 (t269 + 1)) + t272)))) = w33 at n0_ n1_ n2_ n3_ n4_ ⊢
    have BK270 := n0_
    have BK273 := n1_
    have BK274 := n2_
    have BK275 := n3_
    have HB := n4_
    clear n0_ n1_ n2_ n3_ n4_
    have n0_ := Aside0.mk (blk_drew BK270.out)
    have n1_ := Aside0.mk (blk_drew BK273.out)
    have n2_ := Aside0.mk (blk_drew BK274.out)
    have n3_ := Aside0.mk (blk_drew BK275.out)
    have n4_ := Aside0.mk (below_drew1 HB.out)
    clear BK270
    clear BK273
    clear BK274
    clear BK275
    clear HB
    have BK270 := n0_
    have BK273 := n1_
    have BK274 := n2_
    have BK275 := n3_
    have HB := n4_
    clear n0_ n1_ n2_ n3_ n4_
    refine start_ (n := 22) (S := fun w' => True) (ds := []) #[false, false, false, false, false, false, false, false, false, false, false, false, false, false, false, false, false, false, false, false, false, false] (by kernel_rfl) rfl rfl trivial (fun hHeld => ?_); refine with_tabW terrkeep5_RasterHalves.tab6 terrkeep5_RasterHalves.bits6 (fun HT_ HW_ => ?_)
    generalize w33.drew = w34 at BK270 BK273 BK274 BK275 HB hHeld ⊢
    refine inv_at [0, 1, 2, 3, 4, 5, 6, 7, 8, 9, 10, 11, 12, 13, 14, 15, 16, 17, 18, 19, 20, 21] (fun a0_ b a w' => ∃ (v277 : Value) (v280 : Value) (v283 : Value) (v286 : Value) (v289 : Value) (v292 : Value) (v295 : Value) (v298 : Value) (v301 : Value) (m19_ : Value) (m20_ : Value) (m21_ : Value), a = putSel a0_ b [(0, 47, .agg #[.int .i64 t268, .int .i64 t269]), (1, 48, .agg #[.int .i64 (wrap64 ((wrap64 (t268 + 1)) + t271)), .int .i64 t269]), (2, 49, .agg #[.int .i64 (wrap64 ((wrap64 (t268 + 1)) + t271)), .int .i64 (wrap64 ((wrap64 (t269 + 1)) + t272))]), (3, 50, v277), (4, 51, v280), (5, 52, v283), (6, 53, .agg #[.int .i64 t268, .int .i64 t269]), (7, 54, .agg #[.int .i64 (wrap64 ((wrap64 (t268 + 1)) + t271)), .int .i64 (wrap64 ((wrap64 (t269 + 1)) + t272))]), (8, 55, .agg #[.int .i64 t268, .int .i64 (wrap64 ((wrap64 (t269 + 1)) + t272))]), (9, 56, v286), (10, 57, v289), (11, 58, v292), (12, 59, .agg #[.int .i64 t268, .int .i64 t269]), (13, 60, .agg #[.int .i64 (wrap64 ((wrap64 (t268 + 1)) + t271)), .int .i64 t269]), (14, 61, .agg #[.int .i64 (wrap64 ((wrap64 (t268 + 1)) + t271)), .int .i64 (wrap64 ((wrap64 (t269 + 1)) + t272))]), (15, 62, .agg #[.int .i64 t268, .int .i64 (wrap64 ((wrap64 (t269 + 1)) + t272))]), (16, 63, v295), (17, 64, v298), (18, 65, v301), (19, 13, m19_), (20, 14, m20_), (21, 15, m21_)] ∧ (w'.heap[gb270]? = some (.cells #[.int .i64 t268, .int .i64 t269] 40 (0, 0))) ∧ (w'.heap[gb273]? = some (.cells #[.int .i64 (wrap64 ((wrap64 (t268 + 1)) + t271)), .int .i64 (wrap64 ((wrap64 (t269 + 1)) + t272))] 40 (0, 0))) ∧ (w'.heap[gb274]? = some (.cells #[.int .i64 (wrap64 ((wrap64 (t268 + 1)) + t271)), .int .i64 t269] 40 (0, 0))) ∧ (w'.heap[gb275]? = some (.cells #[.int .i64 t268, .int .i64 (wrap64 ((wrap64 (t269 + 1)) + t272))] 40 (0, 0))) ∧ (Below w.heap.size w w') ∧ (b 3 = true → b 4 = false → Kd.R k40 40 w' w.heap.size (fun k_ => k_ ≠ gb270 ∧ k_ ≠ gb273 ∧ k_ ≠ gb274 ∧ k_ ≠ gb275) v277 y276) ∧ (b 4 = true → Kd.N (Kd.slice 40 k40) 54 w' w.heap.size (fun k_ => k_ ≠ gb270 ∧ k_ ≠ gb273 ∧ k_ ≠ gb274 ∧ k_ ≠ gb275) v280 y279) ∧ (b 5 = true → Kd.R (Kd.int .i64) 3 w' w.heap.size (fun _ => True) v283 t282) ∧ (b 9 = true → b 10 = false → Kd.R k40 40 w' w.heap.size (fun k_ => k_ ≠ gb270 ∧ k_ ≠ gb273 ∧ k_ ≠ gb274 ∧ k_ ≠ gb275) v286 y285) ∧ (b 10 = true → Kd.N (Kd.slice 40 k40) 54 w' w.heap.size (fun k_ => k_ ≠ gb270 ∧ k_ ≠ gb273 ∧ k_ ≠ gb274 ∧ k_ ≠ gb275) v289 y288) ∧ (b 11 = true → Kd.R (Kd.int .i64) 3 w' w.heap.size (fun _ => True) v292 t291) ∧ (b 16 = true → b 17 = false → Kd.R k40 40 w' w.heap.size (fun k_ => k_ ≠ gb270 ∧ k_ ≠ gb273 ∧ k_ ≠ gb274 ∧ k_ ≠ gb275) v295 y294) ∧ (b 17 = true → Kd.N (Kd.slice 40 k40) 54 w' w.heap.size (fun k_ => k_ ≠ gb270 ∧ k_ ≠ gb273 ∧ k_ ≠ gb274 ∧ k_ ≠ gb275) v298 y297) ∧ (b 18 = true → Kd.R (Kd.int .i64) 3 w' w.heap.size (fun _ => True) v301 t300) ∧ (b 19 = true → (m19_ : Value) = v283) ∧ (b 20 = true → (m20_ : Value) = v292) ∧ (b 21 = true → (m21_ : Value) = v301)) HT_.out HW_.out (by kernel_rfl) (by kernel_rfl) ?_ ?_ ?_
    · exact ⟨.bool false, .bool false, .bool false, .bool false, .bool false, .bool false, .bool false, .bool false, .bool false, .bool false, .bool false, .bool false, by simp only [putSel, Bool.false_eq_true, if_false], BK270.out, BK273.out, BK274.out, BK275.out, HB.out, fun h_ => absurd h_ (by decide), fun h_ => absurd h_ (by decide), fun h_ => absurd h_ (by decide), fun h_ => absurd h_ (by decide), fun h_ => absurd h_ (by decide), fun h_ => absurd h_ (by decide), fun h_ => absurd h_ (by decide), fun h_ => absurd h_ (by decide), fun h_ => absurd h_ (by decide), fun h_ => absurd h_ (by decide), fun h_ => absurd h_ (by decide), fun h_ => absurd h_ (by decide)⟩
    · skip
      clear BK270 BK273 BK274 BK275 HB
      refine steps_cons ?_ ?_
      · rintro b a w' ⟨v277, v280, v283, v286, v289, v292, v295, v298, v301, m19_, m20_, m21_, ha, Q_BK270, Q_BK273, Q_BK274, Q_BK275, Q_HB, Q_HO278, Q_HO281, Q_HO284, Q_HO287, Q_HO290, Q_HO293, Q_HO296, Q_HO299, Q_HO302, Q_X19_, Q_X20_, Q_X21_⟩ hb_ hon hoff
        refine ⟨_, rfl, fun K hK => ?_⟩
        have e9 : a.tmps[9]? = some (.pointer (some ⟨gb270, 0, none⟩)) := by rw [ha]; exact (putSel_off rfl).trans rfl
        replace ha := Aside0.mk ha
        have BK270 := Aside0.mk Q_BK270
        have BK273 := Aside0.mk Q_BK273
        have BK274 := Aside0.mk Q_BK274
        have BK275 := Aside0.mk Q_BK275
        have HB := Aside0.mk Q_HB
        have hc0_ : w'.cell? ⟨gb270, 0, none⟩ = some (.int .i64 t268) := (blk_cell BK270.out 0).trans rfl
        have hc1_ : w'.cell? ⟨gb270, 1, none⟩ = some (.int .i64 t269) := (blk_cell BK270.out 1).trans rfl
        refine value_ (w1 := w') (v := .agg #[.int .i64 t268, .int .i64 t269]) (by rfl) rfl ?_ ?_
        · go_simp
          (try simp only [i64_w])
          try rfl
        refine hK.out _ _ ⟨v277, v280, v283, v286, v289, v292, v295, v298, v301, m19_, m20_, m21_, (by rw [ha.out]; exact putSel_upk 0 hb_ rfl rfl rfl), Q_BK270, Q_BK273, Q_BK274, Q_BK275, Q_HB, fun h0_ _ => absurd ((hoff 3 (by kernel_rfl)).symm.trans h0_) (by decide), fun h0_ => absurd ((hoff 4 (by kernel_rfl)).symm.trans h0_) (by decide), fun h0_ => absurd ((hoff 5 (by kernel_rfl)).symm.trans h0_) (by decide), Q_HO287, Q_HO290, fun h0_ => absurd ((hoff 11 (by kernel_rfl)).symm.trans h0_) (by decide), Q_HO296, Q_HO299, fun h0_ => absurd ((hoff 18 (by kernel_rfl)).symm.trans h0_) (by decide), fun h0_ => absurd ((hoff 19 (by kernel_rfl)).symm.trans h0_) (by decide), fun h0_ => absurd ((hoff 20 (by kernel_rfl)).symm.trans h0_) (by decide), fun h0_ => absurd ((hoff 21 (by kernel_rfl)).symm.trans h0_) (by decide)⟩
      refine steps_cons ?_ ?_
      · rintro b a w' ⟨v277, v280, v283, v286, v289, v292, v295, v298, v301, m19_, m20_, m21_, ha, Q_BK270, Q_BK273, Q_BK274, Q_BK275, Q_HB, Q_HO278, Q_HO281, Q_HO284, Q_HO287, Q_HO290, Q_HO293, Q_HO296, Q_HO299, Q_HO302, Q_X19_, Q_X20_, Q_X21_⟩ hb_ hon hoff
        refine ⟨_, rfl, fun K hK => ?_⟩
        have e11 : a.tmps[11]? = some (.pointer (some ⟨gb274, 0, none⟩)) := by rw [ha]; exact (putSel_off rfl).trans rfl
        replace ha := Aside0.mk ha
        have BK270 := Aside0.mk Q_BK270
        have BK273 := Aside0.mk Q_BK273
        have BK274 := Aside0.mk Q_BK274
        have BK275 := Aside0.mk Q_BK275
        have HB := Aside0.mk Q_HB
        have hc0_ : w'.cell? ⟨gb274, 0, none⟩ = some (.int .i64 (wrap64 ((wrap64 (t268 + 1)) + t271))) := (blk_cell BK274.out 0).trans rfl
        have hc1_ : w'.cell? ⟨gb274, 1, none⟩ = some (.int .i64 t269) := (blk_cell BK274.out 1).trans rfl
        refine value_ (w1 := w') (v := .agg #[.int .i64 (wrap64 ((wrap64 (t268 + 1)) + t271)), .int .i64 t269]) (by rfl) rfl ?_ ?_
        · go_simp
          (try simp only [i64_w])
          try rfl
        refine hK.out _ _ ⟨v277, v280, v283, v286, v289, v292, v295, v298, v301, m19_, m20_, m21_, (by rw [ha.out]; exact putSel_upk 1 hb_ rfl rfl rfl), Q_BK270, Q_BK273, Q_BK274, Q_BK275, Q_HB, fun h0_ _ => absurd ((hoff 3 (by kernel_rfl)).symm.trans h0_) (by decide), fun h0_ => absurd ((hoff 4 (by kernel_rfl)).symm.trans h0_) (by decide), fun h0_ => absurd ((hoff 5 (by kernel_rfl)).symm.trans h0_) (by decide), Q_HO287, Q_HO290, fun h0_ => absurd ((hoff 11 (by kernel_rfl)).symm.trans h0_) (by decide), Q_HO296, Q_HO299, fun h0_ => absurd ((hoff 18 (by kernel_rfl)).symm.trans h0_) (by decide), fun h0_ => absurd ((hoff 19 (by kernel_rfl)).symm.trans h0_) (by decide), fun h0_ => absurd ((hoff 20 (by kernel_rfl)).symm.trans h0_) (by decide), fun h0_ => absurd ((hoff 21 (by kernel_rfl)).symm.trans h0_) (by decide)⟩
      refine steps_cons ?_ ?_
      · rintro b a w' ⟨v277, v280, v283, v286, v289, v292, v295, v298, v301, m19_, m20_, m21_, ha, Q_BK270, Q_BK273, Q_BK274, Q_BK275, Q_HB, Q_HO278, Q_HO281, Q_HO284, Q_HO287, Q_HO290, Q_HO293, Q_HO296, Q_HO299, Q_HO302, Q_X19_, Q_X20_, Q_X21_⟩ hb_ hon hoff
        refine ⟨_, rfl, fun K hK => ?_⟩
        have e10 : a.tmps[10]? = some (.pointer (some ⟨gb273, 0, none⟩)) := by rw [ha]; exact (putSel_off rfl).trans rfl
        replace ha := Aside0.mk ha
        have BK270 := Aside0.mk Q_BK270
        have BK273 := Aside0.mk Q_BK273
        have BK274 := Aside0.mk Q_BK274
        have BK275 := Aside0.mk Q_BK275
        have HB := Aside0.mk Q_HB
        have hc0_ : w'.cell? ⟨gb273, 0, none⟩ = some (.int .i64 (wrap64 ((wrap64 (t268 + 1)) + t271))) := (blk_cell BK273.out 0).trans rfl
        have hc1_ : w'.cell? ⟨gb273, 1, none⟩ = some (.int .i64 (wrap64 ((wrap64 (t269 + 1)) + t272))) := (blk_cell BK273.out 1).trans rfl
        refine value_ (w1 := w') (v := .agg #[.int .i64 (wrap64 ((wrap64 (t268 + 1)) + t271)), .int .i64 (wrap64 ((wrap64 (t269 + 1)) + t272))]) (by rfl) rfl ?_ ?_
        · go_simp
          (try simp only [i64_w])
          try rfl
        refine hK.out _ _ ⟨v277, v280, v283, v286, v289, v292, v295, v298, v301, m19_, m20_, m21_, (by rw [ha.out]; exact putSel_upk 2 hb_ rfl rfl rfl), Q_BK270, Q_BK273, Q_BK274, Q_BK275, Q_HB, fun h0_ _ => absurd ((hoff 3 (by kernel_rfl)).symm.trans h0_) (by decide), fun h0_ => absurd ((hoff 4 (by kernel_rfl)).symm.trans h0_) (by decide), fun h0_ => absurd ((hoff 5 (by kernel_rfl)).symm.trans h0_) (by decide), Q_HO287, Q_HO290, fun h0_ => absurd ((hoff 11 (by kernel_rfl)).symm.trans h0_) (by decide), Q_HO296, Q_HO299, fun h0_ => absurd ((hoff 18 (by kernel_rfl)).symm.trans h0_) (by decide), fun h0_ => absurd ((hoff 19 (by kernel_rfl)).symm.trans h0_) (by decide), fun h0_ => absurd ((hoff 20 (by kernel_rfl)).symm.trans h0_) (by decide), fun h0_ => absurd ((hoff 21 (by kernel_rfl)).symm.trans h0_) (by decide)⟩
      refine steps_cons ?_ ?_
      · rintro b a w' ⟨v277, v280, v283, v286, v289, v292, v295, v298, v301, m19_, m20_, m21_, ha, Q_BK270, Q_BK273, Q_BK274, Q_BK275, Q_HB, Q_HO278, Q_HO281, Q_HO284, Q_HO287, Q_HO290, Q_HO293, Q_HO296, Q_HO299, Q_HO302, Q_X19_, Q_X20_, Q_X21_⟩ hb_ hon hoff
        refine ⟨_, rfl, fun K hK => ?_⟩
        have e47 : a.tmps[47]? = some (.agg #[.int .i64 t268, .int .i64 t269]) := by rw [ha]; exact putSel_on (e := (0, 47, .agg #[.int .i64 t268, .int .i64 t269])) 0 rfl rfl (hon 0 (by kernel_rfl)) rfl
        have e48 : a.tmps[48]? = some (.agg #[.int .i64 (wrap64 ((wrap64 (t268 + 1)) + t271)), .int .i64 t269]) := by rw [ha]; exact putSel_on (e := (1, 48, .agg #[.int .i64 (wrap64 ((wrap64 (t268 + 1)) + t271)), .int .i64 t269])) 1 rfl rfl (hon 1 (by kernel_rfl)) rfl
        have e49 : a.tmps[49]? = some (.agg #[.int .i64 (wrap64 ((wrap64 (t268 + 1)) + t271)), .int .i64 (wrap64 ((wrap64 (t269 + 1)) + t272))]) := by rw [ha]; exact putSel_on (e := (2, 49, .agg #[.int .i64 (wrap64 ((wrap64 (t268 + 1)) + t271)), .int .i64 (wrap64 ((wrap64 (t269 + 1)) + t272))])) 2 rfl rfl (hon 2 (by kernel_rfl)) rfl
        replace ha := Aside0.mk ha
        have BK270 := Aside0.mk Q_BK270
        have BK273 := Aside0.mk Q_BK273
        have BK274 := Aside0.mk Q_BK274
        have BK275 := Aside0.mk Q_BK275
        have HB := Aside0.mk Q_HB
        refine Kd.R_lit_step k40 _ 40 ?hg (N := 50) ?hd (xs := ([(⟨t268, t269⟩ : S40), (⟨wrap64 ((wrap64 (t268 + 1)) + t271), t269⟩ : S40), (⟨wrap64 ((wrap64 (t268 + 1)) + t271), wrap64 ((wrap64 (t269 + 1)) + t272)⟩ : S40)] : List (S40))) (inner := [.int .i64 t268, .int .i64 t269, .int .i64 (wrap64 ((wrap64 (t268 + 1)) + t271)), .int .i64 t269, .int .i64 (wrap64 ((wrap64 (t268 + 1)) + t271)), .int .i64 (wrap64 ((wrap64 (t269 + 1)) + t272))]) (ok := fun _ => True) (okp := fun _ => True) ?hr ?hp (fun _ hk => hk) trivial (Below.refl _ _) (Nat.le_refl _) (by simp) ?_; (case hd => rfl); (case hg => rfl); (case hr => first | (go_simp; done) | (go_simp; rfl)); (case hp => exact (Reps.c2 (show Kd.M k40 _ _ _ (⟨t268, t269⟩ : S40) [.int .i64 t268, .int .i64 t269] from (k40_mkM _ _ _ (⟨t268, t269⟩ : S40) )) (Reps.c2 (show Kd.M k40 _ _ _ (⟨wrap64 ((wrap64 (t268 + 1)) + t271), t269⟩ : S40) [.int .i64 (wrap64 ((wrap64 (t268 + 1)) + t271)), .int .i64 t269] from (k40_mkM _ _ _ (⟨wrap64 ((wrap64 (t268 + 1)) + t271), t269⟩ : S40) )) (Reps.c2 (show Kd.M k40 _ _ _ (⟨wrap64 ((wrap64 (t268 + 1)) + t271), wrap64 ((wrap64 (t269 + 1)) + t272)⟩ : S40) [.int .i64 (wrap64 ((wrap64 (t268 + 1)) + t271)), .int .i64 (wrap64 ((wrap64 (t269 + 1)) + t272))] from (k40_mkM _ _ _ (⟨wrap64 ((wrap64 (t268 + 1)) + t271), wrap64 ((wrap64 (t269 + 1)) + t272)⟩ : S40) )) (Reps.none _ _)))))
        intro v277 w35 ho36 hb hg_ hnew_
        clear hg_ hnew_
        (first | rw [← Ny276.out] at ho36 | (simp only [Int.reduceToNat] at ho36; rw [← Ny276.out] at ho36))
        have n0_ := Aside0.mk (Kd.R_lower (Kd.R_newB (Kd.R_newB (Kd.R_newB (Kd.R_newB ho36 (g := gb270) (o := .cells #[.int .i64 t268, .int .i64 t269] 40 (0, 0)) (by (with_reducible repeat (first | refine blk_drewN ?_ _ | refine blk_drew ?_ | refine blk_alloc ?_ _)); exact BK270.out)) (g := gb273) (o := .cells #[.int .i64 (wrap64 ((wrap64 (t268 + 1)) + t271)), .int .i64 (wrap64 ((wrap64 (t269 + 1)) + t272))] 40 (0, 0)) (by (with_reducible repeat (first | refine blk_drewN ?_ _ | refine blk_drew ?_ | refine blk_alloc ?_ _)); exact BK273.out)) (g := gb274) (o := .cells #[.int .i64 (wrap64 ((wrap64 (t268 + 1)) + t271)), .int .i64 t269] 40 (0, 0)) (by (with_reducible repeat (first | refine blk_drewN ?_ _ | refine blk_drew ?_ | refine blk_alloc ?_ _)); exact BK274.out)) (g := gb275) (o := .cells #[.int .i64 t268, .int .i64 (wrap64 ((wrap64 (t269 + 1)) + t272))] 40 (0, 0)) (by (with_reducible repeat (first | refine blk_drewN ?_ _ | refine blk_drew ?_ | refine blk_alloc ?_ _)); exact BK275.out)) (below_size (by repeat (first | (with_reducible first | exact HB.out | apply below_alloc | apply pw_below_drewN | apply below_drew1 | refine below_set ?_ GE270.out | refine below_set ?_ GE273.out | refine below_set ?_ GE274.out | refine below_set ?_ GE275.out) | exact HB.out))))
        have n1_ := Aside0.mk (blk_below (g := gb270) (o := .cells #[.int .i64 t268, .int .i64 t269] 40 (0, 0)) (by (with_reducible repeat (first | refine blk_drewN ?_ _ | refine blk_drew ?_ | refine blk_alloc ?_ _)); exact BK270.out) hb)
        have n2_ := Aside0.mk (blk_below (g := gb273) (o := .cells #[.int .i64 (wrap64 ((wrap64 (t268 + 1)) + t271)), .int .i64 (wrap64 ((wrap64 (t269 + 1)) + t272))] 40 (0, 0)) (by (with_reducible repeat (first | refine blk_drewN ?_ _ | refine blk_drew ?_ | refine blk_alloc ?_ _)); exact BK273.out) hb)
        have n3_ := Aside0.mk (blk_below (g := gb274) (o := .cells #[.int .i64 (wrap64 ((wrap64 (t268 + 1)) + t271)), .int .i64 t269] 40 (0, 0)) (by (with_reducible repeat (first | refine blk_drewN ?_ _ | refine blk_drew ?_ | refine blk_alloc ?_ _)); exact BK274.out) hb)
        have n4_ := Aside0.mk (blk_below (g := gb275) (o := .cells #[.int .i64 t268, .int .i64 (wrap64 ((wrap64 (t269 + 1)) + t272))] 40 (0, 0)) (by (with_reducible repeat (first | refine blk_drewN ?_ _ | refine blk_drew ?_ | refine blk_alloc ?_ _)); exact BK275.out) hb)
        have n5_ := Aside0.mk (below_step (by repeat (first | (with_reducible first | exact HB.out | apply below_alloc | apply pw_below_drewN | apply below_drew1 | refine below_set ?_ GE270.out | refine below_set ?_ GE273.out | refine below_set ?_ GE274.out | refine below_set ?_ GE275.out) | exact HB.out)) hb)
        have z_HO287 := fun (h0_ : b 9 = true) (h1_ : b 10 = false) => (show Kd.R k40 40 w35 w.heap.size (fun k_ => k_ ≠ gb270 ∧ k_ ≠ gb273 ∧ k_ ≠ gb274 ∧ k_ ≠ gb275) v286 y285 from by first | exact (Kd.R_elder' (by (with_reducible repeat (first | apply Kd.R_alloc | apply Kd.R_drewN | apply Kd.R_drew)); exact (Q_HO287 h0_ h1_)) (Kd.R_base ho36) hb) | exact Kd.R_mono (Kd.R_elder' (by (with_reducible repeat (first | apply Kd.R_alloc | apply Kd.R_drewN | apply Kd.R_drew)); exact (Q_HO287 h0_ h1_)) (Kd.R_base ho36) hb) (fun _ h_ => by first | trivial | exact h_ | exact h_.1))
        have z_HO290 := fun (h0_ : b 10 = true) => (show Kd.N (Kd.slice 40 k40) 54 w35 w.heap.size (fun k_ => k_ ≠ gb270 ∧ k_ ≠ gb273 ∧ k_ ≠ gb274 ∧ k_ ≠ gb275) v289 y288 from by first | exact (Kd.N_elder' (by (with_reducible repeat (first | apply Kd.N_alloc | apply Kd.N_drewN | apply Kd.N_drew)); exact (Q_HO290 h0_)) (Kd.R_base ho36) hb) | exact Kd.N_mono (Kd.N_elder' (by (with_reducible repeat (first | apply Kd.N_alloc | apply Kd.N_drewN | apply Kd.N_drew)); exact (Q_HO290 h0_)) (Kd.R_base ho36) hb) (fun _ h_ => by first | trivial | exact h_ | exact h_.1))
        have z_HO296 := fun (h0_ : b 16 = true) (h1_ : b 17 = false) => (show Kd.R k40 40 w35 w.heap.size (fun k_ => k_ ≠ gb270 ∧ k_ ≠ gb273 ∧ k_ ≠ gb274 ∧ k_ ≠ gb275) v295 y294 from by first | exact (Kd.R_elder' (by (with_reducible repeat (first | apply Kd.R_alloc | apply Kd.R_drewN | apply Kd.R_drew)); exact (Q_HO296 h0_ h1_)) (Kd.R_base ho36) hb) | exact Kd.R_mono (Kd.R_elder' (by (with_reducible repeat (first | apply Kd.R_alloc | apply Kd.R_drewN | apply Kd.R_drew)); exact (Q_HO296 h0_ h1_)) (Kd.R_base ho36) hb) (fun _ h_ => by first | trivial | exact h_ | exact h_.1))
        have z_HO299 := fun (h0_ : b 17 = true) => (show Kd.N (Kd.slice 40 k40) 54 w35 w.heap.size (fun k_ => k_ ≠ gb270 ∧ k_ ≠ gb273 ∧ k_ ≠ gb274 ∧ k_ ≠ gb275) v298 y297 from by first | exact (Kd.N_elder' (by (with_reducible repeat (first | apply Kd.N_alloc | apply Kd.N_drewN | apply Kd.N_drew)); exact (Q_HO299 h0_)) (Kd.R_base ho36) hb) | exact Kd.N_mono (Kd.N_elder' (by (with_reducible repeat (first | apply Kd.N_alloc | apply Kd.N_drewN | apply Kd.N_drew)); exact (Q_HO299 h0_)) (Kd.R_base ho36) hb) (fun _ h_ => by first | trivial | exact h_ | exact h_.1))
        clear BK270
        clear BK273
        clear BK274
        clear BK275
        clear HB
        have HO278 := n0_
        have BK270 := n1_
        have BK273 := n2_
        have BK274 := n3_
        have BK275 := n4_
        have HB := n5_
        clear n0_ n1_ n2_ n3_ n4_ n5_
        clear hb ho36
        refine hK.out _ _ ⟨v277, v280, v283, v286, v289, v292, v295, v298, v301, m19_, m20_, m21_, (by rw [ha.out]; exact putSel_upk 3 hb_ rfl rfl rfl), (by (with_reducible repeat (first | refine blk_drewN ?_ _ | refine blk_drew ?_ | refine blk_alloc ?_ _)); exact BK270.out), (by (with_reducible repeat (first | refine blk_drewN ?_ _ | refine blk_drew ?_ | refine blk_alloc ?_ _)); exact BK273.out), (by (with_reducible repeat (first | refine blk_drewN ?_ _ | refine blk_drew ?_ | refine blk_alloc ?_ _)); exact BK274.out), (by (with_reducible repeat (first | refine blk_drewN ?_ _ | refine blk_drew ?_ | refine blk_alloc ?_ _)); exact BK275.out), (by repeat (first | (with_reducible first | exact HB.out | apply below_alloc | apply pw_below_drewN | apply below_drew1 | refine below_set ?_ GE270.out | refine below_set ?_ GE273.out | refine below_set ?_ GE274.out | refine below_set ?_ GE275.out) | exact HB.out)), fun _ _ => (by (with_reducible repeat (first | apply Kd.R_alloc | apply Kd.R_drewN | apply Kd.R_drew)); exact Kd.R_mono HO278.out (fun _ hk => by first | exact ⟨hk.1.1.1.2, ⟨hk.1.1.2, ⟨hk.1.2, hk.2⟩⟩⟩ | exact trivial | exact hk.1 | exact hk | simp_all)), fun h0_ => absurd ((hoff 4 (by kernel_rfl)).symm.trans h0_) (by decide), fun h0_ => absurd ((hoff 5 (by kernel_rfl)).symm.trans h0_) (by decide), z_HO287, z_HO290, fun h0_ => absurd ((hoff 11 (by kernel_rfl)).symm.trans h0_) (by decide), z_HO296, z_HO299, fun h0_ => absurd ((hoff 18 (by kernel_rfl)).symm.trans h0_) (by decide), fun h0_ => absurd ((hoff 19 (by kernel_rfl)).symm.trans h0_) (by decide), fun h0_ => absurd ((hoff 20 (by kernel_rfl)).symm.trans h0_) (by decide), fun h0_ => absurd ((hoff 21 (by kernel_rfl)).symm.trans h0_) (by decide)⟩
      refine steps_cons ?_ ?_
      · rintro b a w' ⟨v277, v280, v283, v286, v289, v292, v295, v298, v301, m19_, m20_, m21_, ha, Q_BK270, Q_BK273, Q_BK274, Q_BK275, Q_HB, Q_HO278, Q_HO281, Q_HO284, Q_HO287, Q_HO290, Q_HO293, Q_HO296, Q_HO299, Q_HO302, Q_X19_, Q_X20_, Q_X21_⟩ hb_ hon hoff
        refine ⟨_, rfl, fun K hK => ?_⟩
        have e50 : a.tmps[50]? = some (v277) := by rw [ha]; exact putSel_on (e := (3, 50, v277)) 3 rfl rfl (hon 3 (by kernel_rfl)) rfl
        replace ha := Aside0.mk ha
        have BK270 := Aside0.mk Q_BK270
        have BK273 := Aside0.mk Q_BK273
        have BK274 := Aside0.mk Q_BK274
        have BK275 := Aside0.mk Q_BK275
        have HB := Aside0.mk Q_HB
        have HO278 := Aside0.mk (Q_HO278 (hon 3 (by kernel_rfl)) hb_)
        obtain ⟨Ao38, co38, eo38⟩ := Kd.R_slice HO278.out
        (first | subst eo38 | (injection eo38 with f1_ f2_ f3_; have f4_ := f1_.symm; have f5_ := f3_.symm; clear f1_ f2_ f3_; subst f4_; subst f5_))
        refine Kd.N_lit_step (Kd.slice 40 k40) _ 54 ?hg (N' := 51) ?hd (xs := ([y276] : List (List (S40)))) (inner := [.slice Ao38 y276.length co38]) (ok := (fun k_ => k_ ≠ gb270 ∧ k_ ≠ gb273 ∧ k_ ≠ gb274 ∧ k_ ≠ gb275)) (okp := (fun k_ => k_ ≠ gb270 ∧ k_ ≠ gb273 ∧ k_ ≠ gb274 ∧ k_ ≠ gb275)) ?hr ?hp (fun _ hk => hk) ((show ∀ k_, w'.heap.size ≤ k_ → (fun k_ => k_ ≠ gb270 ∧ k_ ≠ gb273 ∧ k_ ≠ gb274 ∧ k_ ≠ gb275) k_ from fun k_ hk => ⟨Kd.freshB (g := gb270) (o := .cells #[.int .i64 t268, .int .i64 t269] 40 (0, 0)) (by (with_reducible repeat (first | refine blk_drewN ?_ _ | refine blk_drew ?_ | refine blk_alloc ?_ _)); exact BK270.out) k_ hk, Kd.freshB (g := gb273) (o := .cells #[.int .i64 (wrap64 ((wrap64 (t268 + 1)) + t271)), .int .i64 (wrap64 ((wrap64 (t269 + 1)) + t272))] 40 (0, 0)) (by (with_reducible repeat (first | refine blk_drewN ?_ _ | refine blk_drew ?_ | refine blk_alloc ?_ _)); exact BK273.out) k_ hk, Kd.freshB (g := gb274) (o := .cells #[.int .i64 (wrap64 ((wrap64 (t268 + 1)) + t271)), .int .i64 t269] 40 (0, 0)) (by (with_reducible repeat (first | refine blk_drewN ?_ _ | refine blk_drew ?_ | refine blk_alloc ?_ _)); exact BK274.out) k_ hk, Kd.freshB (g := gb275) (o := .cells #[.int .i64 t268, .int .i64 (wrap64 ((wrap64 (t269 + 1)) + t272))] 40 (0, 0)) (by (with_reducible repeat (first | refine blk_drewN ?_ _ | refine blk_drew ?_ | refine blk_alloc ?_ _)); exact BK275.out) k_ hk⟩) _ (Nat.le_refl _)) (Below.refl _ _) (Nat.le_refl _) (by simp) ?_; (case hd => rfl); (case hg => rfl); (case hr => first | (go_simp; done) | (go_simp; rfl)); (case hp => exact (Reps.one (show Kd.FK (Kd.slice 40 k40) _ _ y276 [.slice Ao38 y276.length co38] from (Kd.FK_slice_mk (Kd.R_reads' (Kd.R_mono (ok' := (fun k_ => k_ ≠ gb270 ∧ k_ ≠ gb273 ∧ k_ ≠ gb274 ∧ k_ ≠ gb275)) (HO278.out) (fun k_ hk => ⟨hk.1, ⟨hk.2.1, ⟨hk.2.2.1, hk.2.2.2⟩⟩⟩))).2.1 (Kd.R_F (Kd.R_mono (ok' := (fun k_ => k_ ≠ gb270 ∧ k_ ≠ gb273 ∧ k_ ≠ gb274 ∧ k_ ≠ gb275)) (HO278.out) (fun k_ hk => ⟨hk.1, ⟨hk.2.1, ⟨hk.2.2.1, hk.2.2.2⟩⟩⟩))))) (Reps.none _ _)))
        intro v280 w39 ho40 hb hg_ hnew_
        clear hg_ hnew_
        (first | rw [← Ny279.out] at ho40 | (simp only [Int.reduceToNat] at ho40; rw [← Ny279.out] at ho40))
        have n0_ := Aside0.mk (Kd.N_lower ho40 (below_size (by repeat (first | (with_reducible first | exact HB.out | apply below_alloc | apply pw_below_drewN | apply below_drew1 | refine below_set ?_ GE270.out | refine below_set ?_ GE273.out | refine below_set ?_ GE274.out | refine below_set ?_ GE275.out) | exact HB.out))))
        have n1_ := Aside0.mk (blk_below (g := gb270) (o := .cells #[.int .i64 t268, .int .i64 t269] 40 (0, 0)) (by (with_reducible repeat (first | refine blk_drewN ?_ _ | refine blk_drew ?_ | refine blk_alloc ?_ _)); exact BK270.out) hb)
        have n2_ := Aside0.mk (blk_below (g := gb273) (o := .cells #[.int .i64 (wrap64 ((wrap64 (t268 + 1)) + t271)), .int .i64 (wrap64 ((wrap64 (t269 + 1)) + t272))] 40 (0, 0)) (by (with_reducible repeat (first | refine blk_drewN ?_ _ | refine blk_drew ?_ | refine blk_alloc ?_ _)); exact BK273.out) hb)
        have n3_ := Aside0.mk (blk_below (g := gb274) (o := .cells #[.int .i64 (wrap64 ((wrap64 (t268 + 1)) + t271)), .int .i64 t269] 40 (0, 0)) (by (with_reducible repeat (first | refine blk_drewN ?_ _ | refine blk_drew ?_ | refine blk_alloc ?_ _)); exact BK274.out) hb)
        have n4_ := Aside0.mk (blk_below (g := gb275) (o := .cells #[.int .i64 t268, .int .i64 (wrap64 ((wrap64 (t269 + 1)) + t272))] 40 (0, 0)) (by (with_reducible repeat (first | refine blk_drewN ?_ _ | refine blk_drew ?_ | refine blk_alloc ?_ _)); exact BK275.out) hb)
        have n5_ := Aside0.mk (below_step (by repeat (first | (with_reducible first | exact HB.out | apply below_alloc | apply pw_below_drewN | apply below_drew1 | refine below_set ?_ GE270.out | refine below_set ?_ GE273.out | refine below_set ?_ GE274.out | refine below_set ?_ GE275.out) | exact HB.out)) hb)
        have z_HO287 := fun (h0_ : b 9 = true) (h1_ : b 10 = false) => (show Kd.R k40 40 w39 w.heap.size (fun k_ => k_ ≠ gb270 ∧ k_ ≠ gb273 ∧ k_ ≠ gb274 ∧ k_ ≠ gb275) v286 y285 from by first | exact (Kd.R_below (by (with_reducible repeat (first | apply Kd.R_alloc | apply Kd.R_drewN | apply Kd.R_drew)); exact (Q_HO287 h0_ h1_)) hb) | exact Kd.R_mono (Kd.R_below (by (with_reducible repeat (first | apply Kd.R_alloc | apply Kd.R_drewN | apply Kd.R_drew)); exact (Q_HO287 h0_ h1_)) hb) (fun _ h_ => by first | trivial | exact h_ | exact h_.1))
        have z_HO290 := fun (h0_ : b 10 = true) => (show Kd.N (Kd.slice 40 k40) 54 w39 w.heap.size (fun k_ => k_ ≠ gb270 ∧ k_ ≠ gb273 ∧ k_ ≠ gb274 ∧ k_ ≠ gb275) v289 y288 from by first | exact (Kd.N_elder' (by (with_reducible repeat (first | apply Kd.N_alloc | apply Kd.N_drewN | apply Kd.N_drew)); exact (Q_HO290 h0_)) (Kd.N_base ho40) hb) | exact Kd.N_mono (Kd.N_elder' (by (with_reducible repeat (first | apply Kd.N_alloc | apply Kd.N_drewN | apply Kd.N_drew)); exact (Q_HO290 h0_)) (Kd.N_base ho40) hb) (fun _ h_ => by first | trivial | exact h_ | exact h_.1))
        have z_HO296 := fun (h0_ : b 16 = true) (h1_ : b 17 = false) => (show Kd.R k40 40 w39 w.heap.size (fun k_ => k_ ≠ gb270 ∧ k_ ≠ gb273 ∧ k_ ≠ gb274 ∧ k_ ≠ gb275) v295 y294 from by first | exact (Kd.R_below (by (with_reducible repeat (first | apply Kd.R_alloc | apply Kd.R_drewN | apply Kd.R_drew)); exact (Q_HO296 h0_ h1_)) hb) | exact Kd.R_mono (Kd.R_below (by (with_reducible repeat (first | apply Kd.R_alloc | apply Kd.R_drewN | apply Kd.R_drew)); exact (Q_HO296 h0_ h1_)) hb) (fun _ h_ => by first | trivial | exact h_ | exact h_.1))
        have z_HO299 := fun (h0_ : b 17 = true) => (show Kd.N (Kd.slice 40 k40) 54 w39 w.heap.size (fun k_ => k_ ≠ gb270 ∧ k_ ≠ gb273 ∧ k_ ≠ gb274 ∧ k_ ≠ gb275) v298 y297 from by first | exact (Kd.N_elder' (by (with_reducible repeat (first | apply Kd.N_alloc | apply Kd.N_drewN | apply Kd.N_drew)); exact (Q_HO299 h0_)) (Kd.N_base ho40) hb) | exact Kd.N_mono (Kd.N_elder' (by (with_reducible repeat (first | apply Kd.N_alloc | apply Kd.N_drewN | apply Kd.N_drew)); exact (Q_HO299 h0_)) (Kd.N_base ho40) hb) (fun _ h_ => by first | trivial | exact h_ | exact h_.1))
        clear BK270
        clear BK273
        clear BK274
        clear BK275
        clear HB
        clear HO278
        have HO281 := n0_
        have BK270 := n1_
        have BK273 := n2_
        have BK274 := n3_
        have BK275 := n4_
        have HB := n5_
        clear n0_ n1_ n2_ n3_ n4_ n5_
        clear hb ho40
        refine hK.out _ _ ⟨.slice Ao38 y276.length co38, v280, v283, v286, v289, v292, v295, v298, v301, m19_, m20_, m21_, (by rw [ha.out]; exact putSel_upk 4 hb_ rfl rfl rfl), (by (with_reducible repeat (first | refine blk_drewN ?_ _ | refine blk_drew ?_ | refine blk_alloc ?_ _)); exact BK270.out), (by (with_reducible repeat (first | refine blk_drewN ?_ _ | refine blk_drew ?_ | refine blk_alloc ?_ _)); exact BK273.out), (by (with_reducible repeat (first | refine blk_drewN ?_ _ | refine blk_drew ?_ | refine blk_alloc ?_ _)); exact BK274.out), (by (with_reducible repeat (first | refine blk_drewN ?_ _ | refine blk_drew ?_ | refine blk_alloc ?_ _)); exact BK275.out), (by repeat (first | (with_reducible first | exact HB.out | apply below_alloc | apply pw_below_drewN | apply below_drew1 | refine below_set ?_ GE270.out | refine below_set ?_ GE273.out | refine below_set ?_ GE274.out | refine below_set ?_ GE275.out) | exact HB.out)), fun _ h1_ => absurd ((up_self b 4).symm.trans h1_) (by decide), fun _ => (by (with_reducible repeat (first | apply Kd.N_alloc | apply Kd.N_drewN | apply Kd.N_drew)); (first | exact HO281.out | exact Kd.R_mono HO281.out (fun _ _ => trivial))), fun h0_ => absurd ((hoff 5 (by kernel_rfl)).symm.trans h0_) (by decide), z_HO287, z_HO290, fun h0_ => absurd ((hoff 11 (by kernel_rfl)).symm.trans h0_) (by decide), z_HO296, z_HO299, fun h0_ => absurd ((hoff 18 (by kernel_rfl)).symm.trans h0_) (by decide), fun h0_ => absurd ((hoff 19 (by kernel_rfl)).symm.trans h0_) (by decide), fun h0_ => absurd ((hoff 20 (by kernel_rfl)).symm.trans h0_) (by decide), fun h0_ => absurd ((hoff 21 (by kernel_rfl)).symm.trans h0_) (by decide)⟩
      refine steps_cons ?_ ?_
      · rintro b a w' ⟨v277, v280, v283, v286, v289, v292, v295, v298, v301, m19_, m20_, m21_, ha, Q_BK270, Q_BK273, Q_BK274, Q_BK275, Q_HB, Q_HO278, Q_HO281, Q_HO284, Q_HO287, Q_HO290, Q_HO293, Q_HO296, Q_HO299, Q_HO302, Q_X19_, Q_X20_, Q_X21_⟩ hb_ hon hoff
        refine ⟨_, rfl, fun K hK => ?_⟩
        have e51 : a.tmps[51]? = some (v280) := by rw [ha]; exact putSel_on (e := (4, 51, v280)) 4 rfl rfl (hon 4 (by kernel_rfl)) rfl
        replace ha := Aside0.mk ha
        have BK270 := Aside0.mk Q_BK270
        have BK273 := Aside0.mk Q_BK273
        have BK274 := Aside0.mk Q_BK274
        have BK275 := Aside0.mk Q_BK275
        have HB := Aside0.mk Q_HB
        have HO281 := Aside0.mk (Q_HO281 (hon 4 (by kernel_rfl)))
        obtain ⟨Ao41, co41, eo41⟩ := Kd.N_slice HO281.out
        (first | subst eo41 | (injection eo41 with f1_ f2_ f3_; have f4_ := f1_.symm; have f5_ := f3_.symm; clear f1_ f2_ f3_; subst f4_; subst f5_))
        refine goes_ Try.func43 (by kernel_rfl) rfl #[.slice Ao41 y279.length co41] (by rfl) rfl rfl (by first | (simp only [List.map_toArray, List.map_cons, List.map_nil, Act.eval, Array.getD_eq_getD_getElem?, Option.getD_some, e51]; done) | (simp only [List.map_toArray, List.map_cons, List.map_nil, Act.eval, Array.getD_eq_getD_getElem?, Option.getD_some, e51]; rfl)) ?_
        with_reducible refine (raster_Cover.calls k _ _ y279 t282 _ ?side1 ?side2 A11.out).mono ?_
        (case side1 => repeat (first | exact (Kd.N_reads' HO281.out).2.2 | (with_reducible refine Kd.C_alloc ?_ _) | (with_reducible refine Kd.C_drewN ?_ _) | (with_reducible refine Kd.C_drew ?_)))
        (case side2 => exact (Kd.N_reads' HO281.out).2.1)
        rintro e w42 ⟨v283, rfl, ho0, hb⟩
        refine ⟨_, rfl, ?_⟩
        have n0_ := Aside0.mk (Kd.N_elder' (by (with_reducible repeat (first | apply Kd.N_alloc | apply Kd.N_drewN | apply Kd.N_drew)); (first | exact HO281.out | exact Kd.R_mono HO281.out (fun _ _ => trivial))) (Kd.R_base ho0) hb)
        have n1_ := Aside0.mk (Kd.R_lower ho0 (below_size (by repeat (first | (with_reducible first | exact HB.out | apply below_alloc | apply pw_below_drewN | apply below_drew1 | refine below_set ?_ GE270.out | refine below_set ?_ GE273.out | refine below_set ?_ GE274.out | refine below_set ?_ GE275.out) | exact HB.out))))
        have n2_ := Aside0.mk (blk_below (g := gb270) (o := .cells #[.int .i64 t268, .int .i64 t269] 40 (0, 0)) (by (with_reducible repeat (first | refine blk_drewN ?_ _ | refine blk_drew ?_ | refine blk_alloc ?_ _)); exact BK270.out) hb)
        have n3_ := Aside0.mk (blk_below (g := gb273) (o := .cells #[.int .i64 (wrap64 ((wrap64 (t268 + 1)) + t271)), .int .i64 (wrap64 ((wrap64 (t269 + 1)) + t272))] 40 (0, 0)) (by (with_reducible repeat (first | refine blk_drewN ?_ _ | refine blk_drew ?_ | refine blk_alloc ?_ _)); exact BK273.out) hb)
        have n4_ := Aside0.mk (blk_below (g := gb274) (o := .cells #[.int .i64 (wrap64 ((wrap64 (t268 + 1)) + t271)), .int .i64 t269] 40 (0, 0)) (by (with_reducible repeat (first | refine blk_drewN ?_ _ | refine blk_drew ?_ | refine blk_alloc ?_ _)); exact BK274.out) hb)
        have n5_ := Aside0.mk (blk_below (g := gb275) (o := .cells #[.int .i64 t268, .int .i64 (wrap64 ((wrap64 (t269 + 1)) + t272))] 40 (0, 0)) (by (with_reducible repeat (first | refine blk_drewN ?_ _ | refine blk_drew ?_ | refine blk_alloc ?_ _)); exact BK275.out) hb)
        have n6_ := Aside0.mk (below_step (by repeat (first | (with_reducible first | exact HB.out | apply below_alloc | apply pw_below_drewN | apply below_drew1 | refine below_set ?_ GE270.out | refine below_set ?_ GE273.out | refine below_set ?_ GE274.out | refine below_set ?_ GE275.out) | exact HB.out)) hb)
        have z_HO287 := fun (h0_ : b 9 = true) (h1_ : b 10 = false) => (show Kd.R k40 40 w42 w.heap.size (fun k_ => k_ ≠ gb270 ∧ k_ ≠ gb273 ∧ k_ ≠ gb274 ∧ k_ ≠ gb275) v286 y285 from by first | exact (Kd.R_below (by (with_reducible repeat (first | apply Kd.R_alloc | apply Kd.R_drewN | apply Kd.R_drew)); exact (Q_HO287 h0_ h1_)) hb) | exact Kd.R_mono (Kd.R_below (by (with_reducible repeat (first | apply Kd.R_alloc | apply Kd.R_drewN | apply Kd.R_drew)); exact (Q_HO287 h0_ h1_)) hb) (fun _ h_ => by first | trivial | exact h_ | exact h_.1))
        have z_HO290 := fun (h0_ : b 10 = true) => (show Kd.N (Kd.slice 40 k40) 54 w42 w.heap.size (fun k_ => k_ ≠ gb270 ∧ k_ ≠ gb273 ∧ k_ ≠ gb274 ∧ k_ ≠ gb275) v289 y288 from by first | exact (Kd.N_elder' (by (with_reducible repeat (first | apply Kd.N_alloc | apply Kd.N_drewN | apply Kd.N_drew)); exact (Q_HO290 h0_)) (Kd.R_base ho0) hb) | exact Kd.N_mono (Kd.N_elder' (by (with_reducible repeat (first | apply Kd.N_alloc | apply Kd.N_drewN | apply Kd.N_drew)); exact (Q_HO290 h0_)) (Kd.R_base ho0) hb) (fun _ h_ => by first | trivial | exact h_ | exact h_.1))
        have z_HO296 := fun (h0_ : b 16 = true) (h1_ : b 17 = false) => (show Kd.R k40 40 w42 w.heap.size (fun k_ => k_ ≠ gb270 ∧ k_ ≠ gb273 ∧ k_ ≠ gb274 ∧ k_ ≠ gb275) v295 y294 from by first | exact (Kd.R_below (by (with_reducible repeat (first | apply Kd.R_alloc | apply Kd.R_drewN | apply Kd.R_drew)); exact (Q_HO296 h0_ h1_)) hb) | exact Kd.R_mono (Kd.R_below (by (with_reducible repeat (first | apply Kd.R_alloc | apply Kd.R_drewN | apply Kd.R_drew)); exact (Q_HO296 h0_ h1_)) hb) (fun _ h_ => by first | trivial | exact h_ | exact h_.1))
        have z_HO299 := fun (h0_ : b 17 = true) => (show Kd.N (Kd.slice 40 k40) 54 w42 w.heap.size (fun k_ => k_ ≠ gb270 ∧ k_ ≠ gb273 ∧ k_ ≠ gb274 ∧ k_ ≠ gb275) v298 y297 from by first | exact (Kd.N_elder' (by (with_reducible repeat (first | apply Kd.N_alloc | apply Kd.N_drewN | apply Kd.N_drew)); exact (Q_HO299 h0_)) (Kd.R_base ho0) hb) | exact Kd.N_mono (Kd.N_elder' (by (with_reducible repeat (first | apply Kd.N_alloc | apply Kd.N_drewN | apply Kd.N_drew)); exact (Q_HO299 h0_)) (Kd.R_base ho0) hb) (fun _ h_ => by first | trivial | exact h_ | exact h_.1))
        clear HO281
        clear BK270
        clear BK273
        clear BK274
        clear BK275
        clear HB
        have HO281 := n0_
        have HO284 := n1_
        have BK270 := n2_
        have BK273 := n3_
        have BK274 := n4_
        have BK275 := n5_
        have HB := n6_
        clear n0_ n1_ n2_ n3_ n4_ n5_ n6_
        (try clear hb)
        (try clear hb2)
        (try clear hk)
        (try clear hi)
        (try clear ho0)
        refine hK.out _ _ ⟨v277, .slice Ao41 y279.length co41, v283, v286, v289, v292, v295, v298, v301, m19_, m20_, m21_, (by rw [ha.out]; exact putSel_upk 5 hb_ rfl rfl rfl), (by (with_reducible repeat (first | refine blk_drewN ?_ _ | refine blk_drew ?_ | refine blk_alloc ?_ _)); exact BK270.out), (by (with_reducible repeat (first | refine blk_drewN ?_ _ | refine blk_drew ?_ | refine blk_alloc ?_ _)); exact BK273.out), (by (with_reducible repeat (first | refine blk_drewN ?_ _ | refine blk_drew ?_ | refine blk_alloc ?_ _)); exact BK274.out), (by (with_reducible repeat (first | refine blk_drewN ?_ _ | refine blk_drew ?_ | refine blk_alloc ?_ _)); exact BK275.out), (by repeat (first | (with_reducible first | exact HB.out | apply below_alloc | apply pw_below_drewN | apply below_drew1 | refine below_set ?_ GE270.out | refine below_set ?_ GE273.out | refine below_set ?_ GE274.out | refine below_set ?_ GE275.out) | exact HB.out)), fun _ h1_ => absurd ((hon 4 (by kernel_rfl)).symm.trans h1_) (by decide), fun _ => (by (with_reducible repeat (first | apply Kd.N_alloc | apply Kd.N_drewN | apply Kd.N_drew)); exact Kd.N_mono HO281.out (fun _ hk => by first | exact ⟨hk.2, ⟨hk.1.1, ⟨hk.1.2.1, ⟨hk.1.2.2.1, hk.1.2.2.2⟩⟩⟩⟩ | exact trivial | exact hk.1 | exact hk | simp_all)), fun _ => (by (with_reducible repeat (first | apply Kd.R_alloc | apply Kd.R_drewN | apply Kd.R_drew)); (first | exact HO284.out | exact Kd.R_mono HO284.out (fun _ _ => trivial))), z_HO287, z_HO290, fun h0_ => absurd ((hoff 11 (by kernel_rfl)).symm.trans h0_) (by decide), z_HO296, z_HO299, fun h0_ => absurd ((hoff 18 (by kernel_rfl)).symm.trans h0_) (by decide), fun h0_ => absurd ((hoff 19 (by kernel_rfl)).symm.trans h0_) (by decide), fun h0_ => absurd ((hoff 20 (by kernel_rfl)).symm.trans h0_) (by decide), fun h0_ => absurd ((hoff 21 (by kernel_rfl)).symm.trans h0_) (by decide)⟩
      refine steps_cons ?_ ?_
      · rintro b a w' ⟨v277, v280, v283, v286, v289, v292, v295, v298, v301, m19_, m20_, m21_, ha, Q_BK270, Q_BK273, Q_BK274, Q_BK275, Q_HB, Q_HO278, Q_HO281, Q_HO284, Q_HO287, Q_HO290, Q_HO293, Q_HO296, Q_HO299, Q_HO302, Q_X19_, Q_X20_, Q_X21_⟩ hb_ hon hoff
        refine ⟨_, rfl, fun K hK => ?_⟩
        have e9 : a.tmps[9]? = some (.pointer (some ⟨gb270, 0, none⟩)) := by rw [ha]; exact (putSel_off rfl).trans rfl
        replace ha := Aside0.mk ha
        have BK270 := Aside0.mk Q_BK270
        have BK273 := Aside0.mk Q_BK273
        have BK274 := Aside0.mk Q_BK274
        have BK275 := Aside0.mk Q_BK275
        have HB := Aside0.mk Q_HB
        have hc0_ : w'.cell? ⟨gb270, 0, none⟩ = some (.int .i64 t268) := (blk_cell BK270.out 0).trans rfl
        have hc1_ : w'.cell? ⟨gb270, 1, none⟩ = some (.int .i64 t269) := (blk_cell BK270.out 1).trans rfl
        refine value_ (w1 := w') (v := .agg #[.int .i64 t268, .int .i64 t269]) (by rfl) rfl ?_ ?_
        · go_simp
          (try simp only [i64_w])
          try rfl
        refine hK.out _ _ ⟨v277, v280, v283, v286, v289, v292, v295, v298, v301, m19_, m20_, m21_, (by rw [ha.out]; exact putSel_upk 6 hb_ rfl rfl rfl), Q_BK270, Q_BK273, Q_BK274, Q_BK275, Q_HB, Q_HO278, Q_HO281, Q_HO284, fun h0_ _ => absurd ((hoff 9 (by kernel_rfl)).symm.trans h0_) (by decide), fun h0_ => absurd ((hoff 10 (by kernel_rfl)).symm.trans h0_) (by decide), fun h0_ => absurd ((hoff 11 (by kernel_rfl)).symm.trans h0_) (by decide), Q_HO296, Q_HO299, fun h0_ => absurd ((hoff 18 (by kernel_rfl)).symm.trans h0_) (by decide), fun h0_ => absurd ((hoff 19 (by kernel_rfl)).symm.trans h0_) (by decide), fun h0_ => absurd ((hoff 20 (by kernel_rfl)).symm.trans h0_) (by decide), fun h0_ => absurd ((hoff 21 (by kernel_rfl)).symm.trans h0_) (by decide)⟩
      refine steps_cons ?_ ?_
      · rintro b a w' ⟨v277, v280, v283, v286, v289, v292, v295, v298, v301, m19_, m20_, m21_, ha, Q_BK270, Q_BK273, Q_BK274, Q_BK275, Q_HB, Q_HO278, Q_HO281, Q_HO284, Q_HO287, Q_HO290, Q_HO293, Q_HO296, Q_HO299, Q_HO302, Q_X19_, Q_X20_, Q_X21_⟩ hb_ hon hoff
        refine ⟨_, rfl, fun K hK => ?_⟩
        have e10 : a.tmps[10]? = some (.pointer (some ⟨gb273, 0, none⟩)) := by rw [ha]; exact (putSel_off rfl).trans rfl
        replace ha := Aside0.mk ha
        have BK270 := Aside0.mk Q_BK270
        have BK273 := Aside0.mk Q_BK273
        have BK274 := Aside0.mk Q_BK274
        have BK275 := Aside0.mk Q_BK275
        have HB := Aside0.mk Q_HB
        have hc0_ : w'.cell? ⟨gb273, 0, none⟩ = some (.int .i64 (wrap64 ((wrap64 (t268 + 1)) + t271))) := (blk_cell BK273.out 0).trans rfl
        have hc1_ : w'.cell? ⟨gb273, 1, none⟩ = some (.int .i64 (wrap64 ((wrap64 (t269 + 1)) + t272))) := (blk_cell BK273.out 1).trans rfl
        refine value_ (w1 := w') (v := .agg #[.int .i64 (wrap64 ((wrap64 (t268 + 1)) + t271)), .int .i64 (wrap64 ((wrap64 (t269 + 1)) + t272))]) (by rfl) rfl ?_ ?_
        · go_simp
          (try simp only [i64_w])
          try rfl
        refine hK.out _ _ ⟨v277, v280, v283, v286, v289, v292, v295, v298, v301, m19_, m20_, m21_, (by rw [ha.out]; exact putSel_upk 7 hb_ rfl rfl rfl), Q_BK270, Q_BK273, Q_BK274, Q_BK275, Q_HB, Q_HO278, Q_HO281, Q_HO284, fun h0_ _ => absurd ((hoff 9 (by kernel_rfl)).symm.trans h0_) (by decide), fun h0_ => absurd ((hoff 10 (by kernel_rfl)).symm.trans h0_) (by decide), fun h0_ => absurd ((hoff 11 (by kernel_rfl)).symm.trans h0_) (by decide), Q_HO296, Q_HO299, fun h0_ => absurd ((hoff 18 (by kernel_rfl)).symm.trans h0_) (by decide), fun h0_ => absurd ((hoff 19 (by kernel_rfl)).symm.trans h0_) (by decide), fun h0_ => absurd ((hoff 20 (by kernel_rfl)).symm.trans h0_) (by decide), fun h0_ => absurd ((hoff 21 (by kernel_rfl)).symm.trans h0_) (by decide)⟩
      refine steps_cons ?_ ?_
      · rintro b a w' ⟨v277, v280, v283, v286, v289, v292, v295, v298, v301, m19_, m20_, m21_, ha, Q_BK270, Q_BK273, Q_BK274, Q_BK275, Q_HB, Q_HO278, Q_HO281, Q_HO284, Q_HO287, Q_HO290, Q_HO293, Q_HO296, Q_HO299, Q_HO302, Q_X19_, Q_X20_, Q_X21_⟩ hb_ hon hoff
        refine ⟨_, rfl, fun K hK => ?_⟩
        have e12 : a.tmps[12]? = some (.pointer (some ⟨gb275, 0, none⟩)) := by rw [ha]; exact (putSel_off rfl).trans rfl
        replace ha := Aside0.mk ha
        have BK270 := Aside0.mk Q_BK270
        have BK273 := Aside0.mk Q_BK273
        have BK274 := Aside0.mk Q_BK274
        have BK275 := Aside0.mk Q_BK275
        have HB := Aside0.mk Q_HB
        have hc0_ : w'.cell? ⟨gb275, 0, none⟩ = some (.int .i64 t268) := (blk_cell BK275.out 0).trans rfl
        have hc1_ : w'.cell? ⟨gb275, 1, none⟩ = some (.int .i64 (wrap64 ((wrap64 (t269 + 1)) + t272))) := (blk_cell BK275.out 1).trans rfl
        refine value_ (w1 := w') (v := .agg #[.int .i64 t268, .int .i64 (wrap64 ((wrap64 (t269 + 1)) + t272))]) (by rfl) rfl ?_ ?_
        · go_simp
          (try simp only [i64_w])
          try rfl
        refine hK.out _ _ ⟨v277, v280, v283, v286, v289, v292, v295, v298, v301, m19_, m20_, m21_, (by rw [ha.out]; exact putSel_upk 8 hb_ rfl rfl rfl), Q_BK270, Q_BK273, Q_BK274, Q_BK275, Q_HB, Q_HO278, Q_HO281, Q_HO284, fun h0_ _ => absurd ((hoff 9 (by kernel_rfl)).symm.trans h0_) (by decide), fun h0_ => absurd ((hoff 10 (by kernel_rfl)).symm.trans h0_) (by decide), fun h0_ => absurd ((hoff 11 (by kernel_rfl)).symm.trans h0_) (by decide), Q_HO296, Q_HO299, fun h0_ => absurd ((hoff 18 (by kernel_rfl)).symm.trans h0_) (by decide), fun h0_ => absurd ((hoff 19 (by kernel_rfl)).symm.trans h0_) (by decide), fun h0_ => absurd ((hoff 20 (by kernel_rfl)).symm.trans h0_) (by decide), fun h0_ => absurd ((hoff 21 (by kernel_rfl)).symm.trans h0_) (by decide)⟩
      refine steps_cons ?_ ?_
      · rintro b a w' ⟨v277, v280, v283, v286, v289, v292, v295, v298, v301, m19_, m20_, m21_, ha, Q_BK270, Q_BK273, Q_BK274, Q_BK275, Q_HB, Q_HO278, Q_HO281, Q_HO284, Q_HO287, Q_HO290, Q_HO293, Q_HO296, Q_HO299, Q_HO302, Q_X19_, Q_X20_, Q_X21_⟩ hb_ hon hoff
        refine ⟨_, rfl, fun K hK => ?_⟩
        have e53 : a.tmps[53]? = some (.agg #[.int .i64 t268, .int .i64 t269]) := by rw [ha]; exact putSel_on (e := (6, 53, .agg #[.int .i64 t268, .int .i64 t269])) 6 rfl rfl (hon 6 (by kernel_rfl)) rfl
        have e54 : a.tmps[54]? = some (.agg #[.int .i64 (wrap64 ((wrap64 (t268 + 1)) + t271)), .int .i64 (wrap64 ((wrap64 (t269 + 1)) + t272))]) := by rw [ha]; exact putSel_on (e := (7, 54, .agg #[.int .i64 (wrap64 ((wrap64 (t268 + 1)) + t271)), .int .i64 (wrap64 ((wrap64 (t269 + 1)) + t272))])) 7 rfl rfl (hon 7 (by kernel_rfl)) rfl
        have e55 : a.tmps[55]? = some (.agg #[.int .i64 t268, .int .i64 (wrap64 ((wrap64 (t269 + 1)) + t272))]) := by rw [ha]; exact putSel_on (e := (8, 55, .agg #[.int .i64 t268, .int .i64 (wrap64 ((wrap64 (t269 + 1)) + t272))])) 8 rfl rfl (hon 8 (by kernel_rfl)) rfl
        replace ha := Aside0.mk ha
        have BK270 := Aside0.mk Q_BK270
        have BK273 := Aside0.mk Q_BK273
        have BK274 := Aside0.mk Q_BK274
        have BK275 := Aside0.mk Q_BK275
        have HB := Aside0.mk Q_HB
        refine Kd.R_lit_step k40 _ 40 ?hg (N := 56) ?hd (xs := ([(⟨t268, t269⟩ : S40), (⟨wrap64 ((wrap64 (t268 + 1)) + t271), wrap64 ((wrap64 (t269 + 1)) + t272)⟩ : S40), (⟨t268, wrap64 ((wrap64 (t269 + 1)) + t272)⟩ : S40)] : List (S40))) (inner := [.int .i64 t268, .int .i64 t269, .int .i64 (wrap64 ((wrap64 (t268 + 1)) + t271)), .int .i64 (wrap64 ((wrap64 (t269 + 1)) + t272)), .int .i64 t268, .int .i64 (wrap64 ((wrap64 (t269 + 1)) + t272))]) (ok := fun _ => True) (okp := fun _ => True) ?hr ?hp (fun _ hk => hk) trivial (Below.refl _ _) (Nat.le_refl _) (by simp) ?_; (case hd => rfl); (case hg => rfl); (case hr => first | (go_simp; done) | (go_simp; rfl)); (case hp => exact (Reps.c2 (show Kd.M k40 _ _ _ (⟨t268, t269⟩ : S40) [.int .i64 t268, .int .i64 t269] from (k40_mkM _ _ _ (⟨t268, t269⟩ : S40) )) (Reps.c2 (show Kd.M k40 _ _ _ (⟨wrap64 ((wrap64 (t268 + 1)) + t271), wrap64 ((wrap64 (t269 + 1)) + t272)⟩ : S40) [.int .i64 (wrap64 ((wrap64 (t268 + 1)) + t271)), .int .i64 (wrap64 ((wrap64 (t269 + 1)) + t272))] from (k40_mkM _ _ _ (⟨wrap64 ((wrap64 (t268 + 1)) + t271), wrap64 ((wrap64 (t269 + 1)) + t272)⟩ : S40) )) (Reps.c2 (show Kd.M k40 _ _ _ (⟨t268, wrap64 ((wrap64 (t269 + 1)) + t272)⟩ : S40) [.int .i64 t268, .int .i64 (wrap64 ((wrap64 (t269 + 1)) + t272))] from (k40_mkM _ _ _ (⟨t268, wrap64 ((wrap64 (t269 + 1)) + t272)⟩ : S40) )) (Reps.none _ _)))))
        intro v286 w35 ho36 hb hg_ hnew_
        clear hg_ hnew_
        (first | rw [← Ny285.out] at ho36 | (simp only [Int.reduceToNat] at ho36; rw [← Ny285.out] at ho36))
        have n0_ := Aside0.mk (Kd.R_lower (Kd.R_newB (Kd.R_newB (Kd.R_newB (Kd.R_newB ho36 (g := gb270) (o := .cells #[.int .i64 t268, .int .i64 t269] 40 (0, 0)) (by (with_reducible repeat (first | refine blk_drewN ?_ _ | refine blk_drew ?_ | refine blk_alloc ?_ _)); exact BK270.out)) (g := gb273) (o := .cells #[.int .i64 (wrap64 ((wrap64 (t268 + 1)) + t271)), .int .i64 (wrap64 ((wrap64 (t269 + 1)) + t272))] 40 (0, 0)) (by (with_reducible repeat (first | refine blk_drewN ?_ _ | refine blk_drew ?_ | refine blk_alloc ?_ _)); exact BK273.out)) (g := gb274) (o := .cells #[.int .i64 (wrap64 ((wrap64 (t268 + 1)) + t271)), .int .i64 t269] 40 (0, 0)) (by (with_reducible repeat (first | refine blk_drewN ?_ _ | refine blk_drew ?_ | refine blk_alloc ?_ _)); exact BK274.out)) (g := gb275) (o := .cells #[.int .i64 t268, .int .i64 (wrap64 ((wrap64 (t269 + 1)) + t272))] 40 (0, 0)) (by (with_reducible repeat (first | refine blk_drewN ?_ _ | refine blk_drew ?_ | refine blk_alloc ?_ _)); exact BK275.out)) (below_size (by repeat (first | (with_reducible first | exact HB.out | apply below_alloc | apply pw_below_drewN | apply below_drew1 | refine below_set ?_ GE270.out | refine below_set ?_ GE273.out | refine below_set ?_ GE274.out | refine below_set ?_ GE275.out) | exact HB.out))))
        have n1_ := Aside0.mk (blk_below (g := gb270) (o := .cells #[.int .i64 t268, .int .i64 t269] 40 (0, 0)) (by (with_reducible repeat (first | refine blk_drewN ?_ _ | refine blk_drew ?_ | refine blk_alloc ?_ _)); exact BK270.out) hb)
        have n2_ := Aside0.mk (blk_below (g := gb273) (o := .cells #[.int .i64 (wrap64 ((wrap64 (t268 + 1)) + t271)), .int .i64 (wrap64 ((wrap64 (t269 + 1)) + t272))] 40 (0, 0)) (by (with_reducible repeat (first | refine blk_drewN ?_ _ | refine blk_drew ?_ | refine blk_alloc ?_ _)); exact BK273.out) hb)
        have n3_ := Aside0.mk (blk_below (g := gb274) (o := .cells #[.int .i64 (wrap64 ((wrap64 (t268 + 1)) + t271)), .int .i64 t269] 40 (0, 0)) (by (with_reducible repeat (first | refine blk_drewN ?_ _ | refine blk_drew ?_ | refine blk_alloc ?_ _)); exact BK274.out) hb)
        have n4_ := Aside0.mk (blk_below (g := gb275) (o := .cells #[.int .i64 t268, .int .i64 (wrap64 ((wrap64 (t269 + 1)) + t272))] 40 (0, 0)) (by (with_reducible repeat (first | refine blk_drewN ?_ _ | refine blk_drew ?_ | refine blk_alloc ?_ _)); exact BK275.out) hb)
        have n5_ := Aside0.mk (below_step (by repeat (first | (with_reducible first | exact HB.out | apply below_alloc | apply pw_below_drewN | apply below_drew1 | refine below_set ?_ GE270.out | refine below_set ?_ GE273.out | refine below_set ?_ GE274.out | refine below_set ?_ GE275.out) | exact HB.out)) hb)
        have z_HO278 := fun (h0_ : b 3 = true) (h1_ : b 4 = false) => (show Kd.R k40 40 w35 w.heap.size (fun k_ => k_ ≠ gb270 ∧ k_ ≠ gb273 ∧ k_ ≠ gb274 ∧ k_ ≠ gb275) v277 y276 from by first | exact (Kd.R_elder' (by (with_reducible repeat (first | apply Kd.R_alloc | apply Kd.R_drewN | apply Kd.R_drew)); exact (Q_HO278 h0_ h1_)) (Kd.R_base ho36) hb) | exact Kd.R_mono (Kd.R_elder' (by (with_reducible repeat (first | apply Kd.R_alloc | apply Kd.R_drewN | apply Kd.R_drew)); exact (Q_HO278 h0_ h1_)) (Kd.R_base ho36) hb) (fun _ h_ => by first | trivial | exact h_ | exact h_.1))
        have z_HO281 := fun (h0_ : b 4 = true) => (show Kd.N (Kd.slice 40 k40) 54 w35 w.heap.size (fun k_ => k_ ≠ gb270 ∧ k_ ≠ gb273 ∧ k_ ≠ gb274 ∧ k_ ≠ gb275) v280 y279 from by first | exact (Kd.N_elder' (by (with_reducible repeat (first | apply Kd.N_alloc | apply Kd.N_drewN | apply Kd.N_drew)); exact (Q_HO281 h0_)) (Kd.R_base ho36) hb) | exact Kd.N_mono (Kd.N_elder' (by (with_reducible repeat (first | apply Kd.N_alloc | apply Kd.N_drewN | apply Kd.N_drew)); exact (Q_HO281 h0_)) (Kd.R_base ho36) hb) (fun _ h_ => by first | trivial | exact h_ | exact h_.1))
        have z_HO284 := fun (h0_ : b 5 = true) => (show Kd.R (Kd.int .i64) 3 w35 w.heap.size (fun _ => True) v283 t282 from by first | exact (Kd.R_below (by (with_reducible repeat (first | apply Kd.R_alloc | apply Kd.R_drewN | apply Kd.R_drew)); exact (Q_HO284 h0_)) hb) | exact Kd.R_mono (Kd.R_below (by (with_reducible repeat (first | apply Kd.R_alloc | apply Kd.R_drewN | apply Kd.R_drew)); exact (Q_HO284 h0_)) hb) (fun _ h_ => by first | trivial | exact h_ | exact h_.1))
        have z_HO296 := fun (h0_ : b 16 = true) (h1_ : b 17 = false) => (show Kd.R k40 40 w35 w.heap.size (fun k_ => k_ ≠ gb270 ∧ k_ ≠ gb273 ∧ k_ ≠ gb274 ∧ k_ ≠ gb275) v295 y294 from by first | exact (Kd.R_elder' (by (with_reducible repeat (first | apply Kd.R_alloc | apply Kd.R_drewN | apply Kd.R_drew)); exact (Q_HO296 h0_ h1_)) (Kd.R_base ho36) hb) | exact Kd.R_mono (Kd.R_elder' (by (with_reducible repeat (first | apply Kd.R_alloc | apply Kd.R_drewN | apply Kd.R_drew)); exact (Q_HO296 h0_ h1_)) (Kd.R_base ho36) hb) (fun _ h_ => by first | trivial | exact h_ | exact h_.1))
        have z_HO299 := fun (h0_ : b 17 = true) => (show Kd.N (Kd.slice 40 k40) 54 w35 w.heap.size (fun k_ => k_ ≠ gb270 ∧ k_ ≠ gb273 ∧ k_ ≠ gb274 ∧ k_ ≠ gb275) v298 y297 from by first | exact (Kd.N_elder' (by (with_reducible repeat (first | apply Kd.N_alloc | apply Kd.N_drewN | apply Kd.N_drew)); exact (Q_HO299 h0_)) (Kd.R_base ho36) hb) | exact Kd.N_mono (Kd.N_elder' (by (with_reducible repeat (first | apply Kd.N_alloc | apply Kd.N_drewN | apply Kd.N_drew)); exact (Q_HO299 h0_)) (Kd.R_base ho36) hb) (fun _ h_ => by first | trivial | exact h_ | exact h_.1))
        clear BK270
        clear BK273
        clear BK274
        clear BK275
        clear HB
        have HO287 := n0_
        have BK270 := n1_
        have BK273 := n2_
        have BK274 := n3_
        have BK275 := n4_
        have HB := n5_
        clear n0_ n1_ n2_ n3_ n4_ n5_
        clear hb ho36
        refine hK.out _ _ ⟨v277, v280, v283, v286, v289, v292, v295, v298, v301, m19_, m20_, m21_, (by rw [ha.out]; exact putSel_upk 9 hb_ rfl rfl rfl), (by (with_reducible repeat (first | refine blk_drewN ?_ _ | refine blk_drew ?_ | refine blk_alloc ?_ _)); exact BK270.out), (by (with_reducible repeat (first | refine blk_drewN ?_ _ | refine blk_drew ?_ | refine blk_alloc ?_ _)); exact BK273.out), (by (with_reducible repeat (first | refine blk_drewN ?_ _ | refine blk_drew ?_ | refine blk_alloc ?_ _)); exact BK274.out), (by (with_reducible repeat (first | refine blk_drewN ?_ _ | refine blk_drew ?_ | refine blk_alloc ?_ _)); exact BK275.out), (by repeat (first | (with_reducible first | exact HB.out | apply below_alloc | apply pw_below_drewN | apply below_drew1 | refine below_set ?_ GE270.out | refine below_set ?_ GE273.out | refine below_set ?_ GE274.out | refine below_set ?_ GE275.out) | exact HB.out)), z_HO278, z_HO281, z_HO284, fun _ _ => (by (with_reducible repeat (first | apply Kd.R_alloc | apply Kd.R_drewN | apply Kd.R_drew)); exact Kd.R_mono HO287.out (fun _ hk => by first | exact ⟨hk.1.1.1.2, ⟨hk.1.1.2, ⟨hk.1.2, hk.2⟩⟩⟩ | exact trivial | exact hk.1 | exact hk | simp_all)), fun h0_ => absurd ((hoff 10 (by kernel_rfl)).symm.trans h0_) (by decide), fun h0_ => absurd ((hoff 11 (by kernel_rfl)).symm.trans h0_) (by decide), z_HO296, z_HO299, fun h0_ => absurd ((hoff 18 (by kernel_rfl)).symm.trans h0_) (by decide), fun h0_ => absurd ((hoff 19 (by kernel_rfl)).symm.trans h0_) (by decide), fun h0_ => absurd ((hoff 20 (by kernel_rfl)).symm.trans h0_) (by decide), fun h0_ => absurd ((hoff 21 (by kernel_rfl)).symm.trans h0_) (by decide)⟩
      refine steps_cons ?_ ?_
      · rintro b a w' ⟨v277, v280, v283, v286, v289, v292, v295, v298, v301, m19_, m20_, m21_, ha, Q_BK270, Q_BK273, Q_BK274, Q_BK275, Q_HB, Q_HO278, Q_HO281, Q_HO284, Q_HO287, Q_HO290, Q_HO293, Q_HO296, Q_HO299, Q_HO302, Q_X19_, Q_X20_, Q_X21_⟩ hb_ hon hoff
        refine ⟨_, rfl, fun K hK => ?_⟩
        have e56 : a.tmps[56]? = some (v286) := by rw [ha]; exact putSel_on (e := (9, 56, v286)) 9 rfl rfl (hon 9 (by kernel_rfl)) rfl
        replace ha := Aside0.mk ha
        have BK270 := Aside0.mk Q_BK270
        have BK273 := Aside0.mk Q_BK273
        have BK274 := Aside0.mk Q_BK274
        have BK275 := Aside0.mk Q_BK275
        have HB := Aside0.mk Q_HB
        have HO287 := Aside0.mk (Q_HO287 (hon 9 (by kernel_rfl)) hb_)
        obtain ⟨Ao38, co38, eo38⟩ := Kd.R_slice HO287.out
        (first | subst eo38 | (injection eo38 with f1_ f2_ f3_; have f4_ := f1_.symm; have f5_ := f3_.symm; clear f1_ f2_ f3_; subst f4_; subst f5_))
        refine Kd.N_lit_step (Kd.slice 40 k40) _ 54 ?hg (N' := 57) ?hd (xs := ([y285] : List (List (S40)))) (inner := [.slice Ao38 y285.length co38]) (ok := (fun k_ => k_ ≠ gb270 ∧ k_ ≠ gb273 ∧ k_ ≠ gb274 ∧ k_ ≠ gb275)) (okp := (fun k_ => k_ ≠ gb270 ∧ k_ ≠ gb273 ∧ k_ ≠ gb274 ∧ k_ ≠ gb275)) ?hr ?hp (fun _ hk => hk) ((show ∀ k_, w'.heap.size ≤ k_ → (fun k_ => k_ ≠ gb270 ∧ k_ ≠ gb273 ∧ k_ ≠ gb274 ∧ k_ ≠ gb275) k_ from fun k_ hk => ⟨Kd.freshB (g := gb270) (o := .cells #[.int .i64 t268, .int .i64 t269] 40 (0, 0)) (by (with_reducible repeat (first | refine blk_drewN ?_ _ | refine blk_drew ?_ | refine blk_alloc ?_ _)); exact BK270.out) k_ hk, Kd.freshB (g := gb273) (o := .cells #[.int .i64 (wrap64 ((wrap64 (t268 + 1)) + t271)), .int .i64 (wrap64 ((wrap64 (t269 + 1)) + t272))] 40 (0, 0)) (by (with_reducible repeat (first | refine blk_drewN ?_ _ | refine blk_drew ?_ | refine blk_alloc ?_ _)); exact BK273.out) k_ hk, Kd.freshB (g := gb274) (o := .cells #[.int .i64 (wrap64 ((wrap64 (t268 + 1)) + t271)), .int .i64 t269] 40 (0, 0)) (by (with_reducible repeat (first | refine blk_drewN ?_ _ | refine blk_drew ?_ | refine blk_alloc ?_ _)); exact BK274.out) k_ hk, Kd.freshB (g := gb275) (o := .cells #[.int .i64 t268, .int .i64 (wrap64 ((wrap64 (t269 + 1)) + t272))] 40 (0, 0)) (by (with_reducible repeat (first | refine blk_drewN ?_ _ | refine blk_drew ?_ | refine blk_alloc ?_ _)); exact BK275.out) k_ hk⟩) _ (Nat.le_refl _)) (Below.refl _ _) (Nat.le_refl _) (by simp) ?_; (case hd => rfl); (case hg => rfl); (case hr => first | (go_simp; done) | (go_simp; rfl)); (case hp => exact (Reps.one (show Kd.FK (Kd.slice 40 k40) _ _ y285 [.slice Ao38 y285.length co38] from (Kd.FK_slice_mk (Kd.R_reads' (Kd.R_mono (ok' := (fun k_ => k_ ≠ gb270 ∧ k_ ≠ gb273 ∧ k_ ≠ gb274 ∧ k_ ≠ gb275)) (HO287.out) (fun k_ hk => ⟨hk.1, ⟨hk.2.1, ⟨hk.2.2.1, hk.2.2.2⟩⟩⟩))).2.1 (Kd.R_F (Kd.R_mono (ok' := (fun k_ => k_ ≠ gb270 ∧ k_ ≠ gb273 ∧ k_ ≠ gb274 ∧ k_ ≠ gb275)) (HO287.out) (fun k_ hk => ⟨hk.1, ⟨hk.2.1, ⟨hk.2.2.1, hk.2.2.2⟩⟩⟩))))) (Reps.none _ _)))
        intro v289 w39 ho40 hb hg_ hnew_
        clear hg_ hnew_
        (first | rw [← Ny288.out] at ho40 | (simp only [Int.reduceToNat] at ho40; rw [← Ny288.out] at ho40))
        have n0_ := Aside0.mk (Kd.N_lower ho40 (below_size (by repeat (first | (with_reducible first | exact HB.out | apply below_alloc | apply pw_below_drewN | apply below_drew1 | refine below_set ?_ GE270.out | refine below_set ?_ GE273.out | refine below_set ?_ GE274.out | refine below_set ?_ GE275.out) | exact HB.out))))
        have n1_ := Aside0.mk (blk_below (g := gb270) (o := .cells #[.int .i64 t268, .int .i64 t269] 40 (0, 0)) (by (with_reducible repeat (first | refine blk_drewN ?_ _ | refine blk_drew ?_ | refine blk_alloc ?_ _)); exact BK270.out) hb)
        have n2_ := Aside0.mk (blk_below (g := gb273) (o := .cells #[.int .i64 (wrap64 ((wrap64 (t268 + 1)) + t271)), .int .i64 (wrap64 ((wrap64 (t269 + 1)) + t272))] 40 (0, 0)) (by (with_reducible repeat (first | refine blk_drewN ?_ _ | refine blk_drew ?_ | refine blk_alloc ?_ _)); exact BK273.out) hb)
        have n3_ := Aside0.mk (blk_below (g := gb274) (o := .cells #[.int .i64 (wrap64 ((wrap64 (t268 + 1)) + t271)), .int .i64 t269] 40 (0, 0)) (by (with_reducible repeat (first | refine blk_drewN ?_ _ | refine blk_drew ?_ | refine blk_alloc ?_ _)); exact BK274.out) hb)
        have n4_ := Aside0.mk (blk_below (g := gb275) (o := .cells #[.int .i64 t268, .int .i64 (wrap64 ((wrap64 (t269 + 1)) + t272))] 40 (0, 0)) (by (with_reducible repeat (first | refine blk_drewN ?_ _ | refine blk_drew ?_ | refine blk_alloc ?_ _)); exact BK275.out) hb)
        have n5_ := Aside0.mk (below_step (by repeat (first | (with_reducible first | exact HB.out | apply below_alloc | apply pw_below_drewN | apply below_drew1 | refine below_set ?_ GE270.out | refine below_set ?_ GE273.out | refine below_set ?_ GE274.out | refine below_set ?_ GE275.out) | exact HB.out)) hb)
        have z_HO278 := fun (h0_ : b 3 = true) (h1_ : b 4 = false) => (show Kd.R k40 40 w39 w.heap.size (fun k_ => k_ ≠ gb270 ∧ k_ ≠ gb273 ∧ k_ ≠ gb274 ∧ k_ ≠ gb275) v277 y276 from by first | exact (Kd.R_below (by (with_reducible repeat (first | apply Kd.R_alloc | apply Kd.R_drewN | apply Kd.R_drew)); exact (Q_HO278 h0_ h1_)) hb) | exact Kd.R_mono (Kd.R_below (by (with_reducible repeat (first | apply Kd.R_alloc | apply Kd.R_drewN | apply Kd.R_drew)); exact (Q_HO278 h0_ h1_)) hb) (fun _ h_ => by first | trivial | exact h_ | exact h_.1))
        have z_HO281 := fun (h0_ : b 4 = true) => (show Kd.N (Kd.slice 40 k40) 54 w39 w.heap.size (fun k_ => k_ ≠ gb270 ∧ k_ ≠ gb273 ∧ k_ ≠ gb274 ∧ k_ ≠ gb275) v280 y279 from by first | exact (Kd.N_elder' (by (with_reducible repeat (first | apply Kd.N_alloc | apply Kd.N_drewN | apply Kd.N_drew)); exact (Q_HO281 h0_)) (Kd.N_base ho40) hb) | exact Kd.N_mono (Kd.N_elder' (by (with_reducible repeat (first | apply Kd.N_alloc | apply Kd.N_drewN | apply Kd.N_drew)); exact (Q_HO281 h0_)) (Kd.N_base ho40) hb) (fun _ h_ => by first | trivial | exact h_ | exact h_.1))
        have z_HO284 := fun (h0_ : b 5 = true) => (show Kd.R (Kd.int .i64) 3 w39 w.heap.size (fun _ => True) v283 t282 from by first | exact (Kd.R_below (by (with_reducible repeat (first | apply Kd.R_alloc | apply Kd.R_drewN | apply Kd.R_drew)); exact (Q_HO284 h0_)) hb) | exact Kd.R_mono (Kd.R_below (by (with_reducible repeat (first | apply Kd.R_alloc | apply Kd.R_drewN | apply Kd.R_drew)); exact (Q_HO284 h0_)) hb) (fun _ h_ => by first | trivial | exact h_ | exact h_.1))
        have z_HO296 := fun (h0_ : b 16 = true) (h1_ : b 17 = false) => (show Kd.R k40 40 w39 w.heap.size (fun k_ => k_ ≠ gb270 ∧ k_ ≠ gb273 ∧ k_ ≠ gb274 ∧ k_ ≠ gb275) v295 y294 from by first | exact (Kd.R_below (by (with_reducible repeat (first | apply Kd.R_alloc | apply Kd.R_drewN | apply Kd.R_drew)); exact (Q_HO296 h0_ h1_)) hb) | exact Kd.R_mono (Kd.R_below (by (with_reducible repeat (first | apply Kd.R_alloc | apply Kd.R_drewN | apply Kd.R_drew)); exact (Q_HO296 h0_ h1_)) hb) (fun _ h_ => by first | trivial | exact h_ | exact h_.1))
        have z_HO299 := fun (h0_ : b 17 = true) => (show Kd.N (Kd.slice 40 k40) 54 w39 w.heap.size (fun k_ => k_ ≠ gb270 ∧ k_ ≠ gb273 ∧ k_ ≠ gb274 ∧ k_ ≠ gb275) v298 y297 from by first | exact (Kd.N_elder' (by (with_reducible repeat (first | apply Kd.N_alloc | apply Kd.N_drewN | apply Kd.N_drew)); exact (Q_HO299 h0_)) (Kd.N_base ho40) hb) | exact Kd.N_mono (Kd.N_elder' (by (with_reducible repeat (first | apply Kd.N_alloc | apply Kd.N_drewN | apply Kd.N_drew)); exact (Q_HO299 h0_)) (Kd.N_base ho40) hb) (fun _ h_ => by first | trivial | exact h_ | exact h_.1))
        clear BK270
        clear BK273
        clear BK274
        clear BK275
        clear HB
        clear HO287
        have HO290 := n0_
        have BK270 := n1_
        have BK273 := n2_
        have BK274 := n3_
        have BK275 := n4_
        have HB := n5_
        clear n0_ n1_ n2_ n3_ n4_ n5_
        clear hb ho40
        refine hK.out _ _ ⟨v277, v280, v283, .slice Ao38 y285.length co38, v289, v292, v295, v298, v301, m19_, m20_, m21_, (by rw [ha.out]; exact putSel_upk 10 hb_ rfl rfl rfl), (by (with_reducible repeat (first | refine blk_drewN ?_ _ | refine blk_drew ?_ | refine blk_alloc ?_ _)); exact BK270.out), (by (with_reducible repeat (first | refine blk_drewN ?_ _ | refine blk_drew ?_ | refine blk_alloc ?_ _)); exact BK273.out), (by (with_reducible repeat (first | refine blk_drewN ?_ _ | refine blk_drew ?_ | refine blk_alloc ?_ _)); exact BK274.out), (by (with_reducible repeat (first | refine blk_drewN ?_ _ | refine blk_drew ?_ | refine blk_alloc ?_ _)); exact BK275.out), (by repeat (first | (with_reducible first | exact HB.out | apply below_alloc | apply pw_below_drewN | apply below_drew1 | refine below_set ?_ GE270.out | refine below_set ?_ GE273.out | refine below_set ?_ GE274.out | refine below_set ?_ GE275.out) | exact HB.out)), z_HO278, z_HO281, z_HO284, fun _ h1_ => absurd ((up_self b 10).symm.trans h1_) (by decide), fun _ => (by (with_reducible repeat (first | apply Kd.N_alloc | apply Kd.N_drewN | apply Kd.N_drew)); (first | exact HO290.out | exact Kd.R_mono HO290.out (fun _ _ => trivial))), fun h0_ => absurd ((hoff 11 (by kernel_rfl)).symm.trans h0_) (by decide), z_HO296, z_HO299, fun h0_ => absurd ((hoff 18 (by kernel_rfl)).symm.trans h0_) (by decide), fun h0_ => absurd ((hoff 19 (by kernel_rfl)).symm.trans h0_) (by decide), fun h0_ => absurd ((hoff 20 (by kernel_rfl)).symm.trans h0_) (by decide), fun h0_ => absurd ((hoff 21 (by kernel_rfl)).symm.trans h0_) (by decide)⟩
      refine steps_cons ?_ ?_
      · rintro b a w' ⟨v277, v280, v283, v286, v289, v292, v295, v298, v301, m19_, m20_, m21_, ha, Q_BK270, Q_BK273, Q_BK274, Q_BK275, Q_HB, Q_HO278, Q_HO281, Q_HO284, Q_HO287, Q_HO290, Q_HO293, Q_HO296, Q_HO299, Q_HO302, Q_X19_, Q_X20_, Q_X21_⟩ hb_ hon hoff
        refine ⟨_, rfl, fun K hK => ?_⟩
        have e57 : a.tmps[57]? = some (v289) := by rw [ha]; exact putSel_on (e := (10, 57, v289)) 10 rfl rfl (hon 10 (by kernel_rfl)) rfl
        replace ha := Aside0.mk ha
        have BK270 := Aside0.mk Q_BK270
        have BK273 := Aside0.mk Q_BK273
        have BK274 := Aside0.mk Q_BK274
        have BK275 := Aside0.mk Q_BK275
        have HB := Aside0.mk Q_HB
        have HO281 := Aside0.mk (Q_HO281 (hon 4 (by kernel_rfl)))
        have HO284 := Aside0.mk (Q_HO284 (hon 5 (by kernel_rfl)))
        have HO290 := Aside0.mk (Q_HO290 (hon 10 (by kernel_rfl)))
        obtain ⟨Ao48, co48, eo48⟩ := Kd.N_slice HO290.out
        (first | subst eo48 | (injection eo48 with f1_ f2_ f3_; have f4_ := f1_.symm; have f5_ := f3_.symm; clear f1_ f2_ f3_; subst f4_; subst f5_))
        refine goes_ Try.func43 (by kernel_rfl) rfl #[.slice Ao48 y288.length co48] (by rfl) rfl rfl (by first | (simp only [List.map_toArray, List.map_cons, List.map_nil, Act.eval, Array.getD_eq_getD_getElem?, Option.getD_some, e57]; done) | (simp only [List.map_toArray, List.map_cons, List.map_nil, Act.eval, Array.getD_eq_getD_getElem?, Option.getD_some, e57]; rfl)) ?_
        with_reducible refine (raster_Cover.calls k _ _ y288 t291 _ ?side1 ?side2 A12.out).mono ?_
        (case side1 => repeat (first | exact (Kd.N_reads' HO290.out).2.2 | (with_reducible refine Kd.C_alloc ?_ _) | (with_reducible refine Kd.C_drewN ?_ _) | (with_reducible refine Kd.C_drew ?_)))
        (case side2 => exact (Kd.N_reads' HO290.out).2.1)
        rintro e w49 ⟨v292, rfl, ho0, hb⟩
        refine ⟨_, rfl, ?_⟩
        have n0_ := Aside0.mk (Kd.N_elder' (by (with_reducible repeat (first | apply Kd.N_alloc | apply Kd.N_drewN | apply Kd.N_drew)); (first | exact HO281.out | exact Kd.R_mono HO281.out (fun _ _ => trivial))) (Kd.R_base ho0) hb)
        have n1_ := Aside0.mk (Kd.R_elder' (by (with_reducible repeat (first | apply Kd.R_alloc | apply Kd.R_drewN | apply Kd.R_drew)); (first | exact HO284.out | exact Kd.R_mono HO284.out (fun _ _ => trivial))) (Kd.R_base ho0) hb)
        have n2_ := Aside0.mk (Kd.N_elder' (by (with_reducible repeat (first | apply Kd.N_alloc | apply Kd.N_drewN | apply Kd.N_drew)); (first | exact HO290.out | exact Kd.R_mono HO290.out (fun _ _ => trivial))) (Kd.R_base ho0) hb)
        have n3_ := Aside0.mk (Kd.R_lower (Kd.R_new' ho0 (Kd.R_lt (by (with_reducible repeat (first | apply Kd.R_alloc | apply Kd.R_drewN | apply Kd.R_drew)); (first | exact HO284.out | exact Kd.R_mono HO284.out (fun _ _ => trivial))))) (below_size (by repeat (first | (with_reducible first | exact HB.out | apply below_alloc | apply pw_below_drewN | apply below_drew1 | refine below_set ?_ GE270.out | refine below_set ?_ GE273.out | refine below_set ?_ GE274.out | refine below_set ?_ GE275.out) | exact HB.out))))
        have n4_ := Aside0.mk (blk_below (g := gb270) (o := .cells #[.int .i64 t268, .int .i64 t269] 40 (0, 0)) (by (with_reducible repeat (first | refine blk_drewN ?_ _ | refine blk_drew ?_ | refine blk_alloc ?_ _)); exact BK270.out) hb)
        have n5_ := Aside0.mk (blk_below (g := gb273) (o := .cells #[.int .i64 (wrap64 ((wrap64 (t268 + 1)) + t271)), .int .i64 (wrap64 ((wrap64 (t269 + 1)) + t272))] 40 (0, 0)) (by (with_reducible repeat (first | refine blk_drewN ?_ _ | refine blk_drew ?_ | refine blk_alloc ?_ _)); exact BK273.out) hb)
        have n6_ := Aside0.mk (blk_below (g := gb274) (o := .cells #[.int .i64 (wrap64 ((wrap64 (t268 + 1)) + t271)), .int .i64 t269] 40 (0, 0)) (by (with_reducible repeat (first | refine blk_drewN ?_ _ | refine blk_drew ?_ | refine blk_alloc ?_ _)); exact BK274.out) hb)
        have n7_ := Aside0.mk (blk_below (g := gb275) (o := .cells #[.int .i64 t268, .int .i64 (wrap64 ((wrap64 (t269 + 1)) + t272))] 40 (0, 0)) (by (with_reducible repeat (first | refine blk_drewN ?_ _ | refine blk_drew ?_ | refine blk_alloc ?_ _)); exact BK275.out) hb)
        have n8_ := Aside0.mk (below_step (by repeat (first | (with_reducible first | exact HB.out | apply below_alloc | apply pw_below_drewN | apply below_drew1 | refine below_set ?_ GE270.out | refine below_set ?_ GE273.out | refine below_set ?_ GE274.out | refine below_set ?_ GE275.out) | exact HB.out)) hb)
        have z_HO296 := fun (h0_ : b 16 = true) (h1_ : b 17 = false) => (show Kd.R k40 40 w49 w.heap.size (fun k_ => k_ ≠ gb270 ∧ k_ ≠ gb273 ∧ k_ ≠ gb274 ∧ k_ ≠ gb275) v295 y294 from by first | exact (Kd.R_below (by (with_reducible repeat (first | apply Kd.R_alloc | apply Kd.R_drewN | apply Kd.R_drew)); exact (Q_HO296 h0_ h1_)) hb) | exact Kd.R_mono (Kd.R_below (by (with_reducible repeat (first | apply Kd.R_alloc | apply Kd.R_drewN | apply Kd.R_drew)); exact (Q_HO296 h0_ h1_)) hb) (fun _ h_ => by first | trivial | exact h_ | exact h_.1))
        have z_HO299 := fun (h0_ : b 17 = true) => (show Kd.N (Kd.slice 40 k40) 54 w49 w.heap.size (fun k_ => k_ ≠ gb270 ∧ k_ ≠ gb273 ∧ k_ ≠ gb274 ∧ k_ ≠ gb275) v298 y297 from by first | exact (Kd.N_elder' (by (with_reducible repeat (first | apply Kd.N_alloc | apply Kd.N_drewN | apply Kd.N_drew)); exact (Q_HO299 h0_)) (Kd.R_base ho0) hb) | exact Kd.N_mono (Kd.N_elder' (by (with_reducible repeat (first | apply Kd.N_alloc | apply Kd.N_drewN | apply Kd.N_drew)); exact (Q_HO299 h0_)) (Kd.R_base ho0) hb) (fun _ h_ => by first | trivial | exact h_ | exact h_.1))
        clear HO281
        clear HO284
        clear HO290
        clear BK270
        clear BK273
        clear BK274
        clear BK275
        clear HB
        have HO281 := n0_
        have HO284 := n1_
        have HO290 := n2_
        have HO293 := n3_
        have BK270 := n4_
        have BK273 := n5_
        have BK274 := n6_
        have BK275 := n7_
        have HB := n8_
        clear n0_ n1_ n2_ n3_ n4_ n5_ n6_ n7_ n8_
        (try clear hb)
        (try clear hb2)
        (try clear hk)
        (try clear hi)
        (try clear ho0)
        refine hK.out _ _ ⟨v277, v280, v283, v286, .slice Ao48 y288.length co48, v292, v295, v298, v301, m19_, m20_, m21_, (by rw [ha.out]; exact putSel_upk 11 hb_ rfl rfl rfl), (by (with_reducible repeat (first | refine blk_drewN ?_ _ | refine blk_drew ?_ | refine blk_alloc ?_ _)); exact BK270.out), (by (with_reducible repeat (first | refine blk_drewN ?_ _ | refine blk_drew ?_ | refine blk_alloc ?_ _)); exact BK273.out), (by (with_reducible repeat (first | refine blk_drewN ?_ _ | refine blk_drew ?_ | refine blk_alloc ?_ _)); exact BK274.out), (by (with_reducible repeat (first | refine blk_drewN ?_ _ | refine blk_drew ?_ | refine blk_alloc ?_ _)); exact BK275.out), (by repeat (first | (with_reducible first | exact HB.out | apply below_alloc | apply pw_below_drewN | apply below_drew1 | refine below_set ?_ GE270.out | refine below_set ?_ GE273.out | refine below_set ?_ GE274.out | refine below_set ?_ GE275.out) | exact HB.out)), fun _ h1_ => absurd ((hon 4 (by kernel_rfl)).symm.trans h1_) (by decide), fun _ => (by (with_reducible repeat (first | apply Kd.N_alloc | apply Kd.N_drewN | apply Kd.N_drew)); exact Kd.N_mono HO281.out (fun _ hk => by first | exact ⟨hk.1.1, ⟨hk.1.2.1, ⟨hk.2, ⟨hk.1.2.2.1, ⟨hk.1.2.2.2.1, ⟨hk.1.2.2.2.2.1, hk.1.2.2.2.2.2⟩⟩⟩⟩⟩⟩ | exact trivial | exact hk.1 | exact hk | simp_all)), fun _ => (by (with_reducible repeat (first | apply Kd.R_alloc | apply Kd.R_drewN | apply Kd.R_drew)); exact Kd.R_mono HO284.out (fun _ hk => by first | exact hk.2 | exact trivial | exact hk.1 | exact hk | simp_all)), fun _ h1_ => absurd ((hon 10 (by kernel_rfl)).symm.trans h1_) (by decide), fun _ => (by (with_reducible repeat (first | apply Kd.N_alloc | apply Kd.N_drewN | apply Kd.N_drew)); exact Kd.N_mono HO290.out (fun _ hk => by first | exact ⟨hk.1.1, ⟨hk.1.2.1, ⟨hk.2, ⟨hk.1.2.2.1, ⟨hk.1.2.2.2.1, ⟨hk.1.2.2.2.2.1, hk.1.2.2.2.2.2⟩⟩⟩⟩⟩⟩ | exact trivial | exact hk.1 | exact hk | simp_all)), fun _ => (by (with_reducible repeat (first | apply Kd.R_alloc | apply Kd.R_drewN | apply Kd.R_drew)); exact Kd.R_mono HO293.out (fun _ hk => by first | exact hk.2 | exact trivial | exact hk.1 | exact hk | simp_all)), z_HO296, z_HO299, fun h0_ => absurd ((hoff 18 (by kernel_rfl)).symm.trans h0_) (by decide), fun h0_ => absurd ((hoff 19 (by kernel_rfl)).symm.trans h0_) (by decide), fun h0_ => absurd ((hoff 20 (by kernel_rfl)).symm.trans h0_) (by decide), fun h0_ => absurd ((hoff 21 (by kernel_rfl)).symm.trans h0_) (by decide)⟩
      refine steps_cons ?_ ?_
      · rintro b a w' ⟨v277, v280, v283, v286, v289, v292, v295, v298, v301, m19_, m20_, m21_, ha, Q_BK270, Q_BK273, Q_BK274, Q_BK275, Q_HB, Q_HO278, Q_HO281, Q_HO284, Q_HO287, Q_HO290, Q_HO293, Q_HO296, Q_HO299, Q_HO302, Q_X19_, Q_X20_, Q_X21_⟩ hb_ hon hoff
        refine ⟨_, rfl, fun K hK => ?_⟩
        have e9 : a.tmps[9]? = some (.pointer (some ⟨gb270, 0, none⟩)) := by rw [ha]; exact (putSel_off rfl).trans rfl
        replace ha := Aside0.mk ha
        have BK270 := Aside0.mk Q_BK270
        have BK273 := Aside0.mk Q_BK273
        have BK274 := Aside0.mk Q_BK274
        have BK275 := Aside0.mk Q_BK275
        have HB := Aside0.mk Q_HB
        have hc0_ : w'.cell? ⟨gb270, 0, none⟩ = some (.int .i64 t268) := (blk_cell BK270.out 0).trans rfl
        have hc1_ : w'.cell? ⟨gb270, 1, none⟩ = some (.int .i64 t269) := (blk_cell BK270.out 1).trans rfl
        refine value_ (w1 := w') (v := .agg #[.int .i64 t268, .int .i64 t269]) (by rfl) rfl ?_ ?_
        · go_simp
          (try simp only [i64_w])
          try rfl
        refine hK.out _ _ ⟨v277, v280, v283, v286, v289, v292, v295, v298, v301, m19_, m20_, m21_, (by rw [ha.out]; exact putSel_upk 12 hb_ rfl rfl rfl), Q_BK270, Q_BK273, Q_BK274, Q_BK275, Q_HB, Q_HO278, Q_HO281, Q_HO284, Q_HO287, Q_HO290, Q_HO293, fun h0_ _ => absurd ((hoff 16 (by kernel_rfl)).symm.trans h0_) (by decide), fun h0_ => absurd ((hoff 17 (by kernel_rfl)).symm.trans h0_) (by decide), fun h0_ => absurd ((hoff 18 (by kernel_rfl)).symm.trans h0_) (by decide), fun h0_ => absurd ((hoff 19 (by kernel_rfl)).symm.trans h0_) (by decide), fun h0_ => absurd ((hoff 20 (by kernel_rfl)).symm.trans h0_) (by decide), fun h0_ => absurd ((hoff 21 (by kernel_rfl)).symm.trans h0_) (by decide)⟩
      refine steps_cons ?_ ?_
      · rintro b a w' ⟨v277, v280, v283, v286, v289, v292, v295, v298, v301, m19_, m20_, m21_, ha, Q_BK270, Q_BK273, Q_BK274, Q_BK275, Q_HB, Q_HO278, Q_HO281, Q_HO284, Q_HO287, Q_HO290, Q_HO293, Q_HO296, Q_HO299, Q_HO302, Q_X19_, Q_X20_, Q_X21_⟩ hb_ hon hoff
        refine ⟨_, rfl, fun K hK => ?_⟩
        have e11 : a.tmps[11]? = some (.pointer (some ⟨gb274, 0, none⟩)) := by rw [ha]; exact (putSel_off rfl).trans rfl
        replace ha := Aside0.mk ha
        have BK270 := Aside0.mk Q_BK270
        have BK273 := Aside0.mk Q_BK273
        have BK274 := Aside0.mk Q_BK274
        have BK275 := Aside0.mk Q_BK275
        have HB := Aside0.mk Q_HB
        have hc0_ : w'.cell? ⟨gb274, 0, none⟩ = some (.int .i64 (wrap64 ((wrap64 (t268 + 1)) + t271))) := (blk_cell BK274.out 0).trans rfl
        have hc1_ : w'.cell? ⟨gb274, 1, none⟩ = some (.int .i64 t269) := (blk_cell BK274.out 1).trans rfl
        refine value_ (w1 := w') (v := .agg #[.int .i64 (wrap64 ((wrap64 (t268 + 1)) + t271)), .int .i64 t269]) (by rfl) rfl ?_ ?_
        · go_simp
          (try simp only [i64_w])
          try rfl
        refine hK.out _ _ ⟨v277, v280, v283, v286, v289, v292, v295, v298, v301, m19_, m20_, m21_, (by rw [ha.out]; exact putSel_upk 13 hb_ rfl rfl rfl), Q_BK270, Q_BK273, Q_BK274, Q_BK275, Q_HB, Q_HO278, Q_HO281, Q_HO284, Q_HO287, Q_HO290, Q_HO293, fun h0_ _ => absurd ((hoff 16 (by kernel_rfl)).symm.trans h0_) (by decide), fun h0_ => absurd ((hoff 17 (by kernel_rfl)).symm.trans h0_) (by decide), fun h0_ => absurd ((hoff 18 (by kernel_rfl)).symm.trans h0_) (by decide), fun h0_ => absurd ((hoff 19 (by kernel_rfl)).symm.trans h0_) (by decide), fun h0_ => absurd ((hoff 20 (by kernel_rfl)).symm.trans h0_) (by decide), fun h0_ => absurd ((hoff 21 (by kernel_rfl)).symm.trans h0_) (by decide)⟩
      refine steps_cons ?_ ?_
      · rintro b a w' ⟨v277, v280, v283, v286, v289, v292, v295, v298, v301, m19_, m20_, m21_, ha, Q_BK270, Q_BK273, Q_BK274, Q_BK275, Q_HB, Q_HO278, Q_HO281, Q_HO284, Q_HO287, Q_HO290, Q_HO293, Q_HO296, Q_HO299, Q_HO302, Q_X19_, Q_X20_, Q_X21_⟩ hb_ hon hoff
        refine ⟨_, rfl, fun K hK => ?_⟩
        have e10 : a.tmps[10]? = some (.pointer (some ⟨gb273, 0, none⟩)) := by rw [ha]; exact (putSel_off rfl).trans rfl
        replace ha := Aside0.mk ha
        have BK270 := Aside0.mk Q_BK270
        have BK273 := Aside0.mk Q_BK273
        have BK274 := Aside0.mk Q_BK274
        have BK275 := Aside0.mk Q_BK275
        have HB := Aside0.mk Q_HB
        have hc0_ : w'.cell? ⟨gb273, 0, none⟩ = some (.int .i64 (wrap64 ((wrap64 (t268 + 1)) + t271))) := (blk_cell BK273.out 0).trans rfl
        have hc1_ : w'.cell? ⟨gb273, 1, none⟩ = some (.int .i64 (wrap64 ((wrap64 (t269 + 1)) + t272))) := (blk_cell BK273.out 1).trans rfl
        refine value_ (w1 := w') (v := .agg #[.int .i64 (wrap64 ((wrap64 (t268 + 1)) + t271)), .int .i64 (wrap64 ((wrap64 (t269 + 1)) + t272))]) (by rfl) rfl ?_ ?_
        · go_simp
          (try simp only [i64_w])
          try rfl
        refine hK.out _ _ ⟨v277, v280, v283, v286, v289, v292, v295, v298, v301, m19_, m20_, m21_, (by rw [ha.out]; exact putSel_upk 14 hb_ rfl rfl rfl), Q_BK270, Q_BK273, Q_BK274, Q_BK275, Q_HB, Q_HO278, Q_HO281, Q_HO284, Q_HO287, Q_HO290, Q_HO293, fun h0_ _ => absurd ((hoff 16 (by kernel_rfl)).symm.trans h0_) (by decide), fun h0_ => absurd ((hoff 17 (by kernel_rfl)).symm.trans h0_) (by decide), fun h0_ => absurd ((hoff 18 (by kernel_rfl)).symm.trans h0_) (by decide), fun h0_ => absurd ((hoff 19 (by kernel_rfl)).symm.trans h0_) (by decide), fun h0_ => absurd ((hoff 20 (by kernel_rfl)).symm.trans h0_) (by decide), fun h0_ => absurd ((hoff 21 (by kernel_rfl)).symm.trans h0_) (by decide)⟩
      refine steps_cons ?_ ?_
      · rintro b a w' ⟨v277, v280, v283, v286, v289, v292, v295, v298, v301, m19_, m20_, m21_, ha, Q_BK270, Q_BK273, Q_BK274, Q_BK275, Q_HB, Q_HO278, Q_HO281, Q_HO284, Q_HO287, Q_HO290, Q_HO293, Q_HO296, Q_HO299, Q_HO302, Q_X19_, Q_X20_, Q_X21_⟩ hb_ hon hoff
        refine ⟨_, rfl, fun K hK => ?_⟩
        have e12 : a.tmps[12]? = some (.pointer (some ⟨gb275, 0, none⟩)) := by rw [ha]; exact (putSel_off rfl).trans rfl
        replace ha := Aside0.mk ha
        have BK270 := Aside0.mk Q_BK270
        have BK273 := Aside0.mk Q_BK273
        have BK274 := Aside0.mk Q_BK274
        have BK275 := Aside0.mk Q_BK275
        have HB := Aside0.mk Q_HB
        have hc0_ : w'.cell? ⟨gb275, 0, none⟩ = some (.int .i64 t268) := (blk_cell BK275.out 0).trans rfl
        have hc1_ : w'.cell? ⟨gb275, 1, none⟩ = some (.int .i64 (wrap64 ((wrap64 (t269 + 1)) + t272))) := (blk_cell BK275.out 1).trans rfl
        refine value_ (w1 := w') (v := .agg #[.int .i64 t268, .int .i64 (wrap64 ((wrap64 (t269 + 1)) + t272))]) (by rfl) rfl ?_ ?_
        · go_simp
          (try simp only [i64_w])
          try rfl
        refine hK.out _ _ ⟨v277, v280, v283, v286, v289, v292, v295, v298, v301, m19_, m20_, m21_, (by rw [ha.out]; exact putSel_upk 15 hb_ rfl rfl rfl), Q_BK270, Q_BK273, Q_BK274, Q_BK275, Q_HB, Q_HO278, Q_HO281, Q_HO284, Q_HO287, Q_HO290, Q_HO293, fun h0_ _ => absurd ((hoff 16 (by kernel_rfl)).symm.trans h0_) (by decide), fun h0_ => absurd ((hoff 17 (by kernel_rfl)).symm.trans h0_) (by decide), fun h0_ => absurd ((hoff 18 (by kernel_rfl)).symm.trans h0_) (by decide), fun h0_ => absurd ((hoff 19 (by kernel_rfl)).symm.trans h0_) (by decide), fun h0_ => absurd ((hoff 20 (by kernel_rfl)).symm.trans h0_) (by decide), fun h0_ => absurd ((hoff 21 (by kernel_rfl)).symm.trans h0_) (by decide)⟩
      refine steps_cons ?_ ?_
      · rintro b a w' ⟨v277, v280, v283, v286, v289, v292, v295, v298, v301, m19_, m20_, m21_, ha, Q_BK270, Q_BK273, Q_BK274, Q_BK275, Q_HB, Q_HO278, Q_HO281, Q_HO284, Q_HO287, Q_HO290, Q_HO293, Q_HO296, Q_HO299, Q_HO302, Q_X19_, Q_X20_, Q_X21_⟩ hb_ hon hoff
        refine ⟨_, rfl, fun K hK => ?_⟩
        have e59 : a.tmps[59]? = some (.agg #[.int .i64 t268, .int .i64 t269]) := by rw [ha]; exact putSel_on (e := (12, 59, .agg #[.int .i64 t268, .int .i64 t269])) 12 rfl rfl (hon 12 (by kernel_rfl)) rfl
        have e60 : a.tmps[60]? = some (.agg #[.int .i64 (wrap64 ((wrap64 (t268 + 1)) + t271)), .int .i64 t269]) := by rw [ha]; exact putSel_on (e := (13, 60, .agg #[.int .i64 (wrap64 ((wrap64 (t268 + 1)) + t271)), .int .i64 t269])) 13 rfl rfl (hon 13 (by kernel_rfl)) rfl
        have e61 : a.tmps[61]? = some (.agg #[.int .i64 (wrap64 ((wrap64 (t268 + 1)) + t271)), .int .i64 (wrap64 ((wrap64 (t269 + 1)) + t272))]) := by rw [ha]; exact putSel_on (e := (14, 61, .agg #[.int .i64 (wrap64 ((wrap64 (t268 + 1)) + t271)), .int .i64 (wrap64 ((wrap64 (t269 + 1)) + t272))])) 14 rfl rfl (hon 14 (by kernel_rfl)) rfl
        have e62 : a.tmps[62]? = some (.agg #[.int .i64 t268, .int .i64 (wrap64 ((wrap64 (t269 + 1)) + t272))]) := by rw [ha]; exact putSel_on (e := (15, 62, .agg #[.int .i64 t268, .int .i64 (wrap64 ((wrap64 (t269 + 1)) + t272))])) 15 rfl rfl (hon 15 (by kernel_rfl)) rfl
        replace ha := Aside0.mk ha
        have BK270 := Aside0.mk Q_BK270
        have BK273 := Aside0.mk Q_BK273
        have BK274 := Aside0.mk Q_BK274
        have BK275 := Aside0.mk Q_BK275
        have HB := Aside0.mk Q_HB
        refine Kd.R_lit_step k40 _ 40 ?hg (N := 63) ?hd (xs := ([(⟨t268, t269⟩ : S40), (⟨wrap64 ((wrap64 (t268 + 1)) + t271), t269⟩ : S40), (⟨wrap64 ((wrap64 (t268 + 1)) + t271), wrap64 ((wrap64 (t269 + 1)) + t272)⟩ : S40), (⟨t268, wrap64 ((wrap64 (t269 + 1)) + t272)⟩ : S40)] : List (S40))) (inner := [.int .i64 t268, .int .i64 t269, .int .i64 (wrap64 ((wrap64 (t268 + 1)) + t271)), .int .i64 t269, .int .i64 (wrap64 ((wrap64 (t268 + 1)) + t271)), .int .i64 (wrap64 ((wrap64 (t269 + 1)) + t272)), .int .i64 t268, .int .i64 (wrap64 ((wrap64 (t269 + 1)) + t272))]) (ok := fun _ => True) (okp := fun _ => True) ?hr ?hp (fun _ hk => hk) trivial (Below.refl _ _) (Nat.le_refl _) (by simp) ?_; (case hd => rfl); (case hg => rfl); (case hr => first | (go_simp; done) | (go_simp; rfl)); (case hp => exact (Reps.c2 (show Kd.M k40 _ _ _ (⟨t268, t269⟩ : S40) [.int .i64 t268, .int .i64 t269] from (k40_mkM _ _ _ (⟨t268, t269⟩ : S40) )) (Reps.c2 (show Kd.M k40 _ _ _ (⟨wrap64 ((wrap64 (t268 + 1)) + t271), t269⟩ : S40) [.int .i64 (wrap64 ((wrap64 (t268 + 1)) + t271)), .int .i64 t269] from (k40_mkM _ _ _ (⟨wrap64 ((wrap64 (t268 + 1)) + t271), t269⟩ : S40) )) (Reps.c2 (show Kd.M k40 _ _ _ (⟨wrap64 ((wrap64 (t268 + 1)) + t271), wrap64 ((wrap64 (t269 + 1)) + t272)⟩ : S40) [.int .i64 (wrap64 ((wrap64 (t268 + 1)) + t271)), .int .i64 (wrap64 ((wrap64 (t269 + 1)) + t272))] from (k40_mkM _ _ _ (⟨wrap64 ((wrap64 (t268 + 1)) + t271), wrap64 ((wrap64 (t269 + 1)) + t272)⟩ : S40) )) (Reps.c2 (show Kd.M k40 _ _ _ (⟨t268, wrap64 ((wrap64 (t269 + 1)) + t272)⟩ : S40) [.int .i64 t268, .int .i64 (wrap64 ((wrap64 (t269 + 1)) + t272))] from (k40_mkM _ _ _ (⟨t268, wrap64 ((wrap64 (t269 + 1)) + t272)⟩ : S40) )) (Reps.none _ _))))))
        intro v295 w35 ho36 hb hg_ hnew_
        clear hg_ hnew_
        (first | rw [← Ny294.out] at ho36 | (simp only [Int.reduceToNat] at ho36; rw [← Ny294.out] at ho36))
        have n0_ := Aside0.mk (Kd.R_lower (Kd.R_newB (Kd.R_newB (Kd.R_newB (Kd.R_newB ho36 (g := gb270) (o := .cells #[.int .i64 t268, .int .i64 t269] 40 (0, 0)) (by (with_reducible repeat (first | refine blk_drewN ?_ _ | refine blk_drew ?_ | refine blk_alloc ?_ _)); exact BK270.out)) (g := gb273) (o := .cells #[.int .i64 (wrap64 ((wrap64 (t268 + 1)) + t271)), .int .i64 (wrap64 ((wrap64 (t269 + 1)) + t272))] 40 (0, 0)) (by (with_reducible repeat (first | refine blk_drewN ?_ _ | refine blk_drew ?_ | refine blk_alloc ?_ _)); exact BK273.out)) (g := gb274) (o := .cells #[.int .i64 (wrap64 ((wrap64 (t268 + 1)) + t271)), .int .i64 t269] 40 (0, 0)) (by (with_reducible repeat (first | refine blk_drewN ?_ _ | refine blk_drew ?_ | refine blk_alloc ?_ _)); exact BK274.out)) (g := gb275) (o := .cells #[.int .i64 t268, .int .i64 (wrap64 ((wrap64 (t269 + 1)) + t272))] 40 (0, 0)) (by (with_reducible repeat (first | refine blk_drewN ?_ _ | refine blk_drew ?_ | refine blk_alloc ?_ _)); exact BK275.out)) (below_size (by repeat (first | (with_reducible first | exact HB.out | apply below_alloc | apply pw_below_drewN | apply below_drew1 | refine below_set ?_ GE270.out | refine below_set ?_ GE273.out | refine below_set ?_ GE274.out | refine below_set ?_ GE275.out) | exact HB.out))))
        have n1_ := Aside0.mk (blk_below (g := gb270) (o := .cells #[.int .i64 t268, .int .i64 t269] 40 (0, 0)) (by (with_reducible repeat (first | refine blk_drewN ?_ _ | refine blk_drew ?_ | refine blk_alloc ?_ _)); exact BK270.out) hb)
        have n2_ := Aside0.mk (blk_below (g := gb273) (o := .cells #[.int .i64 (wrap64 ((wrap64 (t268 + 1)) + t271)), .int .i64 (wrap64 ((wrap64 (t269 + 1)) + t272))] 40 (0, 0)) (by (with_reducible repeat (first | refine blk_drewN ?_ _ | refine blk_drew ?_ | refine blk_alloc ?_ _)); exact BK273.out) hb)
        have n3_ := Aside0.mk (blk_below (g := gb274) (o := .cells #[.int .i64 (wrap64 ((wrap64 (t268 + 1)) + t271)), .int .i64 t269] 40 (0, 0)) (by (with_reducible repeat (first | refine blk_drewN ?_ _ | refine blk_drew ?_ | refine blk_alloc ?_ _)); exact BK274.out) hb)
        have n4_ := Aside0.mk (blk_below (g := gb275) (o := .cells #[.int .i64 t268, .int .i64 (wrap64 ((wrap64 (t269 + 1)) + t272))] 40 (0, 0)) (by (with_reducible repeat (first | refine blk_drewN ?_ _ | refine blk_drew ?_ | refine blk_alloc ?_ _)); exact BK275.out) hb)
        have n5_ := Aside0.mk (below_step (by repeat (first | (with_reducible first | exact HB.out | apply below_alloc | apply pw_below_drewN | apply below_drew1 | refine below_set ?_ GE270.out | refine below_set ?_ GE273.out | refine below_set ?_ GE274.out | refine below_set ?_ GE275.out) | exact HB.out)) hb)
        have z_HO278 := fun (h0_ : b 3 = true) (h1_ : b 4 = false) => (show Kd.R k40 40 w35 w.heap.size (fun k_ => k_ ≠ gb270 ∧ k_ ≠ gb273 ∧ k_ ≠ gb274 ∧ k_ ≠ gb275) v277 y276 from by first | exact (Kd.R_elder' (by (with_reducible repeat (first | apply Kd.R_alloc | apply Kd.R_drewN | apply Kd.R_drew)); exact (Q_HO278 h0_ h1_)) (Kd.R_base ho36) hb) | exact Kd.R_mono (Kd.R_elder' (by (with_reducible repeat (first | apply Kd.R_alloc | apply Kd.R_drewN | apply Kd.R_drew)); exact (Q_HO278 h0_ h1_)) (Kd.R_base ho36) hb) (fun _ h_ => by first | trivial | exact h_ | exact h_.1))
        have z_HO281 := fun (h0_ : b 4 = true) => (show Kd.N (Kd.slice 40 k40) 54 w35 w.heap.size (fun k_ => k_ ≠ gb270 ∧ k_ ≠ gb273 ∧ k_ ≠ gb274 ∧ k_ ≠ gb275) v280 y279 from by first | exact (Kd.N_elder' (by (with_reducible repeat (first | apply Kd.N_alloc | apply Kd.N_drewN | apply Kd.N_drew)); exact (Q_HO281 h0_)) (Kd.R_base ho36) hb) | exact Kd.N_mono (Kd.N_elder' (by (with_reducible repeat (first | apply Kd.N_alloc | apply Kd.N_drewN | apply Kd.N_drew)); exact (Q_HO281 h0_)) (Kd.R_base ho36) hb) (fun _ h_ => by first | trivial | exact h_ | exact h_.1))
        have z_HO284 := fun (h0_ : b 5 = true) => (show Kd.R (Kd.int .i64) 3 w35 w.heap.size (fun _ => True) v283 t282 from by first | exact (Kd.R_below (by (with_reducible repeat (first | apply Kd.R_alloc | apply Kd.R_drewN | apply Kd.R_drew)); exact (Q_HO284 h0_)) hb) | exact Kd.R_mono (Kd.R_below (by (with_reducible repeat (first | apply Kd.R_alloc | apply Kd.R_drewN | apply Kd.R_drew)); exact (Q_HO284 h0_)) hb) (fun _ h_ => by first | trivial | exact h_ | exact h_.1))
        have z_HO287 := fun (h0_ : b 9 = true) (h1_ : b 10 = false) => (show Kd.R k40 40 w35 w.heap.size (fun k_ => k_ ≠ gb270 ∧ k_ ≠ gb273 ∧ k_ ≠ gb274 ∧ k_ ≠ gb275) v286 y285 from by first | exact (Kd.R_elder' (by (with_reducible repeat (first | apply Kd.R_alloc | apply Kd.R_drewN | apply Kd.R_drew)); exact (Q_HO287 h0_ h1_)) (Kd.R_base ho36) hb) | exact Kd.R_mono (Kd.R_elder' (by (with_reducible repeat (first | apply Kd.R_alloc | apply Kd.R_drewN | apply Kd.R_drew)); exact (Q_HO287 h0_ h1_)) (Kd.R_base ho36) hb) (fun _ h_ => by first | trivial | exact h_ | exact h_.1))
        have z_HO290 := fun (h0_ : b 10 = true) => (show Kd.N (Kd.slice 40 k40) 54 w35 w.heap.size (fun k_ => k_ ≠ gb270 ∧ k_ ≠ gb273 ∧ k_ ≠ gb274 ∧ k_ ≠ gb275) v289 y288 from by first | exact (Kd.N_elder' (by (with_reducible repeat (first | apply Kd.N_alloc | apply Kd.N_drewN | apply Kd.N_drew)); exact (Q_HO290 h0_)) (Kd.R_base ho36) hb) | exact Kd.N_mono (Kd.N_elder' (by (with_reducible repeat (first | apply Kd.N_alloc | apply Kd.N_drewN | apply Kd.N_drew)); exact (Q_HO290 h0_)) (Kd.R_base ho36) hb) (fun _ h_ => by first | trivial | exact h_ | exact h_.1))
        have z_HO293 := fun (h0_ : b 11 = true) => (show Kd.R (Kd.int .i64) 3 w35 w.heap.size (fun _ => True) v292 t291 from by first | exact (Kd.R_below (by (with_reducible repeat (first | apply Kd.R_alloc | apply Kd.R_drewN | apply Kd.R_drew)); exact (Q_HO293 h0_)) hb) | exact Kd.R_mono (Kd.R_below (by (with_reducible repeat (first | apply Kd.R_alloc | apply Kd.R_drewN | apply Kd.R_drew)); exact (Q_HO293 h0_)) hb) (fun _ h_ => by first | trivial | exact h_ | exact h_.1))
        clear BK270
        clear BK273
        clear BK274
        clear BK275
        clear HB
        have HO296 := n0_
        have BK270 := n1_
        have BK273 := n2_
        have BK274 := n3_
        have BK275 := n4_
        have HB := n5_
        clear n0_ n1_ n2_ n3_ n4_ n5_
        clear hb ho36
        refine hK.out _ _ ⟨v277, v280, v283, v286, v289, v292, v295, v298, v301, m19_, m20_, m21_, (by rw [ha.out]; exact putSel_upk 16 hb_ rfl rfl rfl), (by (with_reducible repeat (first | refine blk_drewN ?_ _ | refine blk_drew ?_ | refine blk_alloc ?_ _)); exact BK270.out), (by (with_reducible repeat (first | refine blk_drewN ?_ _ | refine blk_drew ?_ | refine blk_alloc ?_ _)); exact BK273.out), (by (with_reducible repeat (first | refine blk_drewN ?_ _ | refine blk_drew ?_ | refine blk_alloc ?_ _)); exact BK274.out), (by (with_reducible repeat (first | refine blk_drewN ?_ _ | refine blk_drew ?_ | refine blk_alloc ?_ _)); exact BK275.out), (by repeat (first | (with_reducible first | exact HB.out | apply below_alloc | apply pw_below_drewN | apply below_drew1 | refine below_set ?_ GE270.out | refine below_set ?_ GE273.out | refine below_set ?_ GE274.out | refine below_set ?_ GE275.out) | exact HB.out)), z_HO278, z_HO281, z_HO284, z_HO287, z_HO290, z_HO293, fun _ _ => (by (with_reducible repeat (first | apply Kd.R_alloc | apply Kd.R_drewN | apply Kd.R_drew)); exact Kd.R_mono HO296.out (fun _ hk => by first | exact ⟨hk.1.1.1.2, ⟨hk.1.1.2, ⟨hk.1.2, hk.2⟩⟩⟩ | exact trivial | exact hk.1 | exact hk | simp_all)), fun h0_ => absurd ((hoff 17 (by kernel_rfl)).symm.trans h0_) (by decide), fun h0_ => absurd ((hoff 18 (by kernel_rfl)).symm.trans h0_) (by decide), fun h0_ => absurd ((hoff 19 (by kernel_rfl)).symm.trans h0_) (by decide), fun h0_ => absurd ((hoff 20 (by kernel_rfl)).symm.trans h0_) (by decide), fun h0_ => absurd ((hoff 21 (by kernel_rfl)).symm.trans h0_) (by decide)⟩
      refine steps_cons ?_ ?_
      · rintro b a w' ⟨v277, v280, v283, v286, v289, v292, v295, v298, v301, m19_, m20_, m21_, ha, Q_BK270, Q_BK273, Q_BK274, Q_BK275, Q_HB, Q_HO278, Q_HO281, Q_HO284, Q_HO287, Q_HO290, Q_HO293, Q_HO296, Q_HO299, Q_HO302, Q_X19_, Q_X20_, Q_X21_⟩ hb_ hon hoff
        refine ⟨_, rfl, fun K hK => ?_⟩
        have e63 : a.tmps[63]? = some (v295) := by rw [ha]; exact putSel_on (e := (16, 63, v295)) 16 rfl rfl (hon 16 (by kernel_rfl)) rfl
        replace ha := Aside0.mk ha
        have BK270 := Aside0.mk Q_BK270
        have BK273 := Aside0.mk Q_BK273
        have BK274 := Aside0.mk Q_BK274
        have BK275 := Aside0.mk Q_BK275
        have HB := Aside0.mk Q_HB
        have HO296 := Aside0.mk (Q_HO296 (hon 16 (by kernel_rfl)) hb_)
        obtain ⟨Ao38, co38, eo38⟩ := Kd.R_slice HO296.out
        (first | subst eo38 | (injection eo38 with f1_ f2_ f3_; have f4_ := f1_.symm; have f5_ := f3_.symm; clear f1_ f2_ f3_; subst f4_; subst f5_))
        refine Kd.N_lit_step (Kd.slice 40 k40) _ 54 ?hg (N' := 64) ?hd (xs := ([y294] : List (List (S40)))) (inner := [.slice Ao38 y294.length co38]) (ok := (fun k_ => k_ ≠ gb270 ∧ k_ ≠ gb273 ∧ k_ ≠ gb274 ∧ k_ ≠ gb275)) (okp := (fun k_ => k_ ≠ gb270 ∧ k_ ≠ gb273 ∧ k_ ≠ gb274 ∧ k_ ≠ gb275)) ?hr ?hp (fun _ hk => hk) ((show ∀ k_, w'.heap.size ≤ k_ → (fun k_ => k_ ≠ gb270 ∧ k_ ≠ gb273 ∧ k_ ≠ gb274 ∧ k_ ≠ gb275) k_ from fun k_ hk => ⟨Kd.freshB (g := gb270) (o := .cells #[.int .i64 t268, .int .i64 t269] 40 (0, 0)) (by (with_reducible repeat (first | refine blk_drewN ?_ _ | refine blk_drew ?_ | refine blk_alloc ?_ _)); exact BK270.out) k_ hk, Kd.freshB (g := gb273) (o := .cells #[.int .i64 (wrap64 ((wrap64 (t268 + 1)) + t271)), .int .i64 (wrap64 ((wrap64 (t269 + 1)) + t272))] 40 (0, 0)) (by (with_reducible repeat (first | refine blk_drewN ?_ _ | refine blk_drew ?_ | refine blk_alloc ?_ _)); exact BK273.out) k_ hk, Kd.freshB (g := gb274) (o := .cells #[.int .i64 (wrap64 ((wrap64 (t268 + 1)) + t271)), .int .i64 t269] 40 (0, 0)) (by (with_reducible repeat (first | refine blk_drewN ?_ _ | refine blk_drew ?_ | refine blk_alloc ?_ _)); exact BK274.out) k_ hk, Kd.freshB (g := gb275) (o := .cells #[.int .i64 t268, .int .i64 (wrap64 ((wrap64 (t269 + 1)) + t272))] 40 (0, 0)) (by (with_reducible repeat (first | refine blk_drewN ?_ _ | refine blk_drew ?_ | refine blk_alloc ?_ _)); exact BK275.out) k_ hk⟩) _ (Nat.le_refl _)) (Below.refl _ _) (Nat.le_refl _) (by simp) ?_; (case hd => rfl); (case hg => rfl); (case hr => first | (go_simp; done) | (go_simp; rfl)); (case hp => exact (Reps.one (show Kd.FK (Kd.slice 40 k40) _ _ y294 [.slice Ao38 y294.length co38] from (Kd.FK_slice_mk (Kd.R_reads' (Kd.R_mono (ok' := (fun k_ => k_ ≠ gb270 ∧ k_ ≠ gb273 ∧ k_ ≠ gb274 ∧ k_ ≠ gb275)) (HO296.out) (fun k_ hk => ⟨hk.1, ⟨hk.2.1, ⟨hk.2.2.1, hk.2.2.2⟩⟩⟩))).2.1 (Kd.R_F (Kd.R_mono (ok' := (fun k_ => k_ ≠ gb270 ∧ k_ ≠ gb273 ∧ k_ ≠ gb274 ∧ k_ ≠ gb275)) (HO296.out) (fun k_ hk => ⟨hk.1, ⟨hk.2.1, ⟨hk.2.2.1, hk.2.2.2⟩⟩⟩))))) (Reps.none _ _)))
        intro v298 w39 ho40 hb hg_ hnew_
        clear hg_ hnew_
        (first | rw [← Ny297.out] at ho40 | (simp only [Int.reduceToNat] at ho40; rw [← Ny297.out] at ho40))
        have n0_ := Aside0.mk (Kd.N_lower ho40 (below_size (by repeat (first | (with_reducible first | exact HB.out | apply below_alloc | apply pw_below_drewN | apply below_drew1 | refine below_set ?_ GE270.out | refine below_set ?_ GE273.out | refine below_set ?_ GE274.out | refine below_set ?_ GE275.out) | exact HB.out))))
        have n1_ := Aside0.mk (blk_below (g := gb270) (o := .cells #[.int .i64 t268, .int .i64 t269] 40 (0, 0)) (by (with_reducible repeat (first | refine blk_drewN ?_ _ | refine blk_drew ?_ | refine blk_alloc ?_ _)); exact BK270.out) hb)
        have n2_ := Aside0.mk (blk_below (g := gb273) (o := .cells #[.int .i64 (wrap64 ((wrap64 (t268 + 1)) + t271)), .int .i64 (wrap64 ((wrap64 (t269 + 1)) + t272))] 40 (0, 0)) (by (with_reducible repeat (first | refine blk_drewN ?_ _ | refine blk_drew ?_ | refine blk_alloc ?_ _)); exact BK273.out) hb)
        have n3_ := Aside0.mk (blk_below (g := gb274) (o := .cells #[.int .i64 (wrap64 ((wrap64 (t268 + 1)) + t271)), .int .i64 t269] 40 (0, 0)) (by (with_reducible repeat (first | refine blk_drewN ?_ _ | refine blk_drew ?_ | refine blk_alloc ?_ _)); exact BK274.out) hb)
        have n4_ := Aside0.mk (blk_below (g := gb275) (o := .cells #[.int .i64 t268, .int .i64 (wrap64 ((wrap64 (t269 + 1)) + t272))] 40 (0, 0)) (by (with_reducible repeat (first | refine blk_drewN ?_ _ | refine blk_drew ?_ | refine blk_alloc ?_ _)); exact BK275.out) hb)
        have n5_ := Aside0.mk (below_step (by repeat (first | (with_reducible first | exact HB.out | apply below_alloc | apply pw_below_drewN | apply below_drew1 | refine below_set ?_ GE270.out | refine below_set ?_ GE273.out | refine below_set ?_ GE274.out | refine below_set ?_ GE275.out) | exact HB.out)) hb)
        have z_HO278 := fun (h0_ : b 3 = true) (h1_ : b 4 = false) => (show Kd.R k40 40 w39 w.heap.size (fun k_ => k_ ≠ gb270 ∧ k_ ≠ gb273 ∧ k_ ≠ gb274 ∧ k_ ≠ gb275) v277 y276 from by first | exact (Kd.R_below (by (with_reducible repeat (first | apply Kd.R_alloc | apply Kd.R_drewN | apply Kd.R_drew)); exact (Q_HO278 h0_ h1_)) hb) | exact Kd.R_mono (Kd.R_below (by (with_reducible repeat (first | apply Kd.R_alloc | apply Kd.R_drewN | apply Kd.R_drew)); exact (Q_HO278 h0_ h1_)) hb) (fun _ h_ => by first | trivial | exact h_ | exact h_.1))
        have z_HO281 := fun (h0_ : b 4 = true) => (show Kd.N (Kd.slice 40 k40) 54 w39 w.heap.size (fun k_ => k_ ≠ gb270 ∧ k_ ≠ gb273 ∧ k_ ≠ gb274 ∧ k_ ≠ gb275) v280 y279 from by first | exact (Kd.N_elder' (by (with_reducible repeat (first | apply Kd.N_alloc | apply Kd.N_drewN | apply Kd.N_drew)); exact (Q_HO281 h0_)) (Kd.N_base ho40) hb) | exact Kd.N_mono (Kd.N_elder' (by (with_reducible repeat (first | apply Kd.N_alloc | apply Kd.N_drewN | apply Kd.N_drew)); exact (Q_HO281 h0_)) (Kd.N_base ho40) hb) (fun _ h_ => by first | trivial | exact h_ | exact h_.1))
        have z_HO284 := fun (h0_ : b 5 = true) => (show Kd.R (Kd.int .i64) 3 w39 w.heap.size (fun _ => True) v283 t282 from by first | exact (Kd.R_below (by (with_reducible repeat (first | apply Kd.R_alloc | apply Kd.R_drewN | apply Kd.R_drew)); exact (Q_HO284 h0_)) hb) | exact Kd.R_mono (Kd.R_below (by (with_reducible repeat (first | apply Kd.R_alloc | apply Kd.R_drewN | apply Kd.R_drew)); exact (Q_HO284 h0_)) hb) (fun _ h_ => by first | trivial | exact h_ | exact h_.1))
        have z_HO287 := fun (h0_ : b 9 = true) (h1_ : b 10 = false) => (show Kd.R k40 40 w39 w.heap.size (fun k_ => k_ ≠ gb270 ∧ k_ ≠ gb273 ∧ k_ ≠ gb274 ∧ k_ ≠ gb275) v286 y285 from by first | exact (Kd.R_below (by (with_reducible repeat (first | apply Kd.R_alloc | apply Kd.R_drewN | apply Kd.R_drew)); exact (Q_HO287 h0_ h1_)) hb) | exact Kd.R_mono (Kd.R_below (by (with_reducible repeat (first | apply Kd.R_alloc | apply Kd.R_drewN | apply Kd.R_drew)); exact (Q_HO287 h0_ h1_)) hb) (fun _ h_ => by first | trivial | exact h_ | exact h_.1))
        have z_HO290 := fun (h0_ : b 10 = true) => (show Kd.N (Kd.slice 40 k40) 54 w39 w.heap.size (fun k_ => k_ ≠ gb270 ∧ k_ ≠ gb273 ∧ k_ ≠ gb274 ∧ k_ ≠ gb275) v289 y288 from by first | exact (Kd.N_elder' (by (with_reducible repeat (first | apply Kd.N_alloc | apply Kd.N_drewN | apply Kd.N_drew)); exact (Q_HO290 h0_)) (Kd.N_base ho40) hb) | exact Kd.N_mono (Kd.N_elder' (by (with_reducible repeat (first | apply Kd.N_alloc | apply Kd.N_drewN | apply Kd.N_drew)); exact (Q_HO290 h0_)) (Kd.N_base ho40) hb) (fun _ h_ => by first | trivial | exact h_ | exact h_.1))
        have z_HO293 := fun (h0_ : b 11 = true) => (show Kd.R (Kd.int .i64) 3 w39 w.heap.size (fun _ => True) v292 t291 from by first | exact (Kd.R_below (by (with_reducible repeat (first | apply Kd.R_alloc | apply Kd.R_drewN | apply Kd.R_drew)); exact (Q_HO293 h0_)) hb) | exact Kd.R_mono (Kd.R_below (by (with_reducible repeat (first | apply Kd.R_alloc | apply Kd.R_drewN | apply Kd.R_drew)); exact (Q_HO293 h0_)) hb) (fun _ h_ => by first | trivial | exact h_ | exact h_.1))
        clear BK270
        clear BK273
        clear BK274
        clear BK275
        clear HB
        clear HO296
        have HO299 := n0_
        have BK270 := n1_
        have BK273 := n2_
        have BK274 := n3_
        have BK275 := n4_
        have HB := n5_
        clear n0_ n1_ n2_ n3_ n4_ n5_
        clear hb ho40
        refine hK.out _ _ ⟨v277, v280, v283, v286, v289, v292, .slice Ao38 y294.length co38, v298, v301, m19_, m20_, m21_, (by rw [ha.out]; exact putSel_upk 17 hb_ rfl rfl rfl), (by (with_reducible repeat (first | refine blk_drewN ?_ _ | refine blk_drew ?_ | refine blk_alloc ?_ _)); exact BK270.out), (by (with_reducible repeat (first | refine blk_drewN ?_ _ | refine blk_drew ?_ | refine blk_alloc ?_ _)); exact BK273.out), (by (with_reducible repeat (first | refine blk_drewN ?_ _ | refine blk_drew ?_ | refine blk_alloc ?_ _)); exact BK274.out), (by (with_reducible repeat (first | refine blk_drewN ?_ _ | refine blk_drew ?_ | refine blk_alloc ?_ _)); exact BK275.out), (by repeat (first | (with_reducible first | exact HB.out | apply below_alloc | apply pw_below_drewN | apply below_drew1 | refine below_set ?_ GE270.out | refine below_set ?_ GE273.out | refine below_set ?_ GE274.out | refine below_set ?_ GE275.out) | exact HB.out)), z_HO278, z_HO281, z_HO284, z_HO287, z_HO290, z_HO293, fun _ h1_ => absurd ((up_self b 17).symm.trans h1_) (by decide), fun _ => (by (with_reducible repeat (first | apply Kd.N_alloc | apply Kd.N_drewN | apply Kd.N_drew)); (first | exact HO299.out | exact Kd.R_mono HO299.out (fun _ _ => trivial))), fun h0_ => absurd ((hoff 18 (by kernel_rfl)).symm.trans h0_) (by decide), fun h0_ => absurd ((hoff 19 (by kernel_rfl)).symm.trans h0_) (by decide), fun h0_ => absurd ((hoff 20 (by kernel_rfl)).symm.trans h0_) (by decide), fun h0_ => absurd ((hoff 21 (by kernel_rfl)).symm.trans h0_) (by decide)⟩
      refine steps_cons ?_ ?_
      · rintro b a w' ⟨v277, v280, v283, v286, v289, v292, v295, v298, v301, m19_, m20_, m21_, ha, Q_BK270, Q_BK273, Q_BK274, Q_BK275, Q_HB, Q_HO278, Q_HO281, Q_HO284, Q_HO287, Q_HO290, Q_HO293, Q_HO296, Q_HO299, Q_HO302, Q_X19_, Q_X20_, Q_X21_⟩ hb_ hon hoff
        refine ⟨_, rfl, fun K hK => ?_⟩
        have e64 : a.tmps[64]? = some (v298) := by rw [ha]; exact putSel_on (e := (17, 64, v298)) 17 rfl rfl (hon 17 (by kernel_rfl)) rfl
        replace ha := Aside0.mk ha
        have BK270 := Aside0.mk Q_BK270
        have BK273 := Aside0.mk Q_BK273
        have BK274 := Aside0.mk Q_BK274
        have BK275 := Aside0.mk Q_BK275
        have HB := Aside0.mk Q_HB
        have HO281 := Aside0.mk (Q_HO281 (hon 4 (by kernel_rfl)))
        have HO284 := Aside0.mk (Q_HO284 (hon 5 (by kernel_rfl)))
        have HO290 := Aside0.mk (Q_HO290 (hon 10 (by kernel_rfl)))
        have HO293 := Aside0.mk (Q_HO293 (hon 11 (by kernel_rfl)))
        have HO299 := Aside0.mk (Q_HO299 (hon 17 (by kernel_rfl)))
        obtain ⟨Ao55, co55, eo55⟩ := Kd.N_slice HO299.out
        (first | subst eo55 | (injection eo55 with f1_ f2_ f3_; have f4_ := f1_.symm; have f5_ := f3_.symm; clear f1_ f2_ f3_; subst f4_; subst f5_))
        refine goes_ Try.func43 (by kernel_rfl) rfl #[.slice Ao55 y297.length co55] (by rfl) rfl rfl (by first | (simp only [List.map_toArray, List.map_cons, List.map_nil, Act.eval, Array.getD_eq_getD_getElem?, Option.getD_some, e64]; done) | (simp only [List.map_toArray, List.map_cons, List.map_nil, Act.eval, Array.getD_eq_getD_getElem?, Option.getD_some, e64]; rfl)) ?_
        with_reducible refine (raster_Cover.calls k _ _ y297 t300 _ ?side1 ?side2 A13.out).mono ?_
        (case side1 => repeat (first | exact (Kd.N_reads' HO299.out).2.2 | (with_reducible refine Kd.C_alloc ?_ _) | (with_reducible refine Kd.C_drewN ?_ _) | (with_reducible refine Kd.C_drew ?_)))
        (case side2 => exact (Kd.N_reads' HO299.out).2.1)
        rintro e w56 ⟨v301, rfl, ho0, hb⟩
        refine ⟨_, rfl, ?_⟩
        have n0_ := Aside0.mk (Kd.N_elder' (by (with_reducible repeat (first | apply Kd.N_alloc | apply Kd.N_drewN | apply Kd.N_drew)); (first | exact HO281.out | exact Kd.R_mono HO281.out (fun _ _ => trivial))) (Kd.R_base ho0) hb)
        have n1_ := Aside0.mk (Kd.R_elder' (by (with_reducible repeat (first | apply Kd.R_alloc | apply Kd.R_drewN | apply Kd.R_drew)); (first | exact HO284.out | exact Kd.R_mono HO284.out (fun _ _ => trivial))) (Kd.R_base ho0) hb)
        have n2_ := Aside0.mk (Kd.N_elder' (by (with_reducible repeat (first | apply Kd.N_alloc | apply Kd.N_drewN | apply Kd.N_drew)); (first | exact HO290.out | exact Kd.R_mono HO290.out (fun _ _ => trivial))) (Kd.R_base ho0) hb)
        have n3_ := Aside0.mk (Kd.R_elder' (by (with_reducible repeat (first | apply Kd.R_alloc | apply Kd.R_drewN | apply Kd.R_drew)); (first | exact HO293.out | exact Kd.R_mono HO293.out (fun _ _ => trivial))) (Kd.R_base ho0) hb)
        have n4_ := Aside0.mk (Kd.N_elder' (by (with_reducible repeat (first | apply Kd.N_alloc | apply Kd.N_drewN | apply Kd.N_drew)); (first | exact HO299.out | exact Kd.R_mono HO299.out (fun _ _ => trivial))) (Kd.R_base ho0) hb)
        have n5_ := Aside0.mk (Kd.R_lower (Kd.R_new' (Kd.R_new' ho0 (Kd.R_lt (by (with_reducible repeat (first | apply Kd.R_alloc | apply Kd.R_drewN | apply Kd.R_drew)); (first | exact HO284.out | exact Kd.R_mono HO284.out (fun _ _ => trivial))))) (Kd.R_lt (by (with_reducible repeat (first | apply Kd.R_alloc | apply Kd.R_drewN | apply Kd.R_drew)); (first | exact HO293.out | exact Kd.R_mono HO293.out (fun _ _ => trivial))))) (below_size (by repeat (first | (with_reducible first | exact HB.out | apply below_alloc | apply pw_below_drewN | apply below_drew1 | refine below_set ?_ GE270.out | refine below_set ?_ GE273.out | refine below_set ?_ GE274.out | refine below_set ?_ GE275.out) | exact HB.out))))
        have n6_ := Aside0.mk (blk_below (g := gb270) (o := .cells #[.int .i64 t268, .int .i64 t269] 40 (0, 0)) (by (with_reducible repeat (first | refine blk_drewN ?_ _ | refine blk_drew ?_ | refine blk_alloc ?_ _)); exact BK270.out) hb)
        have n7_ := Aside0.mk (blk_below (g := gb273) (o := .cells #[.int .i64 (wrap64 ((wrap64 (t268 + 1)) + t271)), .int .i64 (wrap64 ((wrap64 (t269 + 1)) + t272))] 40 (0, 0)) (by (with_reducible repeat (first | refine blk_drewN ?_ _ | refine blk_drew ?_ | refine blk_alloc ?_ _)); exact BK273.out) hb)
        have n8_ := Aside0.mk (blk_below (g := gb274) (o := .cells #[.int .i64 (wrap64 ((wrap64 (t268 + 1)) + t271)), .int .i64 t269] 40 (0, 0)) (by (with_reducible repeat (first | refine blk_drewN ?_ _ | refine blk_drew ?_ | refine blk_alloc ?_ _)); exact BK274.out) hb)
        have n9_ := Aside0.mk (blk_below (g := gb275) (o := .cells #[.int .i64 t268, .int .i64 (wrap64 ((wrap64 (t269 + 1)) + t272))] 40 (0, 0)) (by (with_reducible repeat (first | refine blk_drewN ?_ _ | refine blk_drew ?_ | refine blk_alloc ?_ _)); exact BK275.out) hb)
        have n10_ := Aside0.mk (below_step (by repeat (first | (with_reducible first | exact HB.out | apply below_alloc | apply pw_below_drewN | apply below_drew1 | refine below_set ?_ GE270.out | refine below_set ?_ GE273.out | refine below_set ?_ GE274.out | refine below_set ?_ GE275.out) | exact HB.out)) hb)
        clear HO281
        clear HO284
        clear HO290
        clear HO293
        clear HO299
        clear BK270
        clear BK273
        clear BK274
        clear BK275
        clear HB
        have HO281 := n0_
        have HO284 := n1_
        have HO290 := n2_
        have HO293 := n3_
        have HO299 := n4_
        have HO302 := n5_
        have BK270 := n6_
        have BK273 := n7_
        have BK274 := n8_
        have BK275 := n9_
        have HB := n10_
        clear n0_ n1_ n2_ n3_ n4_ n5_ n6_ n7_ n8_ n9_ n10_
        (try clear hb)
        (try clear hb2)
        (try clear hk)
        (try clear hi)
        (try clear ho0)
        refine hK.out _ _ ⟨v277, v280, v283, v286, v289, v292, v295, .slice Ao55 y297.length co55, v301, m19_, m20_, m21_, (by rw [ha.out]; exact putSel_upk 18 hb_ rfl rfl rfl), (by (with_reducible repeat (first | refine blk_drewN ?_ _ | refine blk_drew ?_ | refine blk_alloc ?_ _)); exact BK270.out), (by (with_reducible repeat (first | refine blk_drewN ?_ _ | refine blk_drew ?_ | refine blk_alloc ?_ _)); exact BK273.out), (by (with_reducible repeat (first | refine blk_drewN ?_ _ | refine blk_drew ?_ | refine blk_alloc ?_ _)); exact BK274.out), (by (with_reducible repeat (first | refine blk_drewN ?_ _ | refine blk_drew ?_ | refine blk_alloc ?_ _)); exact BK275.out), (by repeat (first | (with_reducible first | exact HB.out | apply below_alloc | apply pw_below_drewN | apply below_drew1 | refine below_set ?_ GE270.out | refine below_set ?_ GE273.out | refine below_set ?_ GE274.out | refine below_set ?_ GE275.out) | exact HB.out)), fun _ h1_ => absurd ((hon 4 (by kernel_rfl)).symm.trans h1_) (by decide), fun _ => (by (with_reducible repeat (first | apply Kd.N_alloc | apply Kd.N_drewN | apply Kd.N_drew)); exact Kd.N_mono HO281.out (fun _ hk => by first | exact ⟨hk.1.1, ⟨hk.1.2.1, ⟨hk.1.2.2.1, ⟨hk.1.2.2.2.1, ⟨hk.2, ⟨hk.1.2.2.2.2.1, ⟨hk.1.2.2.2.2.2.1, ⟨hk.1.2.2.2.2.2.2.1, hk.1.2.2.2.2.2.2.2⟩⟩⟩⟩⟩⟩⟩⟩ | exact trivial | exact hk.1 | exact hk | simp_all)), fun _ => (by (with_reducible repeat (first | apply Kd.R_alloc | apply Kd.R_drewN | apply Kd.R_drew)); (first | exact HO284.out | exact Kd.R_mono HO284.out (fun _ _ => trivial))), fun _ h1_ => absurd ((hon 10 (by kernel_rfl)).symm.trans h1_) (by decide), fun _ => (by (with_reducible repeat (first | apply Kd.N_alloc | apply Kd.N_drewN | apply Kd.N_drew)); exact Kd.N_mono HO290.out (fun _ hk => by first | exact ⟨hk.1.1, ⟨hk.1.2.1, ⟨hk.1.2.2.1, ⟨hk.1.2.2.2.1, ⟨hk.2, ⟨hk.1.2.2.2.2.1, ⟨hk.1.2.2.2.2.2.1, ⟨hk.1.2.2.2.2.2.2.1, hk.1.2.2.2.2.2.2.2⟩⟩⟩⟩⟩⟩⟩⟩ | exact trivial | exact hk.1 | exact hk | simp_all)), fun _ => (by (with_reducible repeat (first | apply Kd.R_alloc | apply Kd.R_drewN | apply Kd.R_drew)); (first | exact HO293.out | exact Kd.R_mono HO293.out (fun _ _ => trivial))), fun _ h1_ => absurd ((hon 17 (by kernel_rfl)).symm.trans h1_) (by decide), fun _ => (by (with_reducible repeat (first | apply Kd.N_alloc | apply Kd.N_drewN | apply Kd.N_drew)); exact Kd.N_mono HO299.out (fun _ hk => by first | exact ⟨hk.1.1, ⟨hk.1.2.1, ⟨hk.1.2.2.1, ⟨hk.1.2.2.2.1, ⟨hk.2, ⟨hk.1.2.2.2.2.1, ⟨hk.1.2.2.2.2.2.1, ⟨hk.1.2.2.2.2.2.2.1, hk.1.2.2.2.2.2.2.2⟩⟩⟩⟩⟩⟩⟩⟩ | exact trivial | exact hk.1 | exact hk | simp_all)), fun _ => (by (with_reducible repeat (first | apply Kd.R_alloc | apply Kd.R_drewN | apply Kd.R_drew)); exact Kd.R_mono HO302.out (fun _ hk => by first | exact ⟨hk.1.2, hk.2⟩ | exact trivial | exact hk.1 | exact hk | simp_all)), fun h0_ => absurd ((hoff 19 (by kernel_rfl)).symm.trans h0_) (by decide), fun h0_ => absurd ((hoff 20 (by kernel_rfl)).symm.trans h0_) (by decide), fun h0_ => absurd ((hoff 21 (by kernel_rfl)).symm.trans h0_) (by decide)⟩
      refine steps_cons ?_ ?_
      · rintro b a w' ⟨v277, v280, v283, v286, v289, v292, v295, v298, v301, m19_, m20_, m21_, ha, Q_BK270, Q_BK273, Q_BK274, Q_BK275, Q_HB, Q_HO278, Q_HO281, Q_HO284, Q_HO287, Q_HO290, Q_HO293, Q_HO296, Q_HO299, Q_HO302, Q_X19_, Q_X20_, Q_X21_⟩ hb_ hon hoff
        refine ⟨_, rfl, fun K hK => ?_⟩
        have e52 : a.tmps[52]? = some (v283) := by rw [ha]; exact putSel_on (e := (5, 52, v283)) 5 rfl rfl (hon 5 (by kernel_rfl)) rfl
        replace ha := Aside0.mk ha
        have BK270 := Aside0.mk Q_BK270
        have BK273 := Aside0.mk Q_BK273
        have BK274 := Aside0.mk Q_BK274
        have BK275 := Aside0.mk Q_BK275
        have HB := Aside0.mk Q_HB
        have HO281 := Aside0.mk (Q_HO281 (hon 4 (by kernel_rfl)))
        have HO284 := Aside0.mk (Q_HO284 (hon 5 (by kernel_rfl)))
        have HO290 := Aside0.mk (Q_HO290 (hon 10 (by kernel_rfl)))
        have HO293 := Aside0.mk (Q_HO293 (hon 11 (by kernel_rfl)))
        have HO299 := Aside0.mk (Q_HO299 (hon 17 (by kernel_rfl)))
        have HO302 := Aside0.mk (Q_HO302 (hon 18 (by kernel_rfl)))
        refine value_ (w1 := w') (v := v283) (by rfl) rfl ?_ ?_
        · go_simp
          (try simp only [i64_w])
          try rfl
        refine hK.out _ _ ⟨v277, v280, v283, v286, v289, v292, v295, v298, v301, (v283), m20_, m21_, (by rw [ha.out]; exact putSel_upk 19 hb_ rfl rfl rfl), Q_BK270, Q_BK273, Q_BK274, Q_BK275, Q_HB, fun _ h1_ => absurd ((hon 4 (by kernel_rfl)).symm.trans h1_) (by decide), Q_HO281, Q_HO284, fun _ h1_ => absurd ((hon 10 (by kernel_rfl)).symm.trans h1_) (by decide), Q_HO290, Q_HO293, fun _ h1_ => absurd ((hon 17 (by kernel_rfl)).symm.trans h1_) (by decide), Q_HO299, Q_HO302, fun _ => rfl, fun h0_ => absurd ((hoff 20 (by kernel_rfl)).symm.trans h0_) (by decide), fun h0_ => absurd ((hoff 21 (by kernel_rfl)).symm.trans h0_) (by decide)⟩
      refine steps_cons ?_ ?_
      · rintro b a w' ⟨v277, v280, v283, v286, v289, v292, v295, v298, v301, m19_, m20_, m21_, ha, Q_BK270, Q_BK273, Q_BK274, Q_BK275, Q_HB, Q_HO278, Q_HO281, Q_HO284, Q_HO287, Q_HO290, Q_HO293, Q_HO296, Q_HO299, Q_HO302, Q_X19_, Q_X20_, Q_X21_⟩ hb_ hon hoff
        refine ⟨_, rfl, fun K hK => ?_⟩
        have e58 : a.tmps[58]? = some (v292) := by rw [ha]; exact putSel_on (e := (11, 58, v292)) 11 rfl rfl (hon 11 (by kernel_rfl)) rfl
        replace ha := Aside0.mk ha
        have BK270 := Aside0.mk Q_BK270
        have BK273 := Aside0.mk Q_BK273
        have BK274 := Aside0.mk Q_BK274
        have BK275 := Aside0.mk Q_BK275
        have HB := Aside0.mk Q_HB
        have HO281 := Aside0.mk (Q_HO281 (hon 4 (by kernel_rfl)))
        have HO284 := Aside0.mk (Q_HO284 (hon 5 (by kernel_rfl)))
        have HO290 := Aside0.mk (Q_HO290 (hon 10 (by kernel_rfl)))
        have HO293 := Aside0.mk (Q_HO293 (hon 11 (by kernel_rfl)))
        have HO299 := Aside0.mk (Q_HO299 (hon 17 (by kernel_rfl)))
        have HO302 := Aside0.mk (Q_HO302 (hon 18 (by kernel_rfl)))
        refine value_ (w1 := w') (v := v292) (by rfl) rfl ?_ ?_
        · go_simp
          (try simp only [i64_w])
          try rfl
        refine hK.out _ _ ⟨v277, v280, v283, v286, v289, v292, v295, v298, v301, m19_, (v292), m21_, (by rw [ha.out]; exact putSel_upk 20 hb_ rfl rfl rfl), Q_BK270, Q_BK273, Q_BK274, Q_BK275, Q_HB, fun _ h1_ => absurd ((hon 4 (by kernel_rfl)).symm.trans h1_) (by decide), Q_HO281, Q_HO284, fun _ h1_ => absurd ((hon 10 (by kernel_rfl)).symm.trans h1_) (by decide), Q_HO290, Q_HO293, fun _ h1_ => absurd ((hon 17 (by kernel_rfl)).symm.trans h1_) (by decide), Q_HO299, Q_HO302, Q_X19_, fun _ => rfl, fun h0_ => absurd ((hoff 21 (by kernel_rfl)).symm.trans h0_) (by decide)⟩
      refine steps_cons ?_ ?_
      · rintro b a w' ⟨v277, v280, v283, v286, v289, v292, v295, v298, v301, m19_, m20_, m21_, ha, Q_BK270, Q_BK273, Q_BK274, Q_BK275, Q_HB, Q_HO278, Q_HO281, Q_HO284, Q_HO287, Q_HO290, Q_HO293, Q_HO296, Q_HO299, Q_HO302, Q_X19_, Q_X20_, Q_X21_⟩ hb_ hon hoff
        refine ⟨_, rfl, fun K hK => ?_⟩
        have e65 : a.tmps[65]? = some (v301) := by rw [ha]; exact putSel_on (e := (18, 65, v301)) 18 rfl rfl (hon 18 (by kernel_rfl)) rfl
        replace ha := Aside0.mk ha
        have BK270 := Aside0.mk Q_BK270
        have BK273 := Aside0.mk Q_BK273
        have BK274 := Aside0.mk Q_BK274
        have BK275 := Aside0.mk Q_BK275
        have HB := Aside0.mk Q_HB
        have HO281 := Aside0.mk (Q_HO281 (hon 4 (by kernel_rfl)))
        have HO284 := Aside0.mk (Q_HO284 (hon 5 (by kernel_rfl)))
        have HO290 := Aside0.mk (Q_HO290 (hon 10 (by kernel_rfl)))
        have HO293 := Aside0.mk (Q_HO293 (hon 11 (by kernel_rfl)))
        have HO299 := Aside0.mk (Q_HO299 (hon 17 (by kernel_rfl)))
        have HO302 := Aside0.mk (Q_HO302 (hon 18 (by kernel_rfl)))
        refine value_ (w1 := w') (v := v301) (by rfl) rfl ?_ ?_
        · go_simp
          (try simp only [i64_w])
          try rfl
        refine hK.out _ _ ⟨v277, v280, v283, v286, v289, v292, v295, v298, v301, m19_, m20_, (v301), (by rw [ha.out]; exact putSel_upk 21 hb_ rfl rfl rfl), Q_BK270, Q_BK273, Q_BK274, Q_BK275, Q_HB, fun _ h1_ => absurd ((hon 4 (by kernel_rfl)).symm.trans h1_) (by decide), Q_HO281, Q_HO284, fun _ h1_ => absurd ((hon 10 (by kernel_rfl)).symm.trans h1_) (by decide), Q_HO290, Q_HO293, fun _ h1_ => absurd ((hon 17 (by kernel_rfl)).symm.trans h1_) (by decide), Q_HO299, Q_HO302, Q_X19_, Q_X20_, fun _ => rfl⟩
      exact steps_nil
    rintro b a w56 hall ⟨v277, v280, v283, v286, v289, v292, v295, v298, v301, m19_, m20_, m21_, ha, Q_BK270, Q_BK273, Q_BK274, Q_BK275, Q_HB, Q_HO278, Q_HO281, Q_HO284, Q_HO287, Q_HO290, Q_HO293, Q_HO296, Q_HO299, Q_HO302, Q_X19_, Q_X20_, Q_X21_⟩
    clear BK270 BK273 BK274 BK275 HB
    have hb0_ := hall 0 (by kernel_rfl)
    have hb1_ := hall 1 (by kernel_rfl)
    have hb2_ := hall 2 (by kernel_rfl)
    have hb3_ := hall 3 (by kernel_rfl)
    have hb4_ := hall 4 (by kernel_rfl)
    have hb5_ := hall 5 (by kernel_rfl)
    have hb6_ := hall 6 (by kernel_rfl)
    have hb7_ := hall 7 (by kernel_rfl)
    have hb8_ := hall 8 (by kernel_rfl)
    have hb9_ := hall 9 (by kernel_rfl)
    have hb10_ := hall 10 (by kernel_rfl)
    have hb11_ := hall 11 (by kernel_rfl)
    have hb12_ := hall 12 (by kernel_rfl)
    have hb13_ := hall 13 (by kernel_rfl)
    have hb14_ := hall 14 (by kernel_rfl)
    have hb15_ := hall 15 (by kernel_rfl)
    have hb16_ := hall 16 (by kernel_rfl)
    have hb17_ := hall 17 (by kernel_rfl)
    have hb18_ := hall 18 (by kernel_rfl)
    have hb19_ := hall 19 (by kernel_rfl)
    have hb20_ := hall 20 (by kernel_rfl)
    have hb21_ := hall 21 (by kernel_rfl)
    subst ha
    obtain rfl := (Q_X19_ hb19_).symm
    obtain rfl := (Q_X20_ hb20_).symm
    obtain rfl := (Q_X21_ hb21_).symm
    simp only [putSel, hb0_, hb1_, hb2_, hb3_, hb4_, hb5_, hb6_, hb7_, hb8_, hb9_, hb10_, hb11_, hb12_, hb13_, hb14_, hb15_, hb16_, hb17_, hb18_, hb19_, hb20_, hb21_, if_true, Act.put, List.setIfInBounds_toArray, List.set_cons_zero, List.set_cons_succ]
    have BK270 := Aside0.mk Q_BK270
    clear Q_BK270
    have BK273 := Aside0.mk Q_BK273
    clear Q_BK273
    have BK274 := Aside0.mk Q_BK274
    clear Q_BK274
    have BK275 := Aside0.mk Q_BK275
    clear Q_BK275
    have HB := Aside0.mk Q_HB
    clear Q_HB
    clear Q_HO278
    have HO281 := Aside0.mk (Q_HO281 hb4_)
    clear Q_HO281
    have HO284 := Aside0.mk (Q_HO284 hb5_)
    clear Q_HO284
    clear Q_HO287
    have HO290 := Aside0.mk (Q_HO290 hb10_)
    clear Q_HO290
    have HO293 := Aside0.mk (Q_HO293 hb11_)
    clear Q_HO293
    clear Q_HO296
    have HO299 := Aside0.mk (Q_HO299 hb17_)
    clear Q_HO299
    have HO302 := Aside0.mk (Q_HO302 hb18_)
    clear Q_HO302
    clear hall hb0_ hb1_ hb2_ hb3_ hb4_ hb5_ hb6_ hb7_ hb8_ hb9_ hb10_ hb11_ hb12_ hb13_ hb14_ hb15_ hb16_ hb17_ hb18_ hb19_ hb20_ hb21_
    go_upto_region 7 with (fail)
    go_cut [78] (fun v78 wc => ∃ (kq : Nat) (x78_13 : Bool), v78 = .bool x78_13 ∧ Aside0 (terrkeep5_RasterHalves.j0 kq t282 t291 t300 x78_13 t268 t269 (wrap64 ((wrap64 (t268 + 1)) + t271)) (wrap64 ((wrap64 (t269 + 1)) + t272)) = some r) ∧ Aside0 (kq ≤ k) ∧ Aside0 (Kd.R (Kd.int .i64) 3 wc w.heap.size (fun _ => True) v283 t282) ∧ Aside0 (Kd.R (Kd.int .i64) 3 wc w.heap.size (fun _ => True) v292 t291) ∧ Aside0 (Kd.R (Kd.int .i64) 3 wc w.heap.size (fun _ => True) v301 t300) ∧ Aside0 (wc.heap[gb270]? = some (.cells #[.int .i64 t268, .int .i64 t269] 40 (0, 0))) ∧ Aside0 (wc.heap[gb273]? = some (.cells #[.int .i64 (wrap64 ((wrap64 (t268 + 1)) + t271)), .int .i64 (wrap64 ((wrap64 (t269 + 1)) + t272))] 40 (0, 0))) ∧ Aside0 (wc.heap[gb274]? = some (.cells #[.int .i64 (wrap64 ((wrap64 (t268 + 1)) + t271)), .int .i64 t269] 40 (0, 0))) ∧ Aside0 (wc.heap[gb275]? = some (.cells #[.int .i64 t268, .int .i64 (wrap64 ((wrap64 (t269 + 1)) + t272))] 40 (0, 0))) ∧ Aside0 (Below w.heap.size w wc))
    case first =>
      have H := HC14.out
      clear HC14
      by_cases c57 : (t282.length : Int) = 4096
      · rw [if_pos c57] at H
        have c57b0 : ((t282.length : Int) == 4096) = true := beq_iff_eq.mpr c57
        have c57b1 : ((t282.length : Int) != 4096) = false := bne_eq_false_iff_eq.mpr c57
        clear c57
        (first | rw [c57b0] | (simp only [i64_w, i32_w]; rw [c57b0]) | skip)
        by_cases c58 : (t291.length : Int) = 4096
        · rw [if_pos c58] at H
          have c58b0 : ((t291.length : Int) == 4096) = true := beq_iff_eq.mpr c58
          have c58b1 : ((t291.length : Int) != 4096) = false := bne_eq_false_iff_eq.mpr c58
          clear c58
          have H' := Aside0.mk H
          clear H
          obtain ⟨Ao59, co59, eo59⟩ := Kd.R_slice HO284.out
          subst eo59
          obtain ⟨Ao60, co60, eo60⟩ := Kd.R_slice HO293.out
          subst eo60
          obtain ⟨Ao61, co61, eo61⟩ := Kd.R_slice HO302.out
          subst eo61
          go_wp2
          go_meet
          case rel => exact ⟨_, (((t300.length : Int) != 4096)), (by first | rfl | (simp; done) | (simp [*]; done)), H', ⟨by first | omega | exact Nat.le_refl _⟩, ⟨by (with_reducible repeat (first | apply Kd.R_alloc | apply Kd.R_drewN | apply Kd.R_drew)); exact HO284.out⟩, ⟨by (with_reducible repeat (first | apply Kd.R_alloc | apply Kd.R_drewN | apply Kd.R_drew)); exact HO293.out⟩, ⟨by (with_reducible repeat (first | apply Kd.R_alloc | apply Kd.R_drewN | apply Kd.R_drew)); exact HO302.out⟩, ⟨by (with_reducible repeat (first | refine blk_drewN ?_ _ | refine blk_drew ?_ | refine blk_alloc ?_ _)); exact BK270.out⟩, ⟨by (with_reducible repeat (first | refine blk_drewN ?_ _ | refine blk_drew ?_ | refine blk_alloc ?_ _)); exact BK273.out⟩, ⟨by (with_reducible repeat (first | refine blk_drewN ?_ _ | refine blk_drew ?_ | refine blk_alloc ?_ _)); exact BK274.out⟩, ⟨by (with_reducible repeat (first | refine blk_drewN ?_ _ | refine blk_drew ?_ | refine blk_alloc ?_ _)); exact BK275.out⟩, ⟨by repeat (first | (with_reducible first | exact HB.out | apply below_alloc | apply pw_below_drewN | apply below_drew1 | refine below_set ?_ GE270.out | refine below_set ?_ GE273.out | refine below_set ?_ GE274.out | refine below_set ?_ GE275.out) | exact HB.out)⟩⟩
        · rw [if_neg c58] at H
          have c58b0 : ((t291.length : Int) == 4096) = false := beq_eq_false_iff_ne.mpr c58
          have c58b1 : ((t291.length : Int) != 4096) = true := bne_iff_ne.mpr c58
          have H' := Aside0.mk H
          clear H
          obtain ⟨Ao62, co62, eo62⟩ := Kd.R_slice HO284.out
          subst eo62
          obtain ⟨Ao63, co63, eo63⟩ := Kd.R_slice HO293.out
          subst eo63
          go_wp2
          go_meet
          case rel => exact ⟨_, (true), (by first | rfl | (simp; done) | (simp [*]; done)), H', ⟨by first | omega | exact Nat.le_refl _⟩, ⟨by (with_reducible repeat (first | apply Kd.R_alloc | apply Kd.R_drewN | apply Kd.R_drew)); exact HO284.out⟩, ⟨by (with_reducible repeat (first | apply Kd.R_alloc | apply Kd.R_drewN | apply Kd.R_drew)); exact HO293.out⟩, ⟨by (with_reducible repeat (first | apply Kd.R_alloc | apply Kd.R_drewN | apply Kd.R_drew)); exact HO302.out⟩, ⟨by (with_reducible repeat (first | refine blk_drewN ?_ _ | refine blk_drew ?_ | refine blk_alloc ?_ _)); exact BK270.out⟩, ⟨by (with_reducible repeat (first | refine blk_drewN ?_ _ | refine blk_drew ?_ | refine blk_alloc ?_ _)); exact BK273.out⟩, ⟨by (with_reducible repeat (first | refine blk_drewN ?_ _ | refine blk_drew ?_ | refine blk_alloc ?_ _)); exact BK274.out⟩, ⟨by (with_reducible repeat (first | refine blk_drewN ?_ _ | refine blk_drew ?_ | refine blk_alloc ?_ _)); exact BK275.out⟩, ⟨by repeat (first | (with_reducible first | exact HB.out | apply below_alloc | apply pw_below_drewN | apply below_drew1 | refine below_set ?_ GE270.out | refine below_set ?_ GE273.out | refine below_set ?_ GE274.out | refine below_set ?_ GE275.out) | exact HB.out)⟩⟩
      · rw [if_neg c57] at H
        have c57b0 : ((t282.length : Int) == 4096) = false := beq_eq_false_iff_ne.mpr c57
        have c57b1 : ((t282.length : Int) != 4096) = true := bne_iff_ne.mpr c57
        (first | rw [c57b0] | (simp only [i64_w, i32_w]; rw [c57b0]) | skip)
        have H' := Aside0.mk H
        clear H
        obtain ⟨Ao64, co64, eo64⟩ := Kd.R_slice HO284.out
        subst eo64
        go_wp2
        go_meet
        case rel => exact ⟨_, (true), (by first | rfl | (simp; done) | (simp [*]; done)), H', ⟨by first | omega | exact Nat.le_refl _⟩, ⟨by (with_reducible repeat (first | apply Kd.R_alloc | apply Kd.R_drewN | apply Kd.R_drew)); exact HO284.out⟩, ⟨by (with_reducible repeat (first | apply Kd.R_alloc | apply Kd.R_drewN | apply Kd.R_drew)); exact HO293.out⟩, ⟨by (with_reducible repeat (first | apply Kd.R_alloc | apply Kd.R_drewN | apply Kd.R_drew)); exact HO302.out⟩, ⟨by (with_reducible repeat (first | refine blk_drewN ?_ _ | refine blk_drew ?_ | refine blk_alloc ?_ _)); exact BK270.out⟩, ⟨by (with_reducible repeat (first | refine blk_drewN ?_ _ | refine blk_drew ?_ | refine blk_alloc ?_ _)); exact BK273.out⟩, ⟨by (with_reducible repeat (first | refine blk_drewN ?_ _ | refine blk_drew ?_ | refine blk_alloc ?_ _)); exact BK274.out⟩, ⟨by (with_reducible repeat (first | refine blk_drewN ?_ _ | refine blk_drew ?_ | refine blk_alloc ?_ _)); exact BK275.out⟩, ⟨by repeat (first | (with_reducible first | exact HB.out | apply below_alloc | apply pw_below_drewN | apply below_drew1 | refine below_set ?_ GE270.out | refine below_set ?_ GE273.out | refine below_set ?_ GE274.out | refine below_set ?_ GE275.out) | exact HB.out)⟩⟩
    case rest =>
      clear HC14
      try clear c1
      try clear c2
      try clear p2
      try clear c4
      try clear c5
      try clear p5
      try clear p6
      try clear c43
      try clear c57
      try clear c57b0
      try clear c57b1
      try clear c58
      try clear c58b0
      try clear c58b1
      try clear p64
      obtain ⟨kq, x78_13, rfl, HA, HJ13, HO_13, HO_14, HO_15, BK270, BK273, BK274, BK275, HB⟩ := hcut
      cases kq with
      | zero => exact absurd HA.out (by simp [terrkeep5_RasterHalves.j0])
      | succ kj13 =>
        have H := HA.out
        clear HA
        simp only [terrkeep5_RasterHalves.j0] at H
        by_cases c65 : x78_13 = true
        · subst c65
          have H1 : (some false) = some r := by rw [if_pos rfl] at H; exact H
          clear H
          have H := H1
          clear H1
          exact absurd (H.trans (congrArg some hr)) (by decide)
        · replace c65 := Bool.eq_false_iff.mpr c65
          subst c65
          have H1 : (terrkeep5_RasterHalves.l0 kj13 t282 t291 t300 (t300.length : Int) 0 t268 t269 (wrap64 ((wrap64 (t268 + 1)) + t271)) (wrap64 ((wrap64 (t269 + 1)) + t272))) = some r := by rw [if_neg (show ¬ (false = true) by decide)] at H; exact H
          clear H
          have H := H1
          clear H1
          have H' := Aside0.mk H
          clear H
          obtain ⟨Ao66, co66, eo66⟩ := Kd.R_slice HO_15.out
          subst eo66
          go_wp2
          go_loopg [81] kj13 (fun kq v81 w' => ∃ (x81_2 : Int), v81 = .int .i64 x81_2 ∧ Aside0 (terrkeep5_RasterHalves.l0 kq t282 t291 t300 (t300.length : Int) x81_2 t268 t269 (wrap64 ((wrap64 (t268 + 1)) + t271)) (wrap64 ((wrap64 (t269 + 1)) + t272)) = some r) ∧ Aside0 (kq ≤ kj13) ∧ Aside0 (Kd.R (Kd.int .i64) 3 w' w.heap.size (fun _ => True) v283 t282) ∧ Aside0 (Kd.R (Kd.int .i64) 3 w' w.heap.size (fun _ => True) v292 t291) ∧ Aside0 (Kd.R (Kd.int .i64) 3 w' w.heap.size (fun _ => True) (.slice Ao66 t300.length co66) t300) ∧ Aside0 (w'.heap[gb270]? = some (.cells #[.int .i64 t268, .int .i64 t269] 40 (0, 0))) ∧ Aside0 (w'.heap[gb273]? = some (.cells #[.int .i64 (wrap64 ((wrap64 (t268 + 1)) + t271)), .int .i64 (wrap64 ((wrap64 (t269 + 1)) + t272))] 40 (0, 0))) ∧ Aside0 (w'.heap[gb274]? = some (.cells #[.int .i64 (wrap64 ((wrap64 (t268 + 1)) + t271)), .int .i64 t269] 40 (0, 0))) ∧ Aside0 (w'.heap[gb275]? = some (.cells #[.int .i64 t268, .int .i64 (wrap64 ((wrap64 (t269 + 1)) + t272))] 40 (0, 0))) ∧ Aside0 (Below w.heap.size w w'))
          case atStart => exact ⟨(0), (by first | rfl | (simp; done) | (simp [*]; done)), H', ⟨Nat.le_refl _⟩, ⟨by (with_reducible repeat (first | apply Kd.R_alloc | apply Kd.R_drewN | apply Kd.R_drew)); exact HO_13.out⟩, ⟨by (with_reducible repeat (first | apply Kd.R_alloc | apply Kd.R_drewN | apply Kd.R_drew)); exact HO_14.out⟩, ⟨by (with_reducible repeat (first | apply Kd.R_alloc | apply Kd.R_drewN | apply Kd.R_drew)); exact HO_15.out⟩, ⟨by (with_reducible repeat (first | refine blk_drewN ?_ _ | refine blk_drew ?_ | refine blk_alloc ?_ _)); exact BK270.out⟩, ⟨by (with_reducible repeat (first | refine blk_drewN ?_ _ | refine blk_drew ?_ | refine blk_alloc ?_ _)); exact BK273.out⟩, ⟨by (with_reducible repeat (first | refine blk_drewN ?_ _ | refine blk_drew ?_ | refine blk_alloc ?_ _)); exact BK274.out⟩, ⟨by (with_reducible repeat (first | refine blk_drewN ?_ _ | refine blk_drew ?_ | refine blk_alloc ?_ _)); exact BK275.out⟩, ⟨by repeat (first | (with_reducible first | exact HB.out | apply below_alloc | apply pw_below_drewN | apply below_drew1 | refine below_set ?_ GE270.out | refine below_set ?_ GE273.out | refine below_set ?_ GE274.out | refine below_set ?_ GE275.out) | exact HB.out)⟩⟩
          case round =>
            clear H'
            try clear c1
            try clear c2
            try clear p2
            try clear c4
            try clear c5
            try clear p5
            try clear c6
            try clear p6
            try clear c43
            try clear c57
            try clear c57b0
            try clear c57b1
            try clear c58
            try clear c58b0
            try clear c58b1
            try clear p64
            try clear c65
            try clear p2
            try clear p5
            try clear p6
            try clear p64
            obtain ⟨x81_2, rfl, HA, HK2, HO_13, HO_14, HO_15, BK270, BK273, BK274, BK275, HB⟩ := hrel
            cases gk with
            | zero => exact absurd HA.out (by simp [terrkeep5_RasterHalves.l0])
            | succ k2 =>
              have H := HA.out
              clear HA
              simp only [terrkeep5_RasterHalves.l0] at H
              by_cases c67 : x81_2 < (t300.length : Int)
              · rw [if_pos c67] at H
                have c67b0 : decide (x81_2 < (t300.length : Int)) = true := decide_eq_true c67
                clear c67
                by_cases c68 : 0 ≤ x81_2
                · rw [if_pos c68] at H
                  have c68b0 : decide (0 ≤ x81_2) = true := decide_eq_true c68
                  clear c68
                  by_cases c69 : x81_2 < (t282.length : Int)
                  · rw [if_pos c69] at H
                    have c69b0 : decide (x81_2 < (t282.length : Int)) = true := decide_eq_true c69
                    clear c69
                    by_cases c70 : x81_2 < (t291.length : Int)
                    · rw [if_pos c70] at H
                      have c70b0 : decide (x81_2 < (t291.length : Int)) = true := decide_eq_true c70
                      clear c70
                      by_cases c71 : x81_2 < (t300.length : Int)
                      · rw [if_pos c71] at H
                        have c71b0 : decide (x81_2 < (t300.length : Int)) = true := decide_eq_true c71
                        clear c71
                        by_cases c72 : (wrap64 ((rd t282 x81_2) + (rd t291 x81_2))) = (rd t300 x81_2)
                        · rw [if_pos c72] at H
                          have c72b0 : ((wrap64 ((rd t282 x81_2) + (rd t291 x81_2))) == (rd t300 x81_2)) = true := beq_iff_eq.mpr c72
                          have c72b1 : ((wrap64 ((rd t282 x81_2) + (rd t291 x81_2))) != (rd t300 x81_2)) = false := bne_eq_false_iff_eq.mpr c72
                          clear c72
                          have H' := Aside0.mk H
                          clear H
                          try go_wp2
                          have n0_ := Aside0.mk (Kd.R_drew HO_13.out)
                          have n1_ := Aside0.mk (Kd.R_drew HO_14.out)
                          have n2_ := Aside0.mk (Kd.R_drew HO_15.out)
                          have n3_ := Aside0.mk (blk_drew BK270.out)
                          have n4_ := Aside0.mk (blk_drew BK273.out)
                          have n5_ := Aside0.mk (blk_drew BK274.out)
                          have n6_ := Aside0.mk (blk_drew BK275.out)
                          have n7_ := Aside0.mk (below_drew1 HB.out)
                          clear HO_13
                          clear HO_14
                          clear HO_15
                          clear BK270
                          clear BK273
                          clear BK274
                          clear BK275
                          clear HB
                          have HO_13 := n0_
                          have HO_14 := n1_
                          have HO_15 := n2_
                          have BK270 := n3_
                          have BK273 := n4_
                          have BK274 := n5_
                          have BK275 := n6_
                          have HB := n7_
                          clear n0_ n1_ n2_ n3_ n4_ n5_ n6_ n7_
                          obtain ⟨Ao74, co74, eo74⟩ := Kd.R_slice HO_13.out
                          (first | subst eo74 | (injection eo74 with f1_ f2_ f3_; have f4_ := f1_.symm; have f5_ := f3_.symm; clear f1_ f2_ f3_; subst f4_; subst f5_))
                          have p303 : 0 ≤ (x81_2 : Int) := of_decide_eq_true (by first | (with_reducible assumption) | assumption)
                          have q303 : x81_2 < (t282.length : Int) := of_decide_eq_true (by first | (with_reducible assumption) | assumption)
                          obtain ⟨ad303, e303, hx303_0⟩ := Kd.at_int (Kd.R_reads' HO_13.out).2.2 x81_2 p303 q303
                          cases e303
                          replace p303 := eq_true p303
                          replace q303 := eq_true q303
                          obtain ⟨Ao75, co75, eo75⟩ := Kd.R_slice HO_14.out
                          (first | subst eo75 | (injection eo75 with f1_ f2_ f3_; have f4_ := f1_.symm; have f5_ := f3_.symm; clear f1_ f2_ f3_; subst f4_; subst f5_))
                          have p304 : 0 ≤ (x81_2 : Int) := of_decide_eq_true (by first | (with_reducible assumption) | assumption)
                          have q304 : x81_2 < (t291.length : Int) := of_decide_eq_true (by first | (with_reducible assumption) | assumption)
                          obtain ⟨ad304, e304, hx304_0⟩ := Kd.at_int (Kd.R_reads' HO_14.out).2.2 x81_2 p304 q304
                          cases e304
                          replace p304 := eq_true p304
                          replace q304 := eq_true q304
                          have p305 : 0 ≤ (x81_2 : Int) := of_decide_eq_true (by first | (with_reducible assumption) | assumption)
                          have q305 : x81_2 < (t300.length : Int) := of_decide_eq_true (by first | (with_reducible assumption) | assumption)
                          obtain ⟨ad305, e305, hx305_0⟩ := Kd.at_int (Kd.R_reads' HO_15.out).2.2 x81_2 p305 q305
                          cases e305
                          replace p305 := eq_true p305
                          replace q305 := eq_true q305
                          refine start_ (n := 14) (S := fun w' => w'.cell? (ad303.add (x81_2).toNat) = some (.int .i64 (rd t282 x81_2)) ∧ w'.cell? (ad304.add (x81_2).toNat) = some (.int .i64 (rd t291 x81_2)) ∧ w'.cell? (ad305.add (x81_2).toNat) = some (.int .i64 (rd t300 x81_2))) (ds := []) #[false, false, false, false, false, false, false, false, false, false, false, false, false, false] (by kernel_rfl) rfl rfl ⟨hx303_0, hx304_0, hx305_0⟩ (fun hHeld => ?_); refine with_tabW terrkeep5_RasterHalves.tab12 terrkeep5_RasterHalves.bits12 (fun HT_ HW_ => ?_)
                          generalize wr.drew = w73 at HO_13 HO_14 HO_15 BK270 BK273 BK274 BK275 HB hx303_0 hx304_0 hx305_0 hHeld ⊢
                          refine pure_ (i := 0) (N := some 84) (v := ?_) (a' := ?_) #[true, false, false, false, false, false, false, false, false, false, false, false, false, false] rfl rfl (any_of HT_.out (by kernel_rfl)) (fun _ _ _ h => h) (Or.inl ⟨by rfl, ?_⟩) ?_ ?_
                          rotate_left
                          · intro w'
                            go_simp
                            with_reducible rfl
                          rotate_left
                          · simp only [Act.put, List.setIfInBounds_toArray, List.set_cons_zero, List.set_cons_succ, i64_w, i32_w]
                            rfl
                          refine pure_ (i := 1) (N := some 85) (v := ?_) (a' := ?_) #[true, true, false, false, false, false, false, false, false, false, false, false, false, false] rfl rfl (any_of HT_.out (by kernel_rfl)) (fun _ _ _ h => h) (Or.inl ⟨by rfl, ?_⟩) ?_ ?_
                          rotate_left
                          · intro w'
                            go_simp
                            with_reducible rfl
                          rotate_left
                          · simp only [Act.put, List.setIfInBounds_toArray, List.set_cons_zero, List.set_cons_succ, i64_w, i32_w]
                            rfl
                          refine pure_ (i := 2) (N := some 86) (v := ?_) (a' := ?_) #[true, true, true, false, false, false, false, false, false, false, false, false, false, false] rfl rfl (any_of HT_.out (by kernel_rfl)) (fun _ _ _ h => h) (Or.inl ⟨by rfl, ?_⟩) ?_ ?_
                          rotate_left
                          · intro w'
                            go_simp
                            with_reducible rfl
                          rotate_left
                          · simp only [Act.put, List.setIfInBounds_toArray, List.set_cons_zero, List.set_cons_succ, i64_w, i32_w]
                            rfl
                          refine pure_ (i := 4) (N := some 88) (v := ?_) (a' := ?_) #[true, true, true, false, true, false, false, false, false, false, false, false, false, false] rfl rfl (any_of HT_.out (by kernel_rfl)) (fun _ _ _ h => h) (Or.inl ⟨by rfl, ?_⟩) ?_ ?_
                          rotate_left
                          · intro w'
                            go_simp
                            with_reducible rfl
                          rotate_left
                          · simp only [Act.put, List.setIfInBounds_toArray, List.set_cons_zero, List.set_cons_succ, i64_w, i32_w]
                            rfl
                          refine pure_ (i := 5) (N := some 89) (v := ?_) (a' := ?_) #[true, true, true, false, true, true, false, false, false, false, false, false, false, false] rfl rfl (any_of HT_.out (by kernel_rfl)) (fun _ _ _ h => h) (Or.inl ⟨by rfl, ?_⟩) ?_ ?_
                          rotate_left
                          · intro w'
                            go_simp
                            with_reducible rfl
                          rotate_left
                          · simp only [Act.put, List.setIfInBounds_toArray, List.set_cons_zero, List.set_cons_succ, i64_w, i32_w]
                            rfl
                          refine pure_ (i := 6) (N := some 90) (v := ?_) (a' := ?_) #[true, true, true, false, true, true, true, false, false, false, false, false, false, false] rfl rfl (any_of HT_.out (by kernel_rfl)) (fun _ _ _ h => h) (Or.inl ⟨by rfl, ?_⟩) ?_ ?_
                          rotate_left
                          · intro w'
                            go_simp
                            with_reducible rfl
                          rotate_left
                          · simp only [Act.put, List.setIfInBounds_toArray, List.set_cons_zero, List.set_cons_succ, i64_w, i32_w]
                            rfl
                          refine pure_ (i := 9) (N := some 93) (v := ?_) (a' := ?_) #[true, true, true, false, true, true, true, false, false, true, false, false, false, false] rfl rfl (any_of HT_.out (by kernel_rfl)) (fun _ _ _ h => h) (Or.inl ⟨by rfl, ?_⟩) ?_ ?_
                          rotate_left
                          · intro w'
                            go_simp
                            with_reducible rfl
                          rotate_left
                          · simp only [Act.put, List.setIfInBounds_toArray, List.set_cons_zero, List.set_cons_succ, i64_w, i32_w]
                            rfl
                          refine pure_ (i := 10) (N := some 94) (v := ?_) (a' := ?_) #[true, true, true, false, true, true, true, false, false, true, true, false, false, false] rfl rfl (any_of HT_.out (by kernel_rfl)) (fun _ _ _ h => h) (Or.inl ⟨by rfl, ?_⟩) ?_ ?_
                          rotate_left
                          · intro w'
                            go_simp
                            with_reducible rfl
                          rotate_left
                          · simp only [Act.put, List.setIfInBounds_toArray, List.set_cons_zero, List.set_cons_succ, i64_w, i32_w]
                            rfl
                          refine pure_ (i := 11) (N := some 95) (v := ?_) (a' := ?_) #[true, true, true, false, true, true, true, false, false, true, true, true, false, false] rfl rfl (any_of HT_.out (by kernel_rfl)) (fun _ _ _ h => h) (Or.inl ⟨by rfl, ?_⟩) ?_ ?_
                          rotate_left
                          · intro w'
                            go_simp
                            with_reducible rfl
                          rotate_left
                          · simp only [Act.put, List.setIfInBounds_toArray, List.set_cons_zero, List.set_cons_succ, i64_w, i32_w]
                            rfl
                          refine take_ (i := 3) (N := some 87) (v := ?_) (a' := ?_) #[true, true, true, true, true, true, true, false, false, true, true, true, false, false] rfl rfl (take_ofW HT_.out HW_.out (by kernel_rfl)) (fun _ _ _ h => h) (Or.inl ⟨by rfl, ?_⟩) hHeld ?_ ?_
                          rotate_left
                          · rintro w' ⟨s0, s1, s2⟩
                            go_simp
                            with_reducible rfl
                          rotate_left
                          · simp only [Act.put, List.setIfInBounds_toArray, List.set_cons_zero, List.set_cons_succ, i64_w, i32_w]
                            rfl
                          refine take_ (i := 7) (N := some 91) (v := ?_) (a' := ?_) #[true, true, true, true, true, true, true, true, false, true, true, true, false, false] rfl rfl (take_ofW HT_.out HW_.out (by kernel_rfl)) (fun _ _ _ h => h) (Or.inl ⟨by rfl, ?_⟩) hHeld ?_ ?_
                          rotate_left
                          · rintro w' ⟨s0, s1, s2⟩
                            go_simp
                            with_reducible rfl
                          rotate_left
                          · simp only [Act.put, List.setIfInBounds_toArray, List.set_cons_zero, List.set_cons_succ, i64_w, i32_w]
                            rfl
                          refine pure_ (i := 8) (N := some 92) (v := ?_) (a' := ?_) #[true, true, true, true, true, true, true, true, true, true, true, true, false, false] rfl rfl (any_of HT_.out (by kernel_rfl)) (fun _ _ _ h => h) (Or.inl ⟨by rfl, ?_⟩) ?_ ?_
                          rotate_left
                          · intro w'
                            go_simp
                            with_reducible rfl
                          rotate_left
                          · simp only [Act.put, List.setIfInBounds_toArray, List.set_cons_zero, List.set_cons_succ, i64_w, i32_w]
                            rfl
                          refine take_ (i := 12) (N := some 96) (v := ?_) (a' := ?_) #[true, true, true, true, true, true, true, true, true, true, true, true, true, false] rfl rfl (take_ofW HT_.out HW_.out (by kernel_rfl)) (fun _ _ _ h => h) (Or.inl ⟨by rfl, ?_⟩) hHeld ?_ ?_
                          rotate_left
                          · rintro w' ⟨s0, s1, s2⟩
                            go_simp
                            with_reducible rfl
                          rotate_left
                          · simp only [Act.put, List.setIfInBounds_toArray, List.set_cons_zero, List.set_cons_succ, i64_w, i32_w]
                            rfl
                          refine pure_ (i := 13) (N := some 97) (v := ?_) (a' := ?_) #[true, true, true, true, true, true, true, true, true, true, true, true, true, true] rfl rfl (any_of HT_.out (by kernel_rfl)) (fun _ _ _ h => h) (Or.inl ⟨by rfl, ?_⟩) ?_ ?_
                          rotate_left
                          · intro w'
                            go_simp
                            with_reducible rfl
                          rotate_left
                          · simp only [Act.put, List.setIfInBounds_toArray, List.set_cons_zero, List.set_cons_succ, i64_w, i32_w]
                            rfl
                          refine done_ (done_of HT_.out (by kernel_rfl)) ?_
                          try go_wp2
                          go_roundg k2
                          case measure => have := HJ13.out; have := HK2.out; omega
                          case rel => exact ⟨(wrap64 (x81_2 + 1)), (by first | rfl | (simp; done) | (simp [*]; done)), H', ⟨by have := HJ13.out; have := HK2.out; omega⟩, ⟨by (with_reducible repeat (first | apply Kd.R_alloc | apply Kd.R_drewN | apply Kd.R_drew)); exact HO_13.out⟩, ⟨by (with_reducible repeat (first | apply Kd.R_alloc | apply Kd.R_drewN | apply Kd.R_drew)); exact HO_14.out⟩, ⟨by (with_reducible repeat (first | apply Kd.R_alloc | apply Kd.R_drewN | apply Kd.R_drew)); exact HO_15.out⟩, ⟨by (with_reducible repeat (first | refine blk_drewN ?_ _ | refine blk_drew ?_ | refine blk_alloc ?_ _)); exact BK270.out⟩, ⟨by (with_reducible repeat (first | refine blk_drewN ?_ _ | refine blk_drew ?_ | refine blk_alloc ?_ _)); exact BK273.out⟩, ⟨by (with_reducible repeat (first | refine blk_drewN ?_ _ | refine blk_drew ?_ | refine blk_alloc ?_ _)); exact BK274.out⟩, ⟨by (with_reducible repeat (first | refine blk_drewN ?_ _ | refine blk_drew ?_ | refine blk_alloc ?_ _)); exact BK275.out⟩, ⟨by repeat (first | (with_reducible first | exact HB.out | apply below_alloc | apply pw_below_drewN | apply below_drew1 | refine below_set ?_ GE270.out | refine below_set ?_ GE273.out | refine below_set ?_ GE274.out | refine below_set ?_ GE275.out) | exact HB.out)⟩⟩
                        · rw [if_neg c72] at H
                          have c72b0 : ((wrap64 ((rd t282 x81_2) + (rd t291 x81_2))) == (rd t300 x81_2)) = false := beq_eq_false_iff_ne.mpr c72
                          have c72b1 : ((wrap64 ((rd t282 x81_2) + (rd t291 x81_2))) != (rd t300 x81_2)) = true := bne_iff_ne.mpr c72
                          exact absurd (H.trans (congrArg some hr)) (by decide)
                      · rw [if_neg c71] at H
                        exact absurd H (by simp)
                    · rw [if_neg c70] at H
                      exact absurd H (by simp)
                  · rw [if_neg c69] at H
                    exact absurd H (by simp)
                · rw [if_neg c68] at H
                  exact absurd H (by simp)
              · rw [if_neg c67] at H
                have c67b0 : decide (x81_2 < (t300.length : Int)) = false := decide_eq_false c67
                clear c67
                replace H := Option.bind_eq_some_iff.mp H
                obtain ⟨t306, A760, H⟩ := H
                replace H : (some (t306 == (wrap64 ((wrap64 (16 * (wrap64 ((mn (wrap64 ((wrap64 (t268 + 1)) + t271)) 256) - t268)))) * (wrap64 ((mn (wrap64 ((wrap64 (t269 + 1)) + t272)) 256) - t269)))))) = some r := H
                have A76 := Aside0.mk A760
                clear A760
                obtain ⟨ji77, hji77⟩ : ∃ j_ : Int, (mn (wrap64 ((wrap64 (t268 + 1)) + t271)) 256) = j_ := ⟨_, rfl⟩
                replace H : (some (t306 == (wrap64 ((wrap64 (16 * (wrap64 ((ji77) - t268)))) * (wrap64 ((mn (wrap64 ((wrap64 (t269 + 1)) + t272)) 256) - t269)))))) = some r := by first | (rw [hji77] at H; exact H) | (simp only [hji77] at H ⊢; exact H)
                (try rw [hji77] at A76)
                have hji77_ : (if 256 < (wrap64 ((wrap64 (t268 + 1)) + t271)) then 256 else (wrap64 ((wrap64 (t268 + 1)) + t271))) = ji77 := hji77
                obtain ⟨ji78, hji78⟩ : ∃ j_ : Int, (mn (wrap64 ((wrap64 (t269 + 1)) + t272)) 256) = j_ := ⟨_, rfl⟩
                replace H : (some (t306 == (wrap64 ((wrap64 (16 * (wrap64 ((ji77) - t268)))) * (wrap64 ((ji78) - t269)))))) = some r := by first | (rw [hji78] at H; exact H) | (simp only [hji78] at H ⊢; exact H)
                (try rw [hji78] at A76)
                have hji78_ : (if 256 < (wrap64 ((wrap64 (t269 + 1)) + t272)) then 256 else (wrap64 ((wrap64 (t269 + 1)) + t272))) = ji78 := hji78
                clear hr
                obtain rfl := Option.some.inj H
                try go_wp2
                have n0_ := Aside0.mk (Kd.R_drew HO_13.out)
                have n1_ := Aside0.mk (Kd.R_drew HO_14.out)
                have n2_ := Aside0.mk (Kd.R_drew HO_15.out)
                have n3_ := Aside0.mk (blk_drew BK270.out)
                have n4_ := Aside0.mk (blk_drew BK273.out)
                have n5_ := Aside0.mk (blk_drew BK274.out)
                have n6_ := Aside0.mk (blk_drew BK275.out)
                have n7_ := Aside0.mk (below_drew1 HB.out)
                clear HO_13
                clear HO_14
                clear HO_15
                clear BK270
                clear BK273
                clear BK274
                clear BK275
                clear HB
                have HO_13 := n0_
                have HO_14 := n1_
                have HO_15 := n2_
                have BK270 := n3_
                have BK273 := n4_
                have BK274 := n5_
                have BK275 := n6_
                have HB := n7_
                clear n0_ n1_ n2_ n3_ n4_ n5_ n6_ n7_
                refine start_ (n := 18) (S := fun w' => w'.cell? ⟨gb273, 0, none⟩ = some (.int .i64 (wrap64 ((wrap64 (t268 + 1)) + t271))) ∧ w'.cell? ⟨gb273, 1, none⟩ = some (.int .i64 (wrap64 ((wrap64 (t269 + 1)) + t272))) ∧ w'.cell? ⟨gb270, 0, none⟩ = some (.int .i64 t268) ∧ w'.cell? ⟨gb270, 1, none⟩ = some (.int .i64 t269)) (ds := []) #[false, false, false, false, false, false, false, false, false, false, false, false, false, false, false, false, false, false] (by kernel_rfl) rfl rfl ⟨(blk_cell BK273.out 0).trans rfl, (blk_cell BK273.out 1).trans rfl, (blk_cell BK270.out 0).trans rfl, (blk_cell BK270.out 1).trans rfl⟩ (fun hHeld => ?_); refine with_tabW terrkeep5_RasterHalves.tab15 terrkeep5_RasterHalves.bits15 (fun HT_ HW_ => ?_)
                generalize wr.drew = w79 at HO_13 HO_14 HO_15 BK270 BK273 BK274 BK275 HB hHeld ⊢
                refine pure_ (i := 0) (N := some 99) (v := ?_) (a' := ?_) #[true, false, false, false, false, false, false, false, false, false, false, false, false, false, false, false, false, false] rfl rfl (any_of HT_.out (by kernel_rfl)) (fun _ _ _ h => h) (Or.inl ⟨by rfl, ?_⟩) ?_ ?_
                rotate_left
                · intro w'
                  go_simp
                  with_reducible rfl
                rotate_left
                · simp only [Act.put, List.setIfInBounds_toArray, List.set_cons_zero, List.set_cons_succ, i64_w, i32_w]
                  rfl
                refine pure_ (i := 2) (N := some 101) (v := ?_) (a' := ?_) #[true, false, true, false, false, false, false, false, false, false, false, false, false, false, false, false, false, false] rfl rfl (any_of HT_.out (by kernel_rfl)) (fun _ _ _ h => h) (Or.inl ⟨by rfl, ?_⟩) ?_ ?_
                rotate_left
                · intro w'
                  go_simp
                  with_reducible rfl
                rotate_left
                · simp only [Act.put, List.setIfInBounds_toArray, List.set_cons_zero, List.set_cons_succ, i64_w, i32_w]
                  rfl
                refine pure_ (i := 5) (N := some 104) (v := ?_) (a' := ?_) #[true, false, true, false, false, true, false, false, false, false, false, false, false, false, false, false, false, false] rfl rfl (any_of HT_.out (by kernel_rfl)) (fun _ _ _ h => h) (Or.inl ⟨by rfl, ?_⟩) ?_ ?_
                rotate_left
                · intro w'
                  go_simp
                  with_reducible rfl
                rotate_left
                · simp only [Act.put, List.setIfInBounds_toArray, List.set_cons_zero, List.set_cons_succ, i64_w, i32_w]
                  rfl
                refine pure_ (i := 9) (N := some 108) (v := ?_) (a' := ?_) #[true, false, true, false, false, true, false, false, false, true, false, false, false, false, false, false, false, false] rfl rfl (any_of HT_.out (by kernel_rfl)) (fun _ _ _ h => h) (Or.inl ⟨by rfl, ?_⟩) ?_ ?_
                rotate_left
                · intro w'
                  go_simp
                  with_reducible rfl
                rotate_left
                · simp only [Act.put, List.setIfInBounds_toArray, List.set_cons_zero, List.set_cons_succ, i64_w, i32_w]
                  rfl
                refine pure_ (i := 12) (N := some 111) (v := ?_) (a' := ?_) #[true, false, true, false, false, true, false, false, false, true, false, false, true, false, false, false, false, false] rfl rfl (any_of HT_.out (by kernel_rfl)) (fun _ _ _ h => h) (Or.inl ⟨by rfl, ?_⟩) ?_ ?_
                rotate_left
                · intro w'
                  go_simp
                  with_reducible rfl
                rotate_left
                · simp only [Act.put, List.setIfInBounds_toArray, List.set_cons_zero, List.set_cons_succ, i64_w, i32_w]
                  rfl
                refine take_ (i := 3) (N := some 102) (v := ?_) (a' := ?_) #[true, false, true, true, false, true, false, false, false, true, false, false, true, false, false, false, false, false] rfl rfl (take_ofW HT_.out HW_.out (by kernel_rfl)) (fun _ _ _ h => h) (Or.inl ⟨by rfl, ?_⟩) hHeld ?_ ?_
                rotate_left
                · rintro w' ⟨s0, s1, s2, s3⟩
                  go_simp
                  with_reducible rfl
                rotate_left
                · simp only [Act.put, List.setIfInBounds_toArray, List.set_cons_zero, List.set_cons_succ, i64_w, i32_w]
                  rfl
                refine pure_ (i := 4) (N := some 103) (v := ?_) (a' := ?_) #[true, false, true, true, true, true, false, false, false, true, false, false, true, false, false, false, false, false] rfl rfl (any_of HT_.out (by kernel_rfl)) (fun _ _ _ h => h) (Or.inl ⟨by rfl, ?_⟩) ?_ ?_
                rotate_left
                · intro w'
                  go_simp
                  with_reducible rfl
                rotate_left
                · simp only [Act.put, List.setIfInBounds_toArray, List.set_cons_zero, List.set_cons_succ, i64_w, i32_w]
                  rfl
                refine take_ (i := 6) (N := some 105) (v := ?_) (a' := ?_) #[true, false, true, true, true, true, true, false, false, true, false, false, true, false, false, false, false, false] rfl rfl (take_ofW HT_.out HW_.out (by kernel_rfl)) (fun _ _ _ h => h) (Or.inl ⟨by rfl, ?_⟩) hHeld ?_ ?_
                rotate_left
                · rintro w' ⟨s0, s1, s2, s3⟩
                  go_simp
                  with_reducible rfl
                rotate_left
                · simp only [Act.put, List.setIfInBounds_toArray, List.set_cons_zero, List.set_cons_succ, i64_w, i32_w]
                  rfl
                refine pure_ (i := 7) (N := some 106) (v := ?_) (a' := ?_) #[true, false, true, true, true, true, true, true, false, true, false, false, true, false, false, false, false, false] rfl rfl (any_of HT_.out (by kernel_rfl)) (fun _ _ _ h => h) (Or.inl ⟨by rfl, ?_⟩) ?_ ?_
                rotate_left
                · intro w'
                  go_simp
                  with_reducible rfl
                rotate_left
                · simp only [Act.put, List.setIfInBounds_toArray, List.set_cons_zero, List.set_cons_succ, i64_w, i32_w]
                  rfl
                refine pure_ (i := 8) (N := some 107) (v := ?_) (a' := ?_) #[true, false, true, true, true, true, true, true, true, true, false, false, true, false, false, false, false, false] rfl rfl (any_of HT_.out (by kernel_rfl)) (fun _ _ _ h => h) (Or.inl ⟨by rfl, ?_⟩) ?_ ?_
                rotate_left
                · intro w'
                  go_simp
                  with_reducible rfl
                rotate_left
                · simp only [Act.put, List.setIfInBounds_toArray, List.set_cons_zero, List.set_cons_succ, i64_w, i32_w]
                  rfl
                refine take_ (i := 10) (N := some 109) (v := ?_) (a' := ?_) #[true, false, true, true, true, true, true, true, true, true, true, false, true, false, false, false, false, false] rfl rfl (take_ofW HT_.out HW_.out (by kernel_rfl)) (fun _ _ _ h => h) (Or.inl ⟨by rfl, ?_⟩) hHeld ?_ ?_
                rotate_left
                · rintro w' ⟨s0, s1, s2, s3⟩
                  go_simp
                  with_reducible rfl
                rotate_left
                · simp only [Act.put, List.setIfInBounds_toArray, List.set_cons_zero, List.set_cons_succ, i64_w, i32_w]
                  rfl
                refine pure_ (i := 11) (N := some 110) (v := ?_) (a' := ?_) #[true, false, true, true, true, true, true, true, true, true, true, true, true, false, false, false, false, false] rfl rfl (any_of HT_.out (by kernel_rfl)) (fun _ _ _ h => h) (Or.inl ⟨by rfl, ?_⟩) ?_ ?_
                rotate_left
                · intro w'
                  go_simp
                  with_reducible rfl
                rotate_left
                · simp only [Act.put, List.setIfInBounds_toArray, List.set_cons_zero, List.set_cons_succ, i64_w, i32_w]
                  rfl
                refine take_ (i := 13) (N := some 112) (v := ?_) (a' := ?_) #[true, false, true, true, true, true, true, true, true, true, true, true, true, true, false, false, false, false] rfl rfl (take_ofW HT_.out HW_.out (by kernel_rfl)) (fun _ _ _ h => h) (Or.inl ⟨by rfl, ?_⟩) hHeld ?_ ?_
                rotate_left
                · rintro w' ⟨s0, s1, s2, s3⟩
                  go_simp
                  with_reducible rfl
                rotate_left
                · simp only [Act.put, List.setIfInBounds_toArray, List.set_cons_zero, List.set_cons_succ, i64_w, i32_w]
                  rfl
                refine pure_ (i := 14) (N := some 113) (v := ?_) (a' := ?_) #[true, false, true, true, true, true, true, true, true, true, true, true, true, true, true, false, false, false] rfl rfl (any_of HT_.out (by kernel_rfl)) (fun _ _ _ h => h) (Or.inl ⟨by rfl, ?_⟩) ?_ ?_
                rotate_left
                · intro w'
                  go_simp
                  with_reducible rfl
                rotate_left
                · simp only [Act.put, List.setIfInBounds_toArray, List.set_cons_zero, List.set_cons_succ, i64_w, i32_w]
                  rfl
                refine pure_ (i := 15) (N := some 114) (v := ?_) (a' := ?_) #[true, false, true, true, true, true, true, true, true, true, true, true, true, true, true, true, false, false] rfl rfl (any_of HT_.out (by kernel_rfl)) (fun _ _ _ h => h) (Or.inl ⟨by rfl, ?_⟩) ?_ ?_
                rotate_left
                · intro w'
                  go_simp
                  with_reducible rfl
                rotate_left
                · simp only [Act.put, List.setIfInBounds_toArray, List.set_cons_zero, List.set_cons_succ, i64_w, i32_w]
                  rfl
                refine one_ (i := 1) (N := some 100) #[true, true, true, true, true, true, true, true, true, true, true, true, true, true, true, true, false, false] rfl rfl (one_of HT_.out (by kernel_rfl)) (by decide) (fun K hK => ?_)
                refine goes_ Try.func37 (by kernel_rfl) rfl #[.slice Ao66 t300.length co66] (by rfl) rfl rfl (by (try simp only [List.map_toArray, List.map_cons, List.map_nil]); first | done | rfl | (simp only [List.length_drop, List.length_take]; rfl)) ?_
                with_reducible refine (raster_Total.calls k2 _ _ t300 t306 _ ?side1 ?side2 A76.out).mono ?_
                (case side1 => repeat (first | exact (Kd.R_reads' HO_15.out).2.2 | (with_reducible refine Kd.C_alloc ?_ _) | (with_reducible refine Kd.C_drewN ?_ _) | (with_reducible refine Kd.C_drew ?_)))
                (case side2 => exact (Kd.R_reads' HO_15.out).2.1)
                rintro e w' ⟨rfl, ⟨nd, rfl⟩⟩
                refine ⟨_, rfl, ?_⟩
                refine hK.out _ _ ⟨(blk_cell BK273.out 0).trans rfl, (blk_cell BK273.out 1).trans rfl, (blk_cell BK270.out 0).trans rfl, (blk_cell BK270.out 1).trans rfl⟩ (fun hHeld => ?_)
                clear hK K
                refine norm_ (a' := ?_) ?_ ?_
                rotate_left
                · show Act.put _ (some 100) _ = _
                  simp only [Act.put, List.setIfInBounds_toArray, List.set_cons_zero, List.set_cons_succ, i64_w, i32_w]
                  rfl
                refine pure_ (i := 16) (N := some 115) (v := ?_) (a' := ?_) #[true, true, true, true, true, true, true, true, true, true, true, true, true, true, true, true, true, false] rfl rfl (any_of HT_.out (by kernel_rfl)) (fun _ _ _ h => h) (Or.inl ⟨by rfl, ?_⟩) ?_ ?_
                rotate_left
                · intro w'
                  go_simp
                  with_reducible rfl
                rotate_left
                · simp only [Act.put, List.setIfInBounds_toArray, List.set_cons_zero, List.set_cons_succ, i64_w, i32_w]
                  rfl
                refine pure_ (i := 17) (N := some 8) (v := ?_) (a' := ?_) #[true, true, true, true, true, true, true, true, true, true, true, true, true, true, true, true, true, true] rfl rfl (any_of HT_.out (by kernel_rfl)) (fun _ _ _ h => h) (Or.inl ⟨by rfl, ?_⟩) ?_ ?_
                rotate_left
                · intro w'
                  go_simp
                  with_reducible rfl
                rotate_left
                · simp only [Act.put, List.setIfInBounds_toArray, List.set_cons_zero, List.set_cons_succ, i64_w, i32_w]
                  rfl
                refine done_ (done_of HT_.out (by kernel_rfl)) ?_
                try go_wp2
                go_ret
                exact ⟨by first | rfl | (simp [errW_none, errW_some] <;> rfl) | (simp only [← hji77, ← hji78]; first | rfl | (simp [errW_none, errW_some] <;> rfl)) | (simp [*, errW_none, errW_some] <;> rfl), by repeat (first | (with_reducible first | exact HB.out | apply below_alloc | apply pw_below_drewN | apply below_drew1 | refine below_set ?_ GE270.out | refine below_set ?_ GE273.out | refine below_set ?_ GE274.out | refine below_set ?_ GE275.out) | exact HB.out)⟩
  · replace c6 := Bool.eq_false_iff.mpr c6
    subst c6
    have H1 : (some false) = some r := by rw [if_neg (show ¬ (false = true) by decide)] at H; exact H
    clear H
    have H := H1
    clear H1
    exact absurd (H.trans (congrArg some hr)) (by decide)

/-- THE ONE PURE STATEMENT of terrkeep5_RasterHalves: yours. -/
def terrkeep5_RasterHalves.Pure : Prop := ∀ (a0 : Int) (a1 : Int) (a2 : Int) (a3 : Int), (Lit.int .i64 a0).wf = true → (Lit.int .i64 a1).wf = true → (Lit.int .i64 a2).wf = true → (Lit.int .i64 a3).wf = true → ∃ k, terrkeep5_RasterHalves.f k a0 a1 a2 a3 = some true
theorem terrkeep5_RasterHalves.walk (P : terrkeep5_RasterHalves.Pure) (a0 : Int) (a1 : Int) (a2 : Int) (a3 : Int) (w : World) (w0 : (Lit.int .i64 a0).wf = true) (w1 : (Lit.int .i64 a1).wf = true) (w2 : (Lit.int .i64 a2).wf = true) (w3 : (Lit.int .i64 a3).wf = true) :
    Calls Try.prog 11 #[.int .i64 a0, .int .i64 a1, .int .i64 a2, .int .i64 a3] w fun e w' => e = .returned (.bool true) ∧ Below w.heap.size w w' := by
  obtain ⟨k, h⟩ := P a0 a1 a2 a3 w0 w1 w2 w3
  refine (terrkeep5_RasterHalves.calls k a0 a1 a2 a3 true w h rfl).mono ?_
  rintro e w' ⟨rfl, hd⟩
  exact ⟨rfl, hd⟩
end Go.Proofs.Ytdmhnjpblpfbfaa.Q
