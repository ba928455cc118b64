/- What the Go function terrkeep5_RasterEnds comes to, and its contract. Condition: its printed twin gives an answer, which is true. -/
import Derived.Test.YtdmhnjpblpfbfaaQf22
import Derived.Test.YtdmhnjpblpfbfaaQf18
import Derived.Test.YtdmhnjpblpfbfaaQf37
import Derived.Test.YtdmhnjpblpfbfaaQf35
import Derived.Test.YtdmhnjpblpfbfaaQf36
namespace Go.Proofs.Ytdmhnjpblpfbfaa.Q
open Go.RowKit Go.Proofs.YtdmhnjpblpfbfaaW.PrintWords Go.Proofs.YtdmhnjpblpfbfaaW.PrintLast Go.Proofs.YtdmhnjpblpfbfaaW.PrintMore
attribute [local go_sem] max2_int min2_int max_two min_two max_three min_three max_four min_four
set_option linter.unusedVariables false
set_option linter.unusedSimpArgs false
/-! ### terrkeep5_RasterEnds: function 8 -/
mutual
def terrkeep5_RasterEnds.j0 : Nat → List Int → List Int → Bool → Int → Int → Int → Int → Option (Bool)
  | 0, _, _, _, _, _, _, _ => none
  | k + 1, x11, x12, x43, x221000, x221001, x224000, x224001 => if x43 = true then (some false) else ((some (([(⟨x221000, x221001⟩ : S40), (⟨x224000, x224001⟩ : S40)] : List (S40)) : List (S40))).bind fun y239 => (terrkeep5_RasterEnds.l0 k x11 x12 y239 (y239.length : Int) 0 x221000 x221001 x224000 x224001))
def terrkeep5_RasterEnds.l0 : Nat → List Int → List Int → List (S40) → Int → Int → Int → Int → Int → Int → Option (Bool)
  | 0, _, _, _, _, _, _, _, _, _ => none
  | k + 1, x11, x12, x46, x47, x48, x221000, x221001, x224000, x224001 => if x48 < x47 then (if 0 ≤ x48 then (if x48 < (x46.length : Int) then (if 0 ≤ (wrap64 ((wrap64 ((wrap64 (Int.tdiv ((rd_T40 x46 x48).f1) 4)) * 64)) + (wrap64 (Int.tdiv ((rd_T40 x46 x48).f0) 4)))) then (if (wrap64 ((wrap64 ((wrap64 (Int.tdiv ((rd_T40 x46 x48).f1) 4)) * 64)) + (wrap64 (Int.tdiv ((rd_T40 x46 x48).f0) 4)))) < (x11.length : Int) then (if (rd x11 (wrap64 ((wrap64 ((wrap64 (Int.tdiv ((rd_T40 x46 x48).f1) 4)) * 64)) + (wrap64 (Int.tdiv ((rd_T40 x46 x48).f0) 4))))) = 1 then (if (wrap64 ((wrap64 ((wrap64 (Int.tdiv ((rd_T40 x46 x48).f1) 4)) * 64)) + (wrap64 (Int.tdiv ((rd_T40 x46 x48).f0) 4)))) < (x12.length : Int) then (if (rd x12 (wrap64 ((wrap64 ((wrap64 (Int.tdiv ((rd_T40 x46 x48).f1) 4)) * 64)) + (wrap64 (Int.tdiv ((rd_T40 x46 x48).f0) 4))))) < 1 then (some false) else (terrkeep5_RasterEnds.l0 k x11 x12 x46 x47 (wrap64 (x48 + 1)) x221000 x221001 x224000 x224001)) else (none)) else (some false)) else (none)) else (none)) else (none)) else (none)) else ((raster_Lines.f k (([(([(⟨x224000, x224001⟩ : S40), (⟨x221000, x221001⟩ : S40)] : List (S40)))] : List (List (S40))))).bind fun t252 => ((raster_Total.f k x12).bind fun t255 => (if t255 = 2 then ((slices_Equal_int_int.f k x11 t252).bind fun t256 => (some t256)) else (some false))))
end
def terrkeep5_RasterEnds.f (k : Nat) (a0 : Int) (a1 : Int) (a2 : Int) (a3 : Int) : Option (Bool) := (terrmake_Below.f a0 256).bind fun t218 => ((terrmake_Below.f a1 256).bind fun t219 => ((terrmake_Below.f a2 256).bind fun t221 => ((terrmake_Below.f a3 256).bind fun t222 => ((raster_Lines.f k (([(([(⟨t218, t219⟩ : S40), (⟨t221, t222⟩ : S40)] : List (S40)))] : List (List (S40))))).bind fun t230 => ((raster_Dots.f k (([(⟨t218, t219⟩ : S40), (⟨t221, t222⟩ : S40)] : List (S40)))).bind fun t236 => (if (t230.length : Int) = 4096 then (terrkeep5_RasterEnds.j0 k t230 t236 ((t236.length : Int) != 4096) t218 t219 t221 t222) else (terrkeep5_RasterEnds.j0 k t230 t236 true t218 t219 t221 t222)))))))
theorem terrkeep5_RasterEnds.mono_l : ∀ k, (∀ y0 y1 y2 y3 y4 y5 y6, LeO (terrkeep5_RasterEnds.j0 k y0 y1 y2 y3 y4 y5 y6) (terrkeep5_RasterEnds.j0 (k + 1) y0 y1 y2 y3 y4 y5 y6)) ∧ (∀ y0 y1 y2 y3 y4 y5 y6 y7 y8, LeO (terrkeep5_RasterEnds.l0 k y0 y1 y2 y3 y4 y5 y6 y7 y8) (terrkeep5_RasterEnds.l0 (k + 1) y0 y1 y2 y3 y4 y5 y6 y7 y8))
  | 0 => ⟨fun _ _ _ _ _ _ _ r h => by simp [terrkeep5_RasterEnds.j0] at h, fun _ _ _ _ _ _ _ _ _ r h => by simp [terrkeep5_RasterEnds.l0] at h⟩
  | k + 1 => by
    obtain ⟨ih0, ih1⟩ := terrkeep5_RasterEnds.mono_l k
    refine ⟨?_, ?_⟩
    · intro y0 y1 y2 y3 y4 y5 y6
      unfold terrkeep5_RasterEnds.j0
      repeat' first
      | (with_reducible exact ih0 _ _ _ _ _ _ _)
      | (with_reducible exact ih1 _ _ _ _ _ _ _ _ _)
      | (with_reducible exact raster_Dots.mono _ _)
      | (with_reducible exact raster_Lines.mono _ _)
      | (with_reducible exact raster_Total.mono _ _)
      | (with_reducible exact slices_Equal_int_int.mono _ _ _)
      | (with_reducible exact LeO.refl _)
      | (with_reducible exact LeO.none _)
      | (with_reducible refine LeO.ite ?_ ?_)
      | (with_reducible refine LeO.bind ?_ (fun _ => ?_))
      | exact ih0 _ _ _ _ _ _ _
      | exact ih1 _ _ _ _ _ _ _ _ _
      | exact raster_Dots.mono _ _
      | exact raster_Lines.mono _ _
      | exact raster_Total.mono _ _
      | exact slices_Equal_int_int.mono _ _ _
      | exact LeO.none _
      | refine LeO.ite ?_ ?_
      | refine LeO.bind ?_ (fun _ => ?_)
    · intro y0 y1 y2 y3 y4 y5 y6 y7 y8
      unfold terrkeep5_RasterEnds.l0
      repeat' first
      | (with_reducible exact ih0 _ _ _ _ _ _ _)
      | (with_reducible exact ih1 _ _ _ _ _ _ _ _ _)
      | (with_reducible exact raster_Dots.mono _ _)
      | (with_reducible exact raster_Lines.mono _ _)
      | (with_reducible exact raster_Total.mono _ _)
      | (with_reducible exact slices_Equal_int_int.mono _ _ _)
      | (with_reducible exact LeO.refl _)
      | (with_reducible exact LeO.none _)
      | (with_reducible refine LeO.ite ?_ ?_)
      | (with_reducible refine LeO.bind ?_ (fun _ => ?_))
      | exact ih0 _ _ _ _ _ _ _
      | exact ih1 _ _ _ _ _ _ _ _ _
      | exact raster_Dots.mono _ _
      | exact raster_Lines.mono _ _
      | exact raster_Total.mono _ _
      | exact slices_Equal_int_int.mono _ _ _
      | exact LeO.none _
      | refine LeO.ite ?_ ?_
      | refine LeO.bind ?_ (fun _ => ?_)
theorem terrkeep5_RasterEnds.mono : ∀ a0 a1 a2 a3 k, LeO (terrkeep5_RasterEnds.f k a0 a1 a2 a3) (terrkeep5_RasterEnds.f (k + 1) a0 a1 a2 a3) := by
  intro a0 a1 a2 a3 k
  obtain ⟨ih0, ih1⟩ := terrkeep5_RasterEnds.mono_l k
  unfold terrkeep5_RasterEnds.f
  repeat' first
      | (with_reducible exact ih0 _ _ _ _ _ _ _)
      | (with_reducible exact ih1 _ _ _ _ _ _ _ _ _)
      | (with_reducible exact raster_Dots.mono _ _)
      | (with_reducible exact raster_Lines.mono _ _)
      | (with_reducible exact raster_Total.mono _ _)
      | (with_reducible exact slices_Equal_int_int.mono _ _ _)
      | (with_reducible exact LeO.refl _)
      | (with_reducible exact LeO.none _)
      | (with_reducible refine LeO.ite ?_ ?_)
      | (with_reducible refine LeO.bind ?_ (fun _ => ?_))
      | exact ih0 _ _ _ _ _ _ _
      | exact ih1 _ _ _ _ _ _ _ _ _
      | exact raster_Dots.mono _ _
      | exact raster_Lines.mono _ _
      | exact raster_Total.mono _ _
      | exact slices_Equal_int_int.mono _ _ _
      | exact LeO.none _
      | refine LeO.ite ?_ ?_
      | refine LeO.bind ?_ (fun _ => ?_)
def terrkeep5_RasterEnds.T3 : Bool × List (List Nat × List Nat) := (true, [([], []), ([], []), ([0, 1], [0, 1]), ([2], [2]), ([3], [3]), ([], []), ([], []), ([5, 6], [5, 6]), ([7, 4], [7]), ([4, 8, 0, 1, 2, 3, 4], [4]), ([8, 9, 0, 1, 2, 3, 4, 5, 6, 7, 8, 9], [8])])
def terrkeep5_RasterEnds.B3 : List Nat := [0, 0, 3, 7, 15, 0, 0, 96, 255, 511, 1023]
theorem terrkeep5_RasterEnds.tab3 : rtab .any (opsOf Try.f8 3) = terrkeep5_RasterEnds.T3 := by kernel_rfl
theorem terrkeep5_RasterEnds.bits3 : waitsOk terrkeep5_RasterEnds.T3.2 terrkeep5_RasterEnds.B3 = true := by kernel_rfl
set_option maxHeartbeats 8000000 in
set_option maxRecDepth 100000 in
theorem terrkeep5_RasterEnds.calls (k : Nat) (a0 : Int) (a1 : Int) (a2 : Int) (a3 : Int) (r : Bool) (w : World) (h : terrkeep5_RasterEnds.f k a0 a1 a2 a3 = some r) (hr : r = true) :
    Calls Try.prog 8 #[.int .i64 a0, .int .i64 a1, .int .i64 a2, .int .i64 a3] w fun e w' => e = .returned (.bool r) ∧ Below w.heap.size w w' := by
  have hu40 := Try.underlying40
  have HB := Aside0.mk (Below.refl w.heap.size w)
  have H : ((terrmake_Below.f a0 256).bind fun t218 => ((terrmake_Below.f a1 256).bind fun t219 => ((terrmake_Below.f a2 256).bind fun t221 => ((terrmake_Below.f a3 256).bind fun t222 => ((raster_Lines.f k (([(([(⟨t218, t219⟩ : S40), (⟨t221, t222⟩ : S40)] : List (S40)))] : List (List (S40))))).bind fun t230 => ((raster_Dots.f k (([(⟨t218, t219⟩ : S40), (⟨t221, t222⟩ : S40)] : List (S40)))).bind fun t236 => (if (t230.length : Int) = 4096 then (terrkeep5_RasterEnds.j0 k t230 t236 ((t236.length : Int) != 4096) t218 t219 t221 t222) else (terrkeep5_RasterEnds.j0 k t230 t236 true t218 t219 t221 t222)))))))) = some r := h
  clear h
  replace H := Option.bind_eq_some_iff.mp H
  obtain ⟨t218, A50, H⟩ := H
  replace H : ((terrmake_Below.f a1 256).bind fun t219 => ((terrmake_Below.f a2 256).bind fun t221 => ((terrmake_Below.f a3 256).bind fun t222 => ((raster_Lines.f k (([(([(⟨t218, t219⟩ : S40), (⟨t221, t222⟩ : S40)] : List (S40)))] : List (List (S40))))).bind fun t230 => ((raster_Dots.f k (([(⟨t218, t219⟩ : S40), (⟨t221, t222⟩ : S40)] : List (S40)))).bind fun t236 => (if (t230.length : Int) = 4096 then (terrkeep5_RasterEnds.j0 k t230 t236 ((t236.length : Int) != 4096) t218 t219 t221 t222) else (terrkeep5_RasterEnds.j0 k t230 t236 true t218 t219 t221 t222))))))) = some r := H
  have A5 := Aside0.mk A50
  clear A50
  replace H := Option.bind_eq_some_iff.mp H
  obtain ⟨t219, A60, H⟩ := H
  replace H : ((terrmake_Below.f a2 256).bind fun t221 => ((terrmake_Below.f a3 256).bind fun t222 => ((raster_Lines.f k (([(([(⟨t218, t219⟩ : S40), (⟨t221, t222⟩ : S40)] : List (S40)))] : List (List (S40))))).bind fun t230 => ((raster_Dots.f k (([(⟨t218, t219⟩ : S40), (⟨t221, t222⟩ : S40)] : List (S40)))).bind fun t236 => (if (t230.length : Int) = 4096 then (terrkeep5_RasterEnds.j0 k t230 t236 ((t236.length : Int) != 4096) t218 t219 t221 t222) else (terrkeep5_RasterEnds.j0 k t230 t236 true t218 t219 t221 t222)))))) = some r := H
  have A6 := Aside0.mk A60
  clear A60
  replace H := Option.bind_eq_some_iff.mp H
  obtain ⟨t221, A70, H⟩ := H
  replace H : ((terrmake_Below.f a3 256).bind fun t222 => ((raster_Lines.f k (([(([(⟨t218, t219⟩ : S40), (⟨t221, t222⟩ : S40)] : List (S40)))] : List (List (S40))))).bind fun t230 => ((raster_Dots.f k (([(⟨t218, t219⟩ : S40), (⟨t221, t222⟩ : S40)] : List (S40)))).bind fun t236 => (if (t230.length : Int) = 4096 then (terrkeep5_RasterEnds.j0 k t230 t236 ((t236.length : Int) != 4096) t218 t219 t221 t222) else (terrkeep5_RasterEnds.j0 k t230 t236 true t218 t219 t221 t222))))) = some r := H
  have A7 := Aside0.mk A70
  clear A70
  replace H := Option.bind_eq_some_iff.mp H
  obtain ⟨t222, A80, H⟩ := H
  replace H : ((raster_Lines.f k (([(([(⟨t218, t219⟩ : S40), (⟨t221, t222⟩ : S40)] : List (S40)))] : List (List (S40))))).bind fun t230 => ((raster_Dots.f k (([(⟨t218, t219⟩ : S40), (⟨t221, t222⟩ : S40)] : List (S40)))).bind fun t236 => (if (t230.length : Int) = 4096 then (terrkeep5_RasterEnds.j0 k t230 t236 ((t236.length : Int) != 4096) t218 t219 t221 t222) else (terrkeep5_RasterEnds.j0 k t230 t236 true t218 t219 t221 t222)))) = some r := H
  have A8 := Aside0.mk A80
  clear A80
  obtain ⟨y224, hy224⟩ : ∃ y_ : List (S40), y_ = (([(⟨t218, t219⟩ : S40), (⟨t221, t222⟩ : S40)] : List (S40))) := ⟨_, rfl⟩
  replace H : ((raster_Lines.f k (([y224] : List (List (S40))))).bind fun t230 => ((raster_Dots.f k (([(⟨t218, t219⟩ : S40), (⟨t221, t222⟩ : S40)] : List (S40)))).bind fun t236 => (if (t230.length : Int) = 4096 then (terrkeep5_RasterEnds.j0 k t230 t236 ((t236.length : Int) != 4096) t218 t219 t221 t222) else (terrkeep5_RasterEnds.j0 k t230 t236 true t218 t219 t221 t222)))) = some r := by first | (rw [hy224]; with_reducible exact H) | (have H2_ := (Option.bind_some _ _).symm.trans H; rw [hy224]; with_reducible exact H2_) | (have H2_ := (Option.bind_some _ _).symm.trans H; with_reducible exact H2_) | with_reducible exact H | (rw [hy224]; exact H) | exact H
  have Ny224 := Aside0.mk hy224
  clear hy224
  obtain ⟨y227, hy227⟩ : ∃ y_ : List (List (S40)), y_ = (([y224] : List (List (S40)))) := ⟨_, rfl⟩
  replace H : ((raster_Lines.f k y227).bind fun t230 => ((raster_Dots.f k (([(⟨t218, t219⟩ : S40), (⟨t221, t222⟩ : S40)] : List (S40)))).bind fun t236 => (if (t230.length : Int) = 4096 then (terrkeep5_RasterEnds.j0 k t230 t236 ((t236.length : Int) != 4096) t218 t219 t221 t222) else (terrkeep5_RasterEnds.j0 k t230 t236 true t218 t219 t221 t222)))) = some r := by first | (rw [hy227]; with_reducible exact H) | (have H2_ := (Option.bind_some _ _).symm.trans H; rw [hy227]; with_reducible exact H2_) | (have H2_ := (Option.bind_some _ _).symm.trans H; with_reducible exact H2_) | with_reducible exact H | (rw [hy227]; exact H) | exact H
  have Ny227 := Aside0.mk hy227
  clear hy227
  replace H := Option.bind_eq_some_iff.mp H
  obtain ⟨t230, A90, H⟩ := H
  replace H : ((raster_Dots.f k (([(⟨t218, t219⟩ : S40), (⟨t221, t222⟩ : S40)] : List (S40)))).bind fun t236 => (if (t230.length : Int) = 4096 then (terrkeep5_RasterEnds.j0 k t230 t236 ((t236.length : Int) != 4096) t218 t219 t221 t222) else (terrkeep5_RasterEnds.j0 k t230 t236 true t218 t219 t221 t222))) = some r := H
  have A9 := Aside0.mk A90
  clear A90
  obtain ⟨y233, hy233⟩ : ∃ y_ : List (S40), y_ = (([(⟨t218, t219⟩ : S40), (⟨t221, t222⟩ : S40)] : List (S40))) := ⟨_, rfl⟩
  replace H : ((raster_Dots.f k y233).bind fun t236 => (if (t230.length : Int) = 4096 then (terrkeep5_RasterEnds.j0 k t230 t236 ((t236.length : Int) != 4096) t218 t219 t221 t222) else (terrkeep5_RasterEnds.j0 k t230 t236 true t218 t219 t221 t222))) = some r := by first | (rw [hy233]; with_reducible exact H) | (have H2_ := (Option.bind_some _ _).symm.trans H; rw [hy233]; with_reducible exact H2_) | (have H2_ := (Option.bind_some _ _).symm.trans H; with_reducible exact H2_) | with_reducible exact H | (rw [hy233]; exact H) | exact H
  have Ny233 := Aside0.mk hy233
  clear hy233
  replace H := Option.bind_eq_some_iff.mp H
  obtain ⟨t236, A100, H⟩ := H
  replace H : (if (t230.length : Int) = 4096 then (terrkeep5_RasterEnds.j0 k t230 t236 ((t236.length : Int) != 4096) t218 t219 t221 t222) else (terrkeep5_RasterEnds.j0 k t230 t236 true t218 t219 t221 t222)) = some r := H
  have A10 := Aside0.mk A100
  clear A100
  have HC11 := Aside0.mk H
  clear H
  go_enter Try.func8, Try.ntmps8
  try go_wp2_with (first | ((with_reducible refine gate_callee (f := 18) rfl ?_); refine goesL_ (some 18) rfl rfl Try.func18 (by kernel_rfl) rfl #[.int .i64 a0, .int .i64 256] rfl (by (try simp only [List.map_toArray, List.map_cons, List.map_nil]); first | done | rfl | (simp only [List.length_drop, List.length_take]; rfl)) ?_; (with_reducible refine (terrmake_Below.calls a0 256 t218 _ A5.out).mono ?_); rintro e w' ⟨rfl, ⟨nd, rfl⟩⟩; refine ⟨_, rfl, ?_⟩) | ((with_reducible refine gate_callee (f := 18) rfl ?_); refine goesL_ (some 20) rfl rfl Try.func18 (by kernel_rfl) rfl #[.int .i64 a1, .int .i64 256] rfl (by (try simp only [List.map_toArray, List.map_cons, List.map_nil]); first | done | rfl | (simp only [List.length_drop, List.length_take]; rfl)) ?_; (with_reducible refine (terrmake_Below.calls a1 256 t219 _ A6.out).mono ?_); rintro e w' ⟨rfl, ⟨nd, rfl⟩⟩; refine ⟨_, rfl, ?_⟩) | ((with_reducible refine gate_dst (N := 9) rfl ?_); (try (refine gate_guard (by rfl) ?_; dsimp only)); refine box_event ?hg (N := 9) ?hd (cs := #[.int .i64 0, .int .i64 0]) (t := 40) ?hr ?_; (case hd => rfl); (case hg => rfl); (case hr => first | (go_simp; done) | (go_simp; rfl)); intro gb220 hg w12 hbox hb; have n0_ := Aside0.mk (below_step (by repeat (first | (with_reducible first | exact HB.out | apply below_alloc | apply pw_below_drewN | apply below_drew1) | exact HB.out)) hb); have n1_ := Aside0.mk (hbox); have n2_ := Aside0.mk ((by rw [hg]; exact (below_size (by repeat (first | (with_reducible first | exact HB.out | apply below_alloc | apply pw_below_drewN | apply below_drew1) | exact HB.out))) : w.heap.size ≤ gb220)); have n3_ := Aside0.mk ((by rw [hg]; exact (below_size (by repeat (first | (with_reducible first | exact HB.out | apply below_alloc | apply pw_below_drewN | apply below_drew1) | exact HB.out))) : w.heap.size ≤ gb220)); clear HB; have HB := n0_; have BK220 := n1_; have GW220 := n2_; have GE220 := n3_; clear n0_ n1_ n2_ n3_; clear hb hbox hg; have hcz13_0 : w12.cell? ⟨gb220, 0, none⟩ = some (.int .i64 0) := (blk_cell BK220.out 0).trans rfl; have hcz13_1 : w12.cell? ⟨gb220, 1, none⟩ = some (.int .i64 0) := (blk_cell BK220.out 1).trans rfl; have hfz13_0 := blk_frozen BK220.out 0; have hfz13_1 := blk_frozen BK220.out 1) | ((with_reducible refine gate_callee (f := 18) rfl ?_); refine goesL_ (some 23) rfl rfl Try.func18 (by kernel_rfl) rfl #[.int .i64 a2, .int .i64 256] rfl (by (try simp only [List.map_toArray, List.map_cons, List.map_nil]); first | done | rfl | (simp only [List.length_drop, List.length_take]; rfl)) ?_; (with_reducible refine (terrmake_Below.calls a2 256 t221 _ A7.out).mono ?_); rintro e w' ⟨rfl, ⟨nd, rfl⟩⟩; refine ⟨_, rfl, ?_⟩) | ((with_reducible refine gate_callee (f := 18) rfl ?_); refine goesL_ (some 25) rfl rfl Try.func18 (by kernel_rfl) rfl #[.int .i64 a3, .int .i64 256] rfl (by (try simp only [List.map_toArray, List.map_cons, List.map_nil]); first | done | rfl | (simp only [List.length_drop, List.length_take]; rfl)) ?_; (with_reducible refine (terrmake_Below.calls a3 256 t222 _ A8.out).mono ?_); rintro e w' ⟨rfl, ⟨nd, rfl⟩⟩; refine ⟨_, rfl, ?_⟩) | ((with_reducible refine gate_dst (N := 10) rfl ?_); (try (refine gate_guard (by rfl) ?_; dsimp only)); refine box_event ?hg (N := 10) ?hd (cs := #[.int .i64 0, .int .i64 0]) (t := 40) ?hr ?_; (case hd => rfl); (case hg => rfl); (case hr => first | (go_simp; done) | (go_simp; rfl)); intro gb223 hg w14 hbox hb; have n0_ := Aside0.mk (blk_below (g := gb220) (o := .cells #[.int .i64 t218, .int .i64 t219] 40 (0, 0)) (by (with_reducible repeat (first | refine blk_drewN ?_ _ | refine blk_drew ?_ | refine blk_alloc ?_ _)); refine blk_put (cs := #[.int .i64 t218, .int .i64 0]) ?_ 1 _ rfl; (with_reducible repeat (first | refine blk_drewN ?_ _ | refine blk_drew ?_ | refine blk_alloc ?_ _)); refine blk_put (cs := #[.int .i64 0, .int .i64 0]) ?_ 0 _ rfl; (with_reducible repeat (first | refine blk_drewN ?_ _ | refine blk_drew ?_ | refine blk_alloc ?_ _)); exact BK220.out) hb); have n1_ := Aside0.mk (below_step (by repeat (first | (with_reducible first | exact HB.out | apply below_alloc | apply pw_below_drewN | apply below_drew1 | refine below_set ?_ GE220.out) | exact HB.out)) hb); have n2_ := Aside0.mk (hbox); have n3_ := Aside0.mk ((by rw [hg]; exact (below_size (by repeat (first | (with_reducible first | exact HB.out | apply below_alloc | apply pw_below_drewN | apply below_drew1 | refine below_set ?_ GE220.out) | exact HB.out))) : w.heap.size ≤ gb223)); have n4_ := Aside0.mk ((by rw [hg]; exact (below_size (by repeat (first | (with_reducible first | exact HB.out | apply below_alloc | apply pw_below_drewN | apply below_drew1 | refine below_set ?_ GE220.out) | exact HB.out))) : w.heap.size ≤ gb223)); have n5_ := Aside0.mk ((by rw [hg]; exact Nat.ne_of_lt (blk_lt (g := gb220) (o := .cells #[.int .i64 t218, .int .i64 t219] 40 (0, 0)) (by (with_reducible repeat (first | refine blk_drewN ?_ _ | refine blk_drew ?_ | refine blk_alloc ?_ _)); refine blk_put (cs := #[.int .i64 t218, .int .i64 0]) ?_ 1 _ rfl; (with_reducible repeat (first | refine blk_drewN ?_ _ | refine blk_drew ?_ | refine blk_alloc ?_ _)); refine blk_put (cs := #[.int .i64 0, .int .i64 0]) ?_ 0 _ rfl; (with_reducible repeat (first | refine blk_drewN ?_ _ | refine blk_drew ?_ | refine blk_alloc ?_ _)); exact BK220.out)) : gb220 ≠ gb223)); have n6_ := Aside0.mk ((by rw [hg]; exact Nat.ne_of_gt (blk_lt (g := gb220) (o := .cells #[.int .i64 t218, .int .i64 t219] 40 (0, 0)) (by (with_reducible repeat (first | refine blk_drewN ?_ _ | refine blk_drew ?_ | refine blk_alloc ?_ _)); refine blk_put (cs := #[.int .i64 t218, .int .i64 0]) ?_ 1 _ rfl; (with_reducible repeat (first | refine blk_drewN ?_ _ | refine blk_drew ?_ | refine blk_alloc ?_ _)); refine blk_put (cs := #[.int .i64 0, .int .i64 0]) ?_ 0 _ rfl; (with_reducible repeat (first | refine blk_drewN ?_ _ | refine blk_drew ?_ | refine blk_alloc ?_ _)); exact BK220.out)) : gb223 ≠ gb220)); clear BK220; clear HB; have BK220 := n0_; have HB := n1_; have BK223 := n2_; have GW223 := n3_; have GE223 := n4_; have NB220_223 := n5_; have NB223_220 := n6_; clear n0_ n1_ n2_ n3_ n4_ n5_ n6_; clear hb hbox hg; have hnb15 := NB223_220.out; have hnc15 := NB220_223.out; have hcz16_0 : w14.cell? ⟨gb223, 0, none⟩ = some (.int .i64 0) := (blk_cell BK223.out 0).trans rfl; have hcz16_1 : w14.cell? ⟨gb223, 1, none⟩ = some (.int .i64 0) := (blk_cell BK223.out 1).trans rfl; have hfz16_0 := blk_frozen BK223.out 0; have hfz16_1 := blk_frozen BK223.out 1))
  have n0_ : Aside0 (((w14.setCell ⟨gb223, 0, none⟩ (.int .i64 t221)).setCell ⟨gb223, 1, none⟩ (.int .i64 t222)).heap[gb220]? = some (.cells #[.int .i64 t218, .int .i64 t219] 40 (0, 0))) := ⟨by (with_reducible repeat (first | refine blk_drewN ?_ _ | refine blk_drew ?_ | refine blk_alloc ?_ _)); refine blk_far ?_ NB220_223.out _; (with_reducible repeat (first | refine blk_drewN ?_ _ | refine blk_drew ?_ | refine blk_alloc ?_ _)); refine blk_far ?_ NB220_223.out _; (with_reducible repeat (first | refine blk_drewN ?_ _ | refine blk_drew ?_ | refine blk_alloc ?_ _)); exact BK220.out⟩
  have n1_ : Aside0 (((w14.setCell ⟨gb223, 0, none⟩ (.int .i64 t221)).setCell ⟨gb223, 1, none⟩ (.int .i64 t222)).heap[gb223]? = some (.cells #[.int .i64 t221, .int .i64 t222] 40 (0, 0))) := ⟨by (with_reducible repeat (first | refine blk_drewN ?_ _ | refine blk_drew ?_ | refine blk_alloc ?_ _)); refine blk_put (cs := #[.int .i64 t221, .int .i64 0]) ?_ 1 _ rfl; (with_reducible repeat (first | refine blk_drewN ?_ _ | refine blk_drew ?_ | refine blk_alloc ?_ _)); refine blk_put (cs := #[.int .i64 0, .int .i64 0]) ?_ 0 _ rfl; (with_reducible repeat (first | refine blk_drewN ?_ _ | refine blk_drew ?_ | refine blk_alloc ?_ _)); exact BK223.out⟩
  have n2_ : Aside0 (Below w.heap.size w ((w14.setCell ⟨gb223, 0, none⟩ (.int .i64 t221)).setCell ⟨gb223, 1, none⟩ (.int .i64 t222))) := ⟨by repeat (first | (with_reducible first | exact HB.out | apply below_alloc | apply pw_below_drewN | apply below_drew1 | refine below_set ?_ GE220.out | refine below_set ?_ GE223.out) | exact HB.out)⟩
  (try clear BK220)
  (try clear BK223)
  (try clear HB)
  generalize ((w14.setCell ⟨gb223, 0, none⟩ (.int .i64 t221)).setCell ⟨gb223, 1, none⟩ (.int .i64 t222)) = w17 at n0_ n1_ n2_ ⊢
  have BK220 := n0_
  have BK223 := n1_
  have HB := n2_
  clear n0_ n1_ n2_
  have n0_ := Aside0.mk (blk_drew BK220.out)
  have n1_ := Aside0.mk (blk_drew BK223.out)
  have n2_ := Aside0.mk (below_drew1 HB.out)
  clear BK220
  clear BK223
  clear HB
  have BK220 := n0_
  have BK223 := n1_
  have HB := n2_
  clear n0_ n1_ n2_
  refine start_ (n := 11) (S := fun w' => True) (ds := []) #[false, false, false, false, false, false, false, false, false, false, false] (by kernel_rfl) rfl rfl trivial (fun hHeld => ?_); refine with_tabW terrkeep5_RasterEnds.tab3 terrkeep5_RasterEnds.bits3 (fun HT_ HW_ => ?_)
  generalize w17.drew = w18 at BK220 BK223 HB hHeld ⊢
  refine inv_at [0, 1, 2, 3, 4, 5, 6, 7, 8, 9, 10] (fun a0_ b a w' => ∃ (v225 : Value) (v228 : Value) (v231 : Value) (v234 : Value) (v237 : Value) (m9_ : Value) (m10_ : Value), a = putSel a0_ b [(0, 27, .agg #[.int .i64 t218, .int .i64 t219]), (1, 28, .agg #[.int .i64 t221, .int .i64 t222]), (2, 29, v225), (3, 30, v228), (4, 31, v231), (5, 32, .agg #[.int .i64 t218, .int .i64 t219]), (6, 33, .agg #[.int .i64 t221, .int .i64 t222]), (7, 34, v234), (8, 35, v237), (9, 11, m9_), (10, 12, m10_)] ∧ (w'.heap[gb220]? = some (.cells #[.int .i64 t218, .int .i64 t219] 40 (0, 0))) ∧ (w'.heap[gb223]? = some (.cells #[.int .i64 t221, .int .i64 t222] 40 (0, 0))) ∧ (Below w.heap.size w w') ∧ (b 2 = true → b 3 = false → Kd.R k40 40 w' w.heap.size (fun k_ => k_ ≠ gb220 ∧ k_ ≠ gb223) v225 y224) ∧ (b 3 = true → Kd.N (Kd.slice 40 k40) 54 w' w.heap.size (fun k_ => k_ ≠ gb220 ∧ k_ ≠ gb223) v228 y227) ∧ (b 4 = true → Kd.R (Kd.int .i64) 3 w' w.heap.size (fun _ => True) v231 t230) ∧ (b 7 = true → Kd.R k40 40 w' w.heap.size (fun k_ => k_ ≠ gb220 ∧ k_ ≠ gb223) v234 y233) ∧ (b 8 = true → Kd.R (Kd.int .i64) 3 w' w.heap.size (fun _ => True) v237 t236) ∧ (b 9 = true → (m9_ : Value) = v231) ∧ (b 10 = true → (m10_ : Value) = v237)) HT_.out HW_.out (by kernel_rfl) (by kernel_rfl) ?_ ?_ ?_
  · exact ⟨.bool false, .bool false, .bool false, .bool false, .bool false, .bool false, .bool false, by simp only [putSel, Bool.false_eq_true, if_false], BK220.out, BK223.out, HB.out, fun h_ => absurd h_ (by decide), fun h_ => absurd h_ (by decide), fun h_ => absurd h_ (by decide), fun h_ => absurd h_ (by decide), fun h_ => absurd h_ (by decide), fun h_ => absurd h_ (by decide), fun h_ => absurd h_ (by decide)⟩
  · skip
    clear BK220 BK223 HB
    refine steps_cons ?_ ?_
    · rintro b a w' ⟨v225, v228, v231, v234, v237, m9_, m10_, ha, Q_BK220, Q_BK223, Q_HB, Q_HO226, Q_HO229, Q_HO232, Q_HO235, Q_HO238, Q_X9_, Q_X10_⟩ hb_ hon hoff
      refine ⟨_, rfl, fun K hK => ?_⟩
      have e9 : a.tmps[9]? = some (.pointer (some ⟨gb220, 0, none⟩)) := by rw [ha]; exact (putSel_off rfl).trans rfl
      replace ha := Aside0.mk ha
      have BK220 := Aside0.mk Q_BK220
      have BK223 := Aside0.mk Q_BK223
      have HB := Aside0.mk Q_HB
      have hc0_ : w'.cell? ⟨gb220, 0, none⟩ = some (.int .i64 t218) := (blk_cell BK220.out 0).trans rfl
      have hc1_ : w'.cell? ⟨gb220, 1, none⟩ = some (.int .i64 t219) := (blk_cell BK220.out 1).trans rfl
      refine value_ (w1 := w') (v := .agg #[.int .i64 t218, .int .i64 t219]) (by rfl) rfl ?_ ?_
      · go_simp
        (try simp only [i64_w])
        try rfl
      refine hK.out _ _ ⟨v225, v228, v231, v234, v237, m9_, m10_, (by rw [ha.out]; exact putSel_upk 0 hb_ rfl rfl rfl), Q_BK220, Q_BK223, Q_HB, fun h0_ _ => absurd ((hoff 2 (by kernel_rfl)).symm.trans h0_) (by decide), fun h0_ => absurd ((hoff 3 (by kernel_rfl)).symm.trans h0_) (by decide), fun h0_ => absurd ((hoff 4 (by kernel_rfl)).symm.trans h0_) (by decide), Q_HO235, fun h0_ => absurd ((hoff 8 (by kernel_rfl)).symm.trans h0_) (by decide), fun h0_ => absurd ((hoff 9 (by kernel_rfl)).symm.trans h0_) (by decide), fun h0_ => absurd ((hoff 10 (by kernel_rfl)).symm.trans h0_) (by decide)⟩
    refine steps_cons ?_ ?_
    · rintro b a w' ⟨v225, v228, v231, v234, v237, m9_, m10_, ha, Q_BK220, Q_BK223, Q_HB, Q_HO226, Q_HO229, Q_HO232, Q_HO235, Q_HO238, Q_X9_, Q_X10_⟩ hb_ hon hoff
      refine ⟨_, rfl, fun K hK => ?_⟩
      have e10 : a.tmps[10]? = some (.pointer (some ⟨gb223, 0, none⟩)) := by rw [ha]; exact (putSel_off rfl).trans rfl
      replace ha := Aside0.mk ha
      have BK220 := Aside0.mk Q_BK220
      have BK223 := Aside0.mk Q_BK223
      have HB := Aside0.mk Q_HB
      have hc0_ : w'.cell? ⟨gb223, 0, none⟩ = some (.int .i64 t221) := (blk_cell BK223.out 0).trans rfl
      have hc1_ : w'.cell? ⟨gb223, 1, none⟩ = some (.int .i64 t222) := (blk_cell BK223.out 1).trans rfl
      refine value_ (w1 := w') (v := .agg #[.int .i64 t221, .int .i64 t222]) (by rfl) rfl ?_ ?_
      · go_simp
        (try simp only [i64_w])
        try rfl
      refine hK.out _ _ ⟨v225, v228, v231, v234, v237, m9_, m10_, (by rw [ha.out]; exact putSel_upk 1 hb_ rfl rfl rfl), Q_BK220, Q_BK223, Q_HB, fun h0_ _ => absurd ((hoff 2 (by kernel_rfl)).symm.trans h0_) (by decide), fun h0_ => absurd ((hoff 3 (by kernel_rfl)).symm.trans h0_) (by decide), fun h0_ => absurd ((hoff 4 (by kernel_rfl)).symm.trans h0_) (by decide), Q_HO235, fun h0_ => absurd ((hoff 8 (by kernel_rfl)).symm.trans h0_) (by decide), fun h0_ => absurd ((hoff 9 (by kernel_rfl)).symm.trans h0_) (by decide), fun h0_ => absurd ((hoff 10 (by kernel_rfl)).symm.trans h0_) (by decide)⟩
    refine steps_cons ?_ ?_
    · rintro b a w' ⟨v225, v228, v231, v234, v237, m9_, m10_, ha, Q_BK220, Q_BK223, Q_HB, Q_HO226, Q_HO229, Q_HO232, Q_HO235, Q_HO238, Q_X9_, Q_X10_⟩ hb_ hon hoff
      refine ⟨_, rfl, fun K hK => ?_⟩
      have e27 : a.tmps[27]? = some (.agg #[.int .i64 t218, .int .i64 t219]) := by rw [ha]; exact putSel_on (e := (0, 27, .agg #[.int .i64 t218, .int .i64 t219])) 0 rfl rfl (hon 0 (by kernel_rfl)) rfl
      have e28 : a.tmps[28]? = some (.agg #[.int .i64 t221, .int .i64 t222]) := by rw [ha]; exact putSel_on (e := (1, 28, .agg #[.int .i64 t221, .int .i64 t222])) 1 rfl rfl (hon 1 (by kernel_rfl)) rfl
      replace ha := Aside0.mk ha
      have BK220 := Aside0.mk Q_BK220
      have BK223 := Aside0.mk Q_BK223
      have HB := Aside0.mk Q_HB
      refine Kd.R_lit_step k40 _ 40 ?hg (N := 29) ?hd (xs := ([(⟨t218, t219⟩ : S40), (⟨t221, t222⟩ : S40)] : List (S40))) (inner := [.int .i64 t218, .int .i64 t219, .int .i64 t221, .int .i64 t222]) (ok := fun _ => True) (okp := fun _ => True) ?hr ?hp (fun _ hk => hk) trivial (Below.refl _ _) (Nat.le_refl _) (by simp) ?_; (case hd => rfl); (case hg => rfl); (case hr => first | (go_simp; done) | (go_simp; rfl)); (case hp => exact (Reps.c2 (show Kd.M k40 _ _ _ (⟨t218, t219⟩ : S40) [.int .i64 t218, .int .i64 t219] from (k40_mkM _ _ _ (⟨t218, t219⟩ : S40) )) (Reps.c2 (show Kd.M k40 _ _ _ (⟨t221, t222⟩ : S40) [.int .i64 t221, .int .i64 t222] from (k40_mkM _ _ _ (⟨t221, t222⟩ : S40) )) (Reps.none _ _))))
      intro v225 w19 ho20 hb hg_ hnew_
      clear hg_ hnew_
      (first | rw [← Ny224.out] at ho20 | (simp only [Int.reduceToNat] at ho20; rw [← Ny224.out] at ho20))
      have n0_ := Aside0.mk (Kd.R_lower (Kd.R_newB (Kd.R_newB ho20 (g := gb220) (o := .cells #[.int .i64 t218, .int .i64 t219] 40 (0, 0)) (by (with_reducible repeat (first | refine blk_drewN ?_ _ | refine blk_drew ?_ | refine blk_alloc ?_ _)); exact BK220.out)) (g := gb223) (o := .cells #[.int .i64 t221, .int .i64 t222] 40 (0, 0)) (by (with_reducible repeat (first | refine blk_drewN ?_ _ | refine blk_drew ?_ | refine blk_alloc ?_ _)); exact BK223.out)) (below_size (by repeat (first | (with_reducible first | exact HB.out | apply below_alloc | apply pw_below_drewN | apply below_drew1 | refine below_set ?_ GE220.out | refine below_set ?_ GE223.out) | exact HB.out))))
      have n1_ := Aside0.mk (blk_below (g := gb220) (o := .cells #[.int .i64 t218, .int .i64 t219] 40 (0, 0)) (by (with_reducible repeat (first | refine blk_drewN ?_ _ | refine blk_drew ?_ | refine blk_alloc ?_ _)); exact BK220.out) hb)
      have n2_ := Aside0.mk (blk_below (g := gb223) (o := .cells #[.int .i64 t221, .int .i64 t222] 40 (0, 0)) (by (with_reducible repeat (first | refine blk_drewN ?_ _ | refine blk_drew ?_ | refine blk_alloc ?_ _)); exact BK223.out) hb)
      have n3_ := Aside0.mk (below_step (by repeat (first | (with_reducible first | exact HB.out | apply below_alloc | apply pw_below_drewN | apply below_drew1 | refine below_set ?_ GE220.out | refine below_set ?_ GE223.out) | exact HB.out)) hb)
      have z_HO235 := fun (h0_ : b 7 = true) => (show Kd.R k40 40 w19 w.heap.size (fun k_ => k_ ≠ gb220 ∧ k_ ≠ gb223) v234 y233 from by first | exact (Kd.R_elder' (by (with_reducible repeat (first | apply Kd.R_alloc | apply Kd.R_drewN | apply Kd.R_drew)); exact (Q_HO235 h0_)) (Kd.R_base ho20) hb) | exact Kd.R_mono (Kd.R_elder' (by (with_reducible repeat (first | apply Kd.R_alloc | apply Kd.R_drewN | apply Kd.R_drew)); exact (Q_HO235 h0_)) (Kd.R_base ho20) hb) (fun _ h_ => by first | trivial | exact h_ | exact h_.1))
      clear BK220
      clear BK223
      clear HB
      have HO226 := n0_
      have BK220 := n1_
      have BK223 := n2_
      have HB := n3_
      clear n0_ n1_ n2_ n3_
      clear hb ho20
      refine hK.out _ _ ⟨v225, v228, v231, v234, v237, m9_, m10_, (by rw [ha.out]; exact putSel_upk 2 hb_ rfl rfl rfl), (by (with_reducible repeat (first | refine blk_drewN ?_ _ | refine blk_drew ?_ | refine blk_alloc ?_ _)); exact BK220.out), (by (with_reducible repeat (first | refine blk_drewN ?_ _ | refine blk_drew ?_ | refine blk_alloc ?_ _)); exact BK223.out), (by repeat (first | (with_reducible first | exact HB.out | apply below_alloc | apply pw_below_drewN | apply below_drew1 | refine below_set ?_ GE220.out | refine below_set ?_ GE223.out) | exact HB.out)), fun _ _ => (by (with_reducible repeat (first | apply Kd.R_alloc | apply Kd.R_drewN | apply Kd.R_drew)); exact Kd.R_mono HO226.out (fun _ hk => by first | exact ⟨hk.1.2, hk.2⟩ | exact trivial | exact hk.1 | exact hk | simp_all)), fun h0_ => absurd ((hoff 3 (by kernel_rfl)).symm.trans h0_) (by decide), fun h0_ => absurd ((hoff 4 (by kernel_rfl)).symm.trans h0_) (by decide), z_HO235, fun h0_ => absurd ((hoff 8 (by kernel_rfl)).symm.trans h0_) (by decide), fun h0_ => absurd ((hoff 9 (by kernel_rfl)).symm.trans h0_) (by decide), fun h0_ => absurd ((hoff 10 (by kernel_rfl)).symm.trans h0_) (by decide)⟩
    refine steps_cons ?_ ?_
    · rintro b a w' ⟨v225, v228, v231, v234, v237, m9_, m10_, ha, Q_BK220, Q_BK223, Q_HB, Q_HO226, Q_HO229, Q_HO232, Q_HO235, Q_HO238, Q_X9_, Q_X10_⟩ hb_ hon hoff
      refine ⟨_, rfl, fun K hK => ?_⟩
      have e29 : a.tmps[29]? = some (v225) := by rw [ha]; exact putSel_on (e := (2, 29, v225)) 2 rfl rfl (hon 2 (by kernel_rfl)) rfl
      replace ha := Aside0.mk ha
      have BK220 := Aside0.mk Q_BK220
      have BK223 := Aside0.mk Q_BK223
      have HB := Aside0.mk Q_HB
      have HO226 := Aside0.mk (Q_HO226 (hon 2 (by kernel_rfl)) hb_)
      obtain ⟨Ao22, co22, eo22⟩ := Kd.R_slice HO226.out
      (first | subst eo22 | (injection eo22 with f1_ f2_ f3_; have f4_ := f1_.symm; have f5_ := f3_.symm; clear f1_ f2_ f3_; subst f4_; subst f5_))
      refine Kd.N_lit_step (Kd.slice 40 k40) _ 54 ?hg (N' := 30) ?hd (xs := ([y224] : List (List (S40)))) (inner := [.slice Ao22 y224.length co22]) (ok := (fun k_ => k_ ≠ gb220 ∧ k_ ≠ gb223)) (okp := (fun k_ => k_ ≠ gb220 ∧ k_ ≠ gb223)) ?hr ?hp (fun _ hk => hk) ((show ∀ k_, w'.heap.size ≤ k_ → (fun k_ => k_ ≠ gb220 ∧ k_ ≠ gb223) k_ from fun k_ hk => ⟨Kd.freshB (g := gb220) (o := .cells #[.int .i64 t218, .int .i64 t219] 40 (0, 0)) (by (with_reducible repeat (first | refine blk_drewN ?_ _ | refine blk_drew ?_ | refine blk_alloc ?_ _)); exact BK220.out) k_ hk, Kd.freshB (g := gb223) (o := .cells #[.int .i64 t221, .int .i64 t222] 40 (0, 0)) (by (with_reducible repeat (first | refine blk_drewN ?_ _ | refine blk_drew ?_ | refine blk_alloc ?_ _)); exact BK223.out) k_ hk⟩) _ (Nat.le_refl _)) (Below.refl _ _) (Nat.le_refl _) (by simp) ?_; (case hd => rfl); (case hg => rfl); (case hr => first | (go_simp; done) | (go_simp; rfl)); (case hp => exact (Reps.one (show Kd.FK (Kd.slice 40 k40) _ _ y224 [.slice Ao22 y224.length co22] from (Kd.FK_slice_mk (Kd.R_reads' (Kd.R_mono (ok' := (fun k_ => k_ ≠ gb220 ∧ k_ ≠ gb223)) (HO226.out) (fun k_ hk => ⟨hk.1, hk.2⟩))).2.1 (Kd.R_F (Kd.R_mono (ok' := (fun k_ => k_ ≠ gb220 ∧ k_ ≠ gb223)) (HO226.out) (fun k_ hk => ⟨hk.1, hk.2⟩))))) (Reps.none _ _)))
      intro v228 w23 ho24 hb hg_ hnew_
      clear hg_ hnew_
      (first | rw [← Ny227.out] at ho24 | (simp only [Int.reduceToNat] at ho24; rw [← Ny227.out] at ho24))
      have n0_ := Aside0.mk (Kd.N_lower ho24 (below_size (by repeat (first | (with_reducible first | exact HB.out | apply below_alloc | apply pw_below_drewN | apply below_drew1 | refine below_set ?_ GE220.out | refine below_set ?_ GE223.out) | exact HB.out))))
      have n1_ := Aside0.mk (blk_below (g := gb220) (o := .cells #[.int .i64 t218, .int .i64 t219] 40 (0, 0)) (by (with_reducible repeat (first | refine blk_drewN ?_ _ | refine blk_drew ?_ | refine blk_alloc ?_ _)); exact BK220.out) hb)
      have n2_ := Aside0.mk (blk_below (g := gb223) (o := .cells #[.int .i64 t221, .int .i64 t222] 40 (0, 0)) (by (with_reducible repeat (first | refine blk_drewN ?_ _ | refine blk_drew ?_ | refine blk_alloc ?_ _)); exact BK223.out) hb)
      have n3_ := Aside0.mk (below_step (by repeat (first | (with_reducible first | exact HB.out | apply below_alloc | apply pw_below_drewN | apply below_drew1 | refine below_set ?_ GE220.out | refine below_set ?_ GE223.out) | exact HB.out)) hb)
      have z_HO235 := fun (h0_ : b 7 = true) => (show Kd.R k40 40 w23 w.heap.size (fun k_ => k_ ≠ gb220 ∧ k_ ≠ gb223) v234 y233 from by first | exact (Kd.R_below (by (with_reducible repeat (first | apply Kd.R_alloc | apply Kd.R_drewN | apply Kd.R_drew)); exact (Q_HO235 h0_)) hb) | exact Kd.R_mono (Kd.R_below (by (with_reducible repeat (first | apply Kd.R_alloc | apply Kd.R_drewN | apply Kd.R_drew)); exact (Q_HO235 h0_)) hb) (fun _ h_ => by first | trivial | exact h_ | exact h_.1))
      clear BK220
      clear BK223
      clear HB
      clear HO226
      have HO229 := n0_
      have BK220 := n1_
      have BK223 := n2_
      have HB := n3_
      clear n0_ n1_ n2_ n3_
      clear hb ho24
      refine hK.out _ _ ⟨.slice Ao22 y224.length co22, v228, v231, v234, v237, m9_, m10_, (by rw [ha.out]; exact putSel_upk 3 hb_ rfl rfl rfl), (by (with_reducible repeat (first | refine blk_drewN ?_ _ | refine blk_drew ?_ | refine blk_alloc ?_ _)); exact BK220.out), (by (with_reducible repeat (first | refine blk_drewN ?_ _ | refine blk_drew ?_ | refine blk_alloc ?_ _)); exact BK223.out), (by repeat (first | (with_reducible first | exact HB.out | apply below_alloc | apply pw_below_drewN | apply below_drew1 | refine below_set ?_ GE220.out | refine below_set ?_ GE223.out) | exact HB.out)), fun _ h1_ => absurd ((up_self b 3).symm.trans h1_) (by decide), fun _ => (by (with_reducible repeat (first | apply Kd.N_alloc | apply Kd.N_drewN | apply Kd.N_drew)); exact HO229.out), fun h0_ => absurd ((hoff 4 (by kernel_rfl)).symm.trans h0_) (by decide), z_HO235, fun h0_ => absurd ((hoff 8 (by kernel_rfl)).symm.trans h0_) (by decide), fun h0_ => absurd ((hoff 9 (by kernel_rfl)).symm.trans h0_) (by decide), fun h0_ => absurd ((hoff 10 (by kernel_rfl)).symm.trans h0_) (by decide)⟩
    refine steps_cons ?_ ?_
    · rintro b a w' ⟨v225, v228, v231, v234, v237, m9_, m10_, ha, Q_BK220, Q_BK223, Q_HB, Q_HO226, Q_HO229, Q_HO232, Q_HO235, Q_HO238, Q_X9_, Q_X10_⟩ hb_ hon hoff
      refine ⟨_, rfl, fun K hK => ?_⟩
      have e30 : a.tmps[30]? = some (v228) := by rw [ha]; exact putSel_on (e := (3, 30, v228)) 3 rfl rfl (hon 3 (by kernel_rfl)) rfl
      replace ha := Aside0.mk ha
      have BK220 := Aside0.mk Q_BK220
      have BK223 := Aside0.mk Q_BK223
      have HB := Aside0.mk Q_HB
      have HO229 := Aside0.mk (Q_HO229 (hon 3 (by kernel_rfl)))
      obtain ⟨Ao25, co25, eo25⟩ := Kd.N_slice HO229.out
      (first | subst eo25 | (injection eo25 with f1_ f2_ f3_; have f4_ := f1_.symm; have f5_ := f3_.symm; clear f1_ f2_ f3_; subst f4_; subst f5_))
      refine goes_ Try.func35 (by kernel_rfl) rfl #[.slice Ao25 y227.length co25] (by rfl) rfl rfl (by first | (simp only [List.map_toArray, List.map_cons, List.map_nil, Act.eval, Array.getD_eq_getD_getElem?, Option.getD_some, e30]; done) | (simp only [List.map_toArray, List.map_cons, List.map_nil, Act.eval, Array.getD_eq_getD_getElem?, Option.getD_some, e30]; rfl)) ?_
      with_reducible refine (raster_Lines.calls k _ _ y227 t230 _ ?side1 ?side2 A9.out).mono ?_
      (case side1 => repeat (first | exact (Kd.N_reads' HO229.out).2.2 | (with_reducible refine Kd.C_alloc ?_ _) | (with_reducible refine Kd.C_drewN ?_ _) | (with_reducible refine Kd.C_drew ?_)))
      (case side2 => exact (Kd.N_reads' HO229.out).2.1)
      rintro e w26 ⟨v231, rfl, ho0, hb⟩
      refine ⟨_, rfl, ?_⟩
      have n0_ := Aside0.mk (Kd.N_elder' (by (with_reducible repeat (first | apply Kd.N_alloc | apply Kd.N_drewN | apply Kd.N_drew)); exact HO229.out) (Kd.R_base ho0) hb)
      have n1_ := Aside0.mk (Kd.R_lower ho0 (below_size (by repeat (first | (with_reducible first | exact HB.out | apply below_alloc | apply pw_below_drewN | apply below_drew1 | refine below_set ?_ GE220.out | refine below_set ?_ GE223.out) | exact HB.out))))
      have n2_ := Aside0.mk (blk_below (g := gb220) (o := .cells #[.int .i64 t218, .int .i64 t219] 40 (0, 0)) (by (with_reducible repeat (first | refine blk_drewN ?_ _ | refine blk_drew ?_ | refine blk_alloc ?_ _)); exact BK220.out) hb)
      have n3_ := Aside0.mk (blk_below (g := gb223) (o := .cells #[.int .i64 t221, .int .i64 t222] 40 (0, 0)) (by (with_reducible repeat (first | refine blk_drewN ?_ _ | refine blk_drew ?_ | refine blk_alloc ?_ _)); exact BK223.out) hb)
      have n4_ := Aside0.mk (below_step (by repeat (first | (with_reducible first | exact HB.out | apply below_alloc | apply pw_below_drewN | apply below_drew1 | refine below_set ?_ GE220.out | refine below_set ?_ GE223.out) | exact HB.out)) hb)
      have z_HO235 := fun (h0_ : b 7 = true) => (show Kd.R k40 40 w26 w.heap.size (fun k_ => k_ ≠ gb220 ∧ k_ ≠ gb223) v234 y233 from by first | exact (Kd.R_below (by (with_reducible repeat (first | apply Kd.R_alloc | apply Kd.R_drewN | apply Kd.R_drew)); exact (Q_HO235 h0_)) hb) | exact Kd.R_mono (Kd.R_below (by (with_reducible repeat (first | apply Kd.R_alloc | apply Kd.R_drewN | apply Kd.R_drew)); exact (Q_HO235 h0_)) hb) (fun _ h_ => by first | trivial | exact h_ | exact h_.1))
      clear HO229
      clear BK220
      clear BK223
      clear HB
      have HO229 := n0_
      have HO232 := n1_
      have BK220 := n2_
      have BK223 := n3_
      have HB := n4_
      clear n0_ n1_ n2_ n3_ n4_
      (try clear hb)
      (try clear hb2)
      (try clear hk)
      (try clear hi)
      (try clear ho0)
      refine hK.out _ _ ⟨v225, .slice Ao25 y227.length co25, v231, v234, v237, m9_, m10_, (by rw [ha.out]; exact putSel_upk 4 hb_ rfl rfl rfl), (by (with_reducible repeat (first | refine blk_drewN ?_ _ | refine blk_drew ?_ | refine blk_alloc ?_ _)); exact BK220.out), (by (with_reducible repeat (first | refine blk_drewN ?_ _ | refine blk_drew ?_ | refine blk_alloc ?_ _)); exact BK223.out), (by repeat (first | (with_reducible first | exact HB.out | apply below_alloc | apply pw_below_drewN | apply below_drew1 | refine below_set ?_ GE220.out | refine below_set ?_ GE223.out) | exact HB.out)), fun _ h1_ => absurd ((hon 3 (by kernel_rfl)).symm.trans h1_) (by decide), fun _ => (by (with_reducible repeat (first | apply Kd.N_alloc | apply Kd.N_drewN | apply Kd.N_drew)); exact Kd.N_mono HO229.out (fun _ hk => by first | exact ⟨hk.2, ⟨hk.1.1, hk.1.2⟩⟩ | exact trivial | exact hk.1 | exact hk | simp_all)), fun _ => (by (with_reducible repeat (first | apply Kd.R_alloc | apply Kd.R_drewN | apply Kd.R_drew)); exact HO232.out), z_HO235, fun h0_ => absurd ((hoff 8 (by kernel_rfl)).symm.trans h0_) (by decide), fun h0_ => absurd ((hoff 9 (by kernel_rfl)).symm.trans h0_) (by decide), fun h0_ => absurd ((hoff 10 (by kernel_rfl)).symm.trans h0_) (by decide)⟩
    refine steps_cons ?_ ?_
    · rintro b a w' ⟨v225, v228, v231, v234, v237, m9_, m10_, ha, Q_BK220, Q_BK223, Q_HB, Q_HO226, Q_HO229, Q_HO232, Q_HO235, Q_HO238, Q_X9_, Q_X10_⟩ hb_ hon hoff
      refine ⟨_, rfl, fun K hK => ?_⟩
      have e9 : a.tmps[9]? = some (.pointer (some ⟨gb220, 0, none⟩)) := by rw [ha]; exact (putSel_off rfl).trans rfl
      replace ha := Aside0.mk ha
      have BK220 := Aside0.mk Q_BK220
      have BK223 := Aside0.mk Q_BK223
      have HB := Aside0.mk Q_HB
      have hc0_ : w'.cell? ⟨gb220, 0, none⟩ = some (.int .i64 t218) := (blk_cell BK220.out 0).trans rfl
      have hc1_ : w'.cell? ⟨gb220, 1, none⟩ = some (.int .i64 t219) := (blk_cell BK220.out 1).trans rfl
      refine value_ (w1 := w') (v := .agg #[.int .i64 t218, .int .i64 t219]) (by rfl) rfl ?_ ?_
      · go_simp
        (try simp only [i64_w])
        try rfl
      refine hK.out _ _ ⟨v225, v228, v231, v234, v237, m9_, m10_, (by rw [ha.out]; exact putSel_upk 5 hb_ rfl rfl rfl), Q_BK220, Q_BK223, Q_HB, Q_HO226, Q_HO229, Q_HO232, fun h0_ => absurd ((hoff 7 (by kernel_rfl)).symm.trans h0_) (by decide), fun h0_ => absurd ((hoff 8 (by kernel_rfl)).symm.trans h0_) (by decide), fun h0_ => absurd ((hoff 9 (by kernel_rfl)).symm.trans h0_) (by decide), fun h0_ => absurd ((hoff 10 (by kernel_rfl)).symm.trans h0_) (by decide)⟩
    refine steps_cons ?_ ?_
    · rintro b a w' ⟨v225, v228, v231, v234, v237, m9_, m10_, ha, Q_BK220, Q_BK223, Q_HB, Q_HO226, Q_HO229, Q_HO232, Q_HO235, Q_HO238, Q_X9_, Q_X10_⟩ hb_ hon hoff
      refine ⟨_, rfl, fun K hK => ?_⟩
      have e10 : a.tmps[10]? = some (.pointer (some ⟨gb223, 0, none⟩)) := by rw [ha]; exact (putSel_off rfl).trans rfl
      replace ha := Aside0.mk ha
      have BK220 := Aside0.mk Q_BK220
      have BK223 := Aside0.mk Q_BK223
      have HB := Aside0.mk Q_HB
      have hc0_ : w'.cell? ⟨gb223, 0, none⟩ = some (.int .i64 t221) := (blk_cell BK223.out 0).trans rfl
      have hc1_ : w'.cell? ⟨gb223, 1, none⟩ = some (.int .i64 t222) := (blk_cell BK223.out 1).trans rfl
      refine value_ (w1 := w') (v := .agg #[.int .i64 t221, .int .i64 t222]) (by rfl) rfl ?_ ?_
      · go_simp
        (try simp only [i64_w])
        try rfl
      refine hK.out _ _ ⟨v225, v228, v231, v234, v237, m9_, m10_, (by rw [ha.out]; exact putSel_upk 6 hb_ rfl rfl rfl), Q_BK220, Q_BK223, Q_HB, Q_HO226, Q_HO229, Q_HO232, fun h0_ => absurd ((hoff 7 (by kernel_rfl)).symm.trans h0_) (by decide), fun h0_ => absurd ((hoff 8 (by kernel_rfl)).symm.trans h0_) (by decide), fun h0_ => absurd ((hoff 9 (by kernel_rfl)).symm.trans h0_) (by decide), fun h0_ => absurd ((hoff 10 (by kernel_rfl)).symm.trans h0_) (by decide)⟩
    refine steps_cons ?_ ?_
    · rintro b a w' ⟨v225, v228, v231, v234, v237, m9_, m10_, ha, Q_BK220, Q_BK223, Q_HB, Q_HO226, Q_HO229, Q_HO232, Q_HO235, Q_HO238, Q_X9_, Q_X10_⟩ hb_ hon hoff
      refine ⟨_, rfl, fun K hK => ?_⟩
      have e32 : a.tmps[32]? = some (.agg #[.int .i64 t218, .int .i64 t219]) := by rw [ha]; exact putSel_on (e := (5, 32, .agg #[.int .i64 t218, .int .i64 t219])) 5 rfl rfl (hon 5 (by kernel_rfl)) rfl
      have e33 : a.tmps[33]? = some (.agg #[.int .i64 t221, .int .i64 t222]) := by rw [ha]; exact putSel_on (e := (6, 33, .agg #[.int .i64 t221, .int .i64 t222])) 6 rfl rfl (hon 6 (by kernel_rfl)) rfl
      replace ha := Aside0.mk ha
      have BK220 := Aside0.mk Q_BK220
      have BK223 := Aside0.mk Q_BK223
      have HB := Aside0.mk Q_HB
      refine Kd.R_lit_step k40 _ 40 ?hg (N := 34) ?hd (xs := ([(⟨t218, t219⟩ : S40), (⟨t221, t222⟩ : S40)] : List (S40))) (inner := [.int .i64 t218, .int .i64 t219, .int .i64 t221, .int .i64 t222]) (ok := fun _ => True) (okp := fun _ => True) ?hr ?hp (fun _ hk => hk) trivial (Below.refl _ _) (Nat.le_refl _) (by simp) ?_; (case hd => rfl); (case hg => rfl); (case hr => first | (go_simp; done) | (go_simp; rfl)); (case hp => exact (Reps.c2 (show Kd.M k40 _ _ _ (⟨t218, t219⟩ : S40) [.int .i64 t218, .int .i64 t219] from (k40_mkM _ _ _ (⟨t218, t219⟩ : S40) )) (Reps.c2 (show Kd.M k40 _ _ _ (⟨t221, t222⟩ : S40) [.int .i64 t221, .int .i64 t222] from (k40_mkM _ _ _ (⟨t221, t222⟩ : S40) )) (Reps.none _ _))))
      intro v234 w19 ho20 hb hg_ hnew_
      clear hg_ hnew_
      (first | rw [← Ny233.out] at ho20 | (simp only [Int.reduceToNat] at ho20; rw [← Ny233.out] at ho20))
      have n0_ := Aside0.mk (Kd.R_lower (Kd.R_newB (Kd.R_newB ho20 (g := gb220) (o := .cells #[.int .i64 t218, .int .i64 t219] 40 (0, 0)) (by (with_reducible repeat (first | refine blk_drewN ?_ _ | refine blk_drew ?_ | refine blk_alloc ?_ _)); exact BK220.out)) (g := gb223) (o := .cells #[.int .i64 t221, .int .i64 t222] 40 (0, 0)) (by (with_reducible repeat (first | refine blk_drewN ?_ _ | refine blk_drew ?_ | refine blk_alloc ?_ _)); exact BK223.out)) (below_size (by repeat (first | (with_reducible first | exact HB.out | apply below_alloc | apply pw_below_drewN | apply below_drew1 | refine below_set ?_ GE220.out | refine below_set ?_ GE223.out) | exact HB.out))))
      have n1_ := Aside0.mk (blk_below (g := gb220) (o := .cells #[.int .i64 t218, .int .i64 t219] 40 (0, 0)) (by (with_reducible repeat (first | refine blk_drewN ?_ _ | refine blk_drew ?_ | refine blk_alloc ?_ _)); exact BK220.out) hb)
      have n2_ := Aside0.mk (blk_below (g := gb223) (o := .cells #[.int .i64 t221, .int .i64 t222] 40 (0, 0)) (by (with_reducible repeat (first | refine blk_drewN ?_ _ | refine blk_drew ?_ | refine blk_alloc ?_ _)); exact BK223.out) hb)
      have n3_ := Aside0.mk (below_step (by repeat (first | (with_reducible first | exact HB.out | apply below_alloc | apply pw_below_drewN | apply below_drew1 | refine below_set ?_ GE220.out | refine below_set ?_ GE223.out) | exact HB.out)) hb)
      have z_HO226 := fun (h0_ : b 2 = true) (h1_ : b 3 = false) => (show Kd.R k40 40 w19 w.heap.size (fun k_ => k_ ≠ gb220 ∧ k_ ≠ gb223) v225 y224 from by first | exact (Kd.R_elder' (by (with_reducible repeat (first | apply Kd.R_alloc | apply Kd.R_drewN | apply Kd.R_drew)); exact (Q_HO226 h0_ h1_)) (Kd.R_base ho20) hb) | exact Kd.R_mono (Kd.R_elder' (by (with_reducible repeat (first | apply Kd.R_alloc | apply Kd.R_drewN | apply Kd.R_drew)); exact (Q_HO226 h0_ h1_)) (Kd.R_base ho20) hb) (fun _ h_ => by first | trivial | exact h_ | exact h_.1))
      have z_HO229 := fun (h0_ : b 3 = true) => (show Kd.N (Kd.slice 40 k40) 54 w19 w.heap.size (fun k_ => k_ ≠ gb220 ∧ k_ ≠ gb223) v228 y227 from by first | exact (Kd.N_elder' (by (with_reducible repeat (first | apply Kd.N_alloc | apply Kd.N_drewN | apply Kd.N_drew)); exact (Q_HO229 h0_)) (Kd.R_base ho20) hb) | exact Kd.N_mono (Kd.N_elder' (by (with_reducible repeat (first | apply Kd.N_alloc | apply Kd.N_drewN | apply Kd.N_drew)); exact (Q_HO229 h0_)) (Kd.R_base ho20) hb) (fun _ h_ => by first | trivial | exact h_ | exact h_.1))
      have z_HO232 := fun (h0_ : b 4 = true) => (show Kd.R (Kd.int .i64) 3 w19 w.heap.size (fun _ => True) v231 t230 from by first | exact (Kd.R_below (by (with_reducible repeat (first | apply Kd.R_alloc | apply Kd.R_drewN | apply Kd.R_drew)); exact (Q_HO232 h0_)) hb) | exact Kd.R_mono (Kd.R_below (by (with_reducible repeat (first | apply Kd.R_alloc | apply Kd.R_drewN | apply Kd.R_drew)); exact (Q_HO232 h0_)) hb) (fun _ h_ => by first | trivial | exact h_ | exact h_.1))
      clear BK220
      clear BK223
      clear HB
      have HO235 := n0_
      have BK220 := n1_
      have BK223 := n2_
      have HB := n3_
      clear n0_ n1_ n2_ n3_
      clear hb ho20
      refine hK.out _ _ ⟨v225, v228, v231, v234, v237, m9_, m10_, (by rw [ha.out]; exact putSel_upk 7 hb_ rfl rfl rfl), (by (with_reducible repeat (first | refine blk_drewN ?_ _ | refine blk_drew ?_ | refine blk_alloc ?_ _)); exact BK220.out), (by (with_reducible repeat (first | refine blk_drewN ?_ _ | refine blk_drew ?_ | refine blk_alloc ?_ _)); exact BK223.out), (by repeat (first | (with_reducible first | exact HB.out | apply below_alloc | apply pw_below_drewN | apply below_drew1 | refine below_set ?_ GE220.out | refine below_set ?_ GE223.out) | exact HB.out)), z_HO226, z_HO229, z_HO232, fun _ => (by (with_reducible repeat (first | apply Kd.R_alloc | apply Kd.R_drewN | apply Kd.R_drew)); exact Kd.R_mono HO235.out (fun _ hk => by first | exact ⟨hk.1.2, hk.2⟩ | exact trivial | exact hk.1 | exact hk | simp_all)), fun h0_ => absurd ((hoff 8 (by kernel_rfl)).symm.trans h0_) (by decide), fun h0_ => absurd ((hoff 9 (by kernel_rfl)).symm.trans h0_) (by decide), fun h0_ => absurd ((hoff 10 (by kernel_rfl)).symm.trans h0_) (by decide)⟩
    refine steps_cons ?_ ?_
    · rintro b a w' ⟨v225, v228, v231, v234, v237, m9_, m10_, ha, Q_BK220, Q_BK223, Q_HB, Q_HO226, Q_HO229, Q_HO232, Q_HO235, Q_HO238, Q_X9_, Q_X10_⟩ hb_ hon hoff
      refine ⟨_, rfl, fun K hK => ?_⟩
      have e34 : a.tmps[34]? = some (v234) := by rw [ha]; exact putSel_on (e := (7, 34, v234)) 7 rfl rfl (hon 7 (by kernel_rfl)) rfl
      replace ha := Aside0.mk ha
      have BK220 := Aside0.mk Q_BK220
      have BK223 := Aside0.mk Q_BK223
      have HB := Aside0.mk Q_HB
      have HO229 := Aside0.mk (Q_HO229 (hon 3 (by kernel_rfl)))
      have HO232 := Aside0.mk (Q_HO232 (hon 4 (by kernel_rfl)))
      have HO235 := Aside0.mk (Q_HO235 (hon 7 (by kernel_rfl)))
      obtain ⟨Ao29, co29, eo29⟩ := Kd.R_slice HO235.out
      (first | subst eo29 | (injection eo29 with f1_ f2_ f3_; have f4_ := f1_.symm; have f5_ := f3_.symm; clear f1_ f2_ f3_; subst f4_; subst f5_))
      refine goes_ Try.func36 (by kernel_rfl) rfl #[.slice Ao29 y233.length co29] (by rfl) rfl rfl (by first | (simp only [List.map_toArray, List.map_cons, List.map_nil, Act.eval, Array.getD_eq_getD_getElem?, Option.getD_some, e34]; done) | (simp only [List.map_toArray, List.map_cons, List.map_nil, Act.eval, Array.getD_eq_getD_getElem?, Option.getD_some, e34]; rfl)) ?_
      with_reducible refine (raster_Dots.calls k _ _ y233 t236 _ ?side1 ?side2 A10.out).mono ?_
      (case side1 => repeat (first | exact (Kd.R_reads' HO235.out).2.2 | (with_reducible refine Kd.C_alloc ?_ _) | (with_reducible refine Kd.C_drewN ?_ _) | (with_reducible refine Kd.C_drew ?_)))
      (case side2 => exact (Kd.R_reads' HO235.out).2.1)
      rintro e w30 ⟨v237, rfl, ho0, hb⟩
      refine ⟨_, rfl, ?_⟩
      have n0_ := Aside0.mk (Kd.N_elder' (by (with_reducible repeat (first | apply Kd.N_alloc | apply Kd.N_drewN | apply Kd.N_drew)); exact HO229.out) (Kd.R_base ho0) hb)
      have n1_ := Aside0.mk (Kd.R_elder' (by (with_reducible repeat (first | apply Kd.R_alloc | apply Kd.R_drewN | apply Kd.R_drew)); exact HO232.out) (Kd.R_base ho0) hb)
      have n2_ := Aside0.mk (Kd.R_below (by (with_reducible repeat (first | apply Kd.R_alloc | apply Kd.R_drewN | apply Kd.R_drew)); exact HO235.out) hb)
      have n3_ := Aside0.mk (Kd.R_lower (Kd.R_new' ho0 (Kd.R_lt (by (with_reducible repeat (first | apply Kd.R_alloc | apply Kd.R_drewN | apply Kd.R_drew)); exact HO232.out))) (below_size (by repeat (first | (with_reducible first | exact HB.out | apply below_alloc | apply pw_below_drewN | apply below_drew1 | refine below_set ?_ GE220.out | refine below_set ?_ GE223.out) | exact HB.out))))
      have n4_ := Aside0.mk (blk_below (g := gb220) (o := .cells #[.int .i64 t218, .int .i64 t219] 40 (0, 0)) (by (with_reducible repeat (first | refine blk_drewN ?_ _ | refine blk_drew ?_ | refine blk_alloc ?_ _)); exact BK220.out) hb)
      have n5_ := Aside0.mk (blk_below (g := gb223) (o := .cells #[.int .i64 t221, .int .i64 t222] 40 (0, 0)) (by (with_reducible repeat (first | refine blk_drewN ?_ _ | refine blk_drew ?_ | refine blk_alloc ?_ _)); exact BK223.out) hb)
      have n6_ := Aside0.mk (below_step (by repeat (first | (with_reducible first | exact HB.out | apply below_alloc | apply pw_below_drewN | apply below_drew1 | refine below_set ?_ GE220.out | refine below_set ?_ GE223.out) | exact HB.out)) hb)
      clear HO229
      clear HO232
      clear HO235
      clear BK220
      clear BK223
      clear HB
      have HO229 := n0_
      have HO232 := n1_
      have HO235 := n2_
      have HO238 := n3_
      have BK220 := n4_
      have BK223 := n5_
      have HB := n6_
      clear n0_ n1_ n2_ n3_ n4_ n5_ n6_
      (try clear hb)
      (try clear hb2)
      (try clear hk)
      (try clear hi)
      (try clear ho0)
      refine hK.out _ _ ⟨v225, v228, v231, .slice Ao29 y233.length co29, v237, m9_, m10_, (by rw [ha.out]; exact putSel_upk 8 hb_ rfl rfl rfl), (by (with_reducible repeat (first | refine blk_drewN ?_ _ | refine blk_drew ?_ | refine blk_alloc ?_ _)); exact BK220.out), (by (with_reducible repeat (first | refine blk_drewN ?_ _ | refine blk_drew ?_ | refine blk_alloc ?_ _)); exact BK223.out), (by repeat (first | (with_reducible first | exact HB.out | apply below_alloc | apply pw_below_drewN | apply below_drew1 | refine below_set ?_ GE220.out | refine below_set ?_ GE223.out) | exact HB.out)), fun _ h1_ => absurd ((hon 3 (by kernel_rfl)).symm.trans h1_) (by decide), fun _ => (by (with_reducible repeat (first | apply Kd.N_alloc | apply Kd.N_drewN | apply Kd.N_drew)); exact Kd.N_mono HO229.out (fun _ hk => by first | exact ⟨hk.1.1, ⟨hk.1.2.1, ⟨hk.2, ⟨hk.1.2.2.1, hk.1.2.2.2⟩⟩⟩⟩ | exact trivial | exact hk.1 | exact hk | simp_all)), fun _ => (by (with_reducible repeat (first | apply Kd.R_alloc | apply Kd.R_drewN | apply Kd.R_drew)); exact Kd.R_mono HO232.out (fun _ hk => by first | exact hk.2 | exact trivial | exact hk.1 | exact hk | simp_all)), fun _ => (by (with_reducible repeat (first | apply Kd.R_alloc | apply Kd.R_drewN | apply Kd.R_drew)); exact HO235.out), fun _ => (by (with_reducible repeat (first | apply Kd.R_alloc | apply Kd.R_drewN | apply Kd.R_drew)); exact Kd.R_mono HO238.out (fun _ hk => by first | exact hk.2 | exact trivial | exact hk.1 | exact hk | simp_all)), fun h0_ => absurd ((hoff 9 (by kernel_rfl)).symm.trans h0_) (by decide), fun h0_ => absurd ((hoff 10 (by kernel_rfl)).symm.trans h0_) (by decide)⟩
    refine steps_cons ?_ ?_
    · rintro b a w' ⟨v225, v228, v231, v234, v237, m9_, m10_, ha, Q_BK220, Q_BK223, Q_HB, Q_HO226, Q_HO229, Q_HO232, Q_HO235, Q_HO238, Q_X9_, Q_X10_⟩ hb_ hon hoff
      refine ⟨_, rfl, fun K hK => ?_⟩
      have e31 : a.tmps[31]? = some (v231) := by rw [ha]; exact putSel_on (e := (4, 31, v231)) 4 rfl rfl (hon 4 (by kernel_rfl)) rfl
      replace ha := Aside0.mk ha
      have BK220 := Aside0.mk Q_BK220
      have BK223 := Aside0.mk Q_BK223
      have HB := Aside0.mk Q_HB
      have HO229 := Aside0.mk (Q_HO229 (hon 3 (by kernel_rfl)))
      have HO232 := Aside0.mk (Q_HO232 (hon 4 (by kernel_rfl)))
      have HO235 := Aside0.mk (Q_HO235 (hon 7 (by kernel_rfl)))
      have HO238 := Aside0.mk (Q_HO238 (hon 8 (by kernel_rfl)))
      refine value_ (w1 := w') (v := v231) (by rfl) rfl ?_ ?_
      · go_simp
        (try simp only [i64_w])
        try rfl
      refine hK.out _ _ ⟨v225, v228, v231, v234, v237, (v231), m10_, (by rw [ha.out]; exact putSel_upk 9 hb_ rfl rfl rfl), Q_BK220, Q_BK223, Q_HB, fun _ h1_ => absurd ((hon 3 (by kernel_rfl)).symm.trans h1_) (by decide), Q_HO229, Q_HO232, Q_HO235, Q_HO238, fun _ => rfl, fun h0_ => absurd ((hoff 10 (by kernel_rfl)).symm.trans h0_) (by decide)⟩
    refine steps_cons ?_ ?_
    · rintro b a w' ⟨v225, v228, v231, v234, v237, m9_, m10_, ha, Q_BK220, Q_BK223, Q_HB, Q_HO226, Q_HO229, Q_HO232, Q_HO235, Q_HO238, Q_X9_, Q_X10_⟩ hb_ hon hoff
      refine ⟨_, rfl, fun K hK => ?_⟩
      have e35 : a.tmps[35]? = some (v237) := by rw [ha]; exact putSel_on (e := (8, 35, v237)) 8 rfl rfl (hon 8 (by kernel_rfl)) rfl
      replace ha := Aside0.mk ha
      have BK220 := Aside0.mk Q_BK220
      have BK223 := Aside0.mk Q_BK223
      have HB := Aside0.mk Q_HB
      have HO229 := Aside0.mk (Q_HO229 (hon 3 (by kernel_rfl)))
      have HO232 := Aside0.mk (Q_HO232 (hon 4 (by kernel_rfl)))
      have HO235 := Aside0.mk (Q_HO235 (hon 7 (by kernel_rfl)))
      have HO238 := Aside0.mk (Q_HO238 (hon 8 (by kernel_rfl)))
      refine value_ (w1 := w') (v := v237) (by rfl) rfl ?_ ?_
      · go_simp
        (try simp only [i64_w])
        try rfl
      refine hK.out _ _ ⟨v225, v228, v231, v234, v237, m9_, (v237), (by rw [ha.out]; exact putSel_upk 10 hb_ rfl rfl rfl), Q_BK220, Q_BK223, Q_HB, fun _ h1_ => absurd ((hon 3 (by kernel_rfl)).symm.trans h1_) (by decide), Q_HO229, Q_HO232, Q_HO235, Q_HO238, Q_X9_, fun _ => rfl⟩
    exact steps_nil
  rintro b a w30 hall ⟨v225, v228, v231, v234, v237, m9_, m10_, ha, Q_BK220, Q_BK223, Q_HB, Q_HO226, Q_HO229, Q_HO232, Q_HO235, Q_HO238, Q_X9_, Q_X10_⟩
  clear BK220 BK223 HB
  have hb0_ := hall 0 (by kernel_rfl)
  have hb1_ := hall 1 (by kernel_rfl)
  have hb2_ := hall 2 (by kernel_rfl)
  have hb3_ := hall 3 (by kernel_rfl)
  have hb4_ := hall 4 (by kernel_rfl)
  have hb5_ := hall 5 (by kernel_rfl)
  have hb6_ := hall 6 (by kernel_rfl)
  have hb7_ := hall 7 (by kernel_rfl)
  have hb8_ := hall 8 (by kernel_rfl)
  have hb9_ := hall 9 (by kernel_rfl)
  have hb10_ := hall 10 (by kernel_rfl)
  subst ha
  obtain rfl := (Q_X9_ hb9_).symm
  obtain rfl := (Q_X10_ hb10_).symm
  simp only [putSel, hb0_, hb1_, hb2_, hb3_, hb4_, hb5_, hb6_, hb7_, hb8_, hb9_, hb10_, if_true, Act.put, List.setIfInBounds_toArray, List.set_cons_zero, List.set_cons_succ]
  have BK220 := Aside0.mk Q_BK220
  clear Q_BK220
  have BK223 := Aside0.mk Q_BK223
  clear Q_BK223
  have HB := Aside0.mk Q_HB
  clear Q_HB
  clear Q_HO226
  have HO229 := Aside0.mk (Q_HO229 hb3_)
  clear Q_HO229
  have HO232 := Aside0.mk (Q_HO232 hb4_)
  clear Q_HO232
  have HO235 := Aside0.mk (Q_HO235 hb7_)
  clear Q_HO235
  have HO238 := Aside0.mk (Q_HO238 hb8_)
  clear Q_HO238
  clear hall hb0_ hb1_ hb2_ hb3_ hb4_ hb5_ hb6_ hb7_ hb8_ hb9_ hb10_
  go_upto_region 4 with (fail)
  go_cut [43] (fun v43 wc => ∃ (kq : Nat) (x43_10 : Bool), v43 = .bool x43_10 ∧ Aside0 (terrkeep5_RasterEnds.j0 kq t230 t236 x43_10 t218 t219 t221 t222 = some r) ∧ Aside0 (kq ≤ k) ∧ Aside0 (Kd.R (Kd.int .i64) 3 wc w.heap.size (fun _ => True) v231 t230) ∧ Aside0 (Kd.R (Kd.int .i64) 3 wc w.heap.size (fun _ => True) v237 t236) ∧ Aside0 (wc.heap[gb220]? = some (.cells #[.int .i64 t218, .int .i64 t219] 40 (0, 0))) ∧ Aside0 (wc.heap[gb223]? = some (.cells #[.int .i64 t221, .int .i64 t222] 40 (0, 0))) ∧ Aside0 (Below w.heap.size w wc))
  case first =>
    have H := HC11.out
    clear HC11
    by_cases c31 : (t230.length : Int) = 4096
    · rw [if_pos c31] at H
      have c31b0 : ((t230.length : Int) == 4096) = true := beq_iff_eq.mpr c31
      have c31b1 : ((t230.length : Int) != 4096) = false := bne_eq_false_iff_eq.mpr c31
      clear c31
      (first | rw [c31b0] | (simp only [i64_w, i32_w]; rw [c31b0]) | skip)
      have H' := Aside0.mk H
      clear H
      obtain ⟨Ao32, co32, eo32⟩ := Kd.R_slice HO232.out
      subst eo32
      obtain ⟨Ao33, co33, eo33⟩ := Kd.R_slice HO238.out
      subst eo33
      go_wp2
      go_meet
      case rel => exact ⟨_, (((t236.length : Int) != 4096)), (by first | rfl | (simp; done) | (simp [*]; done)), H', ⟨by first | omega | exact Nat.le_refl _⟩, ⟨by (with_reducible repeat (first | apply Kd.R_alloc | apply Kd.R_drewN | apply Kd.R_drew)); exact HO232.out⟩, ⟨by (with_reducible repeat (first | apply Kd.R_alloc | apply Kd.R_drewN | apply Kd.R_drew)); exact HO238.out⟩, ⟨by (with_reducible repeat (first | refine blk_drewN ?_ _ | refine blk_drew ?_ | refine blk_alloc ?_ _)); exact BK220.out⟩, ⟨by (with_reducible repeat (first | refine blk_drewN ?_ _ | refine blk_drew ?_ | refine blk_alloc ?_ _)); exact BK223.out⟩, ⟨by repeat (first | (with_reducible first | exact HB.out | apply below_alloc | apply pw_below_drewN | apply below_drew1 | refine below_set ?_ GE220.out | refine below_set ?_ GE223.out) | exact HB.out)⟩⟩
    · rw [if_neg c31] at H
      have c31b0 : ((t230.length : Int) == 4096) = false := beq_eq_false_iff_ne.mpr c31
      have c31b1 : ((t230.length : Int) != 4096) = true := bne_iff_ne.mpr c31
      (first | rw [c31b0] | (simp only [i64_w, i32_w]; rw [c31b0]) | skip)
      have H' := Aside0.mk H
      clear H
      obtain ⟨Ao34, co34, eo34⟩ := Kd.R_slice HO232.out
      subst eo34
      go_wp2
      go_meet
      case rel => exact ⟨_, (true), (by first | rfl | (simp; done) | (simp [*]; done)), H', ⟨by first | omega | exact Nat.le_refl _⟩, ⟨by (with_reducible repeat (first | apply Kd.R_alloc | apply Kd.R_drewN | apply Kd.R_drew)); exact HO232.out⟩, ⟨by (with_reducible repeat (first | apply Kd.R_alloc | apply Kd.R_drewN | apply Kd.R_drew)); exact HO238.out⟩, ⟨by (with_reducible repeat (first | refine blk_drewN ?_ _ | refine blk_drew ?_ | refine blk_alloc ?_ _)); exact BK220.out⟩, ⟨by (with_reducible repeat (first | refine blk_drewN ?_ _ | refine blk_drew ?_ | refine blk_alloc ?_ _)); exact BK223.out⟩, ⟨by repeat (first | (with_reducible first | exact HB.out | apply below_alloc | apply pw_below_drewN | apply below_drew1 | refine below_set ?_ GE220.out | refine below_set ?_ GE223.out) | exact HB.out)⟩⟩
  case rest =>
    clear HC11
    try clear c1
    try clear c2
    try clear p2
    try clear c3
    try clear p5
    try clear c8
    try clear c15
    try clear c18
    try clear c31
    try clear c31b0
    try clear c31b1
    try clear hcz13_0
    try clear hcz13_1
    try clear hcz16_0
    try clear hcz16_1
    try clear hfz13_0
    try clear hfz13_1
    try clear hfz16_0
    try clear hfz16_1
    obtain ⟨kq, x43_10, rfl, HA, HJ10, HO_11, HO_12, BK220, BK223, HB⟩ := hcut
    cases kq with
    | zero => exact absurd HA.out (by simp [terrkeep5_RasterEnds.j0])
    | succ kj10 =>
      have H := HA.out
      clear HA
      simp only [terrkeep5_RasterEnds.j0] at H
      by_cases c35 : x43_10 = true
      · subst c35
        have H1 : (some false) = some r := by rw [if_pos rfl] at H; exact H
        clear H
        have H := H1
        clear H1
        exact absurd (H.trans (congrArg some hr)) (by decide)
      · replace c35 := Bool.eq_false_iff.mpr c35
        subst c35
        have H1 : ((some (([(⟨t218, t219⟩ : S40), (⟨t221, t222⟩ : S40)] : List (S40)) : List (S40))).bind fun y239 => (terrkeep5_RasterEnds.l0 kj10 t230 t236 y239 (y239.length : Int) 0 t218 t219 t221 t222)) = some r := by rw [if_neg (show ¬ (false = true) by decide)] at H; exact H
        clear H
        have H := H1
        clear H1
        obtain ⟨y239, hy239⟩ : ∃ y_ : List (S40), y_ = (([(⟨t218, t219⟩ : S40), (⟨t221, t222⟩ : S40)] : List (S40))) := ⟨_, rfl⟩
        replace H : (terrkeep5_RasterEnds.l0 kj10 t230 t236 y239 (y239.length : Int) 0 t218 t219 t221 t222) = some r := by first | (rw [hy239]; with_reducible exact H) | (have H2_ := (Option.bind_some _ _).symm.trans H; rw [hy239]; with_reducible exact H2_) | (have H2_ := (Option.bind_some _ _).symm.trans H; with_reducible exact H2_) | with_reducible exact H | (rw [hy239]; exact H) | exact H
        have Ny239 := Aside0.mk hy239
        clear hy239
        have H' := Aside0.mk H
        clear H
        have hnb36 := NB220_223.out
        have hnc36 := NB223_220.out
        have hcz37_0 : wc.cell? ⟨gb220, 0, none⟩ = some (.int .i64 t218) := (blk_cell BK220.out 0).trans rfl
        have hcz37_1 : wc.cell? ⟨gb220, 1, none⟩ = some (.int .i64 t219) := (blk_cell BK220.out 1).trans rfl
        have hfz37_0 := blk_frozen BK220.out 0
        have hfz37_1 := blk_frozen BK220.out 1
        have hcz38_0 : wc.cell? ⟨gb223, 0, none⟩ = some (.int .i64 t221) := (blk_cell BK223.out 0).trans rfl
        have hcz38_1 : wc.cell? ⟨gb223, 1, none⟩ = some (.int .i64 t222) := (blk_cell BK223.out 1).trans rfl
        have hfz38_0 := blk_frozen BK223.out 0
        have hfz38_1 := blk_frozen BK223.out 1
        go_wp2_with (first | ((with_reducible refine gate_dst (N := 46) rfl ?_); (try (refine gate_guard (by rfl) ?_; dsimp only)); refine Kd.R_lit k40 _ 40 ?hg (N := 46) ?hd (xs := ([(⟨t218, t219⟩ : S40), (⟨t221, t222⟩ : S40)] : List (S40))) (inner := [.int .i64 t218, .int .i64 t219, .int .i64 t221, .int .i64 t222]) (ok := fun _ => True) (okp := fun _ => True) ?hr ?hp (fun _ hk => hk) trivial (Below.refl _ _) (Nat.le_refl _) (by simp) ?_; (case hd => rfl); (case hg => rfl); (case hr => first | (go_simp; done) | (go_simp; rfl)); (case hp => exact (Reps.c2 (show Kd.M k40 _ _ _ (⟨t218, t219⟩ : S40) [.int .i64 t218, .int .i64 t219] from (k40_mkM _ _ _ (⟨t218, t219⟩ : S40) )) (Reps.c2 (show Kd.M k40 _ _ _ (⟨t221, t222⟩ : S40) [.int .i64 t221, .int .i64 t222] from (k40_mkM _ _ _ (⟨t221, t222⟩ : S40) )) (Reps.none _ _)))); intro v240 w39 ho40 hb hg_ hnew_; clear hg_ hnew_; (first | rw [← Ny239.out] at ho40 | (simp only [Int.reduceToNat] at ho40; rw [← Ny239.out] at ho40)); have n0_ := Aside0.mk (Kd.R_below (by (with_reducible repeat (first | apply Kd.R_alloc | apply Kd.R_drewN | apply Kd.R_drew)); exact HO_11.out) hb); have n1_ := Aside0.mk (Kd.R_below (by (with_reducible repeat (first | apply Kd.R_alloc | apply Kd.R_drewN | apply Kd.R_drew)); exact HO_12.out) hb); have n2_ := Aside0.mk (Kd.R_lower (Kd.R_newB (Kd.R_newB ho40 (g := gb220) (o := .cells #[.int .i64 t218, .int .i64 t219] 40 (0, 0)) (by (with_reducible repeat (first | refine blk_drewN ?_ _ | refine blk_drew ?_ | refine blk_alloc ?_ _)); exact BK220.out)) (g := gb223) (o := .cells #[.int .i64 t221, .int .i64 t222] 40 (0, 0)) (by (with_reducible repeat (first | refine blk_drewN ?_ _ | refine blk_drew ?_ | refine blk_alloc ?_ _)); exact BK223.out)) (below_size (by repeat (first | (with_reducible first | exact HB.out | apply below_alloc | apply pw_below_drewN | apply below_drew1 | refine below_set ?_ GE220.out | refine below_set ?_ GE223.out) | exact HB.out)))); have n3_ := Aside0.mk (blk_below (g := gb220) (o := .cells #[.int .i64 t218, .int .i64 t219] 40 (0, 0)) (by (with_reducible repeat (first | refine blk_drewN ?_ _ | refine blk_drew ?_ | refine blk_alloc ?_ _)); exact BK220.out) hb); have n4_ := Aside0.mk (blk_below (g := gb223) (o := .cells #[.int .i64 t221, .int .i64 t222] 40 (0, 0)) (by (with_reducible repeat (first | refine blk_drewN ?_ _ | refine blk_drew ?_ | refine blk_alloc ?_ _)); exact BK223.out) hb); have n5_ := Aside0.mk (below_step (by repeat (first | (with_reducible first | exact HB.out | apply below_alloc | apply pw_below_drewN | apply below_drew1 | refine below_set ?_ GE220.out | refine below_set ?_ GE223.out) | exact HB.out)) hb); clear HO_11; clear HO_12; clear BK220; clear BK223; clear HB; have HO_11 := n0_; have HO_12 := n1_; have HO241 := n2_; have BK220 := n3_; have BK223 := n4_; have HB := n5_; clear n0_ n1_ n2_ n3_ n4_ n5_; clear hb ho40; obtain ⟨Ao41, co41, eo41⟩ := Kd.R_slice HO241.out; subst eo41))
        go_loopg [48] kj10 (fun kq v48 w' => ∃ (x48_2 : Int), v48 = .int .i64 x48_2 ∧ Aside0 (terrkeep5_RasterEnds.l0 kq t230 t236 y239 (y239.length : Int) x48_2 t218 t219 t221 t222 = some r) ∧ Aside0 (kq ≤ kj10) ∧ Aside0 (Kd.R (Kd.int .i64) 3 w' w.heap.size (fun _ => True) v231 t230) ∧ Aside0 (Kd.R (Kd.int .i64) 3 w' w.heap.size (fun _ => True) v237 t236) ∧ Aside0 (Kd.R k40 40 w' w.heap.size (fun k_ => k_ ≠ gb220 ∧ k_ ≠ gb223) (.slice Ao41 y239.length co41) y239) ∧ Aside0 (w'.heap[gb220]? = some (.cells #[.int .i64 t218, .int .i64 t219] 40 (0, 0))) ∧ Aside0 (w'.heap[gb223]? = some (.cells #[.int .i64 t221, .int .i64 t222] 40 (0, 0))) ∧ Aside0 (Below w.heap.size w w'))
        case atStart => exact ⟨(0), (by first | rfl | (simp; done) | (simp [*]; done)), H', ⟨Nat.le_refl _⟩, ⟨by (with_reducible repeat (first | apply Kd.R_alloc | apply Kd.R_drewN | apply Kd.R_drew)); exact HO_11.out⟩, ⟨by (with_reducible repeat (first | apply Kd.R_alloc | apply Kd.R_drewN | apply Kd.R_drew)); exact HO_12.out⟩, ⟨by (with_reducible repeat (first | apply Kd.R_alloc | apply Kd.R_drewN | apply Kd.R_drew)); exact Kd.R_mono HO241.out (fun _ hk => by first | exact ⟨hk.1.2, hk.2⟩ | exact trivial | exact hk.1 | exact hk | simp_all)⟩, ⟨by (with_reducible repeat (first | refine blk_drewN ?_ _ | refine blk_drew ?_ | refine blk_alloc ?_ _)); exact BK220.out⟩, ⟨by (with_reducible repeat (first | refine blk_drewN ?_ _ | refine blk_drew ?_ | refine blk_alloc ?_ _)); exact BK223.out⟩, ⟨by repeat (first | (with_reducible first | exact HB.out | apply below_alloc | apply pw_below_drewN | apply below_drew1 | refine below_set ?_ GE220.out | refine below_set ?_ GE223.out) | exact HB.out)⟩⟩
        case round =>
          clear H'
          try clear c1
          try clear c2
          try clear p2
          try clear c3
          try clear p5
          try clear c8
          try clear c15
          try clear c18
          try clear c31
          try clear c31b0
          try clear c31b1
          try clear c35
          try clear c36
          try clear hcz13_0
          try clear hcz13_1
          try clear hcz16_0
          try clear hcz16_1
          try clear hcz37_0
          try clear hcz37_1
          try clear hcz38_0
          try clear hcz38_1
          try clear hfz13_0
          try clear hfz13_1
          try clear hfz16_0
          try clear hfz16_1
          try clear hfz37_0
          try clear hfz37_1
          try clear hfz38_0
          try clear hfz38_1
          try clear p2
          try clear p5
          obtain ⟨x48_2, rfl, HA, HK2, HO_11, HO_12, HO_46, BK220, BK223, HB⟩ := hrel
          cases gk with
          | zero => exact absurd HA.out (by simp [terrkeep5_RasterEnds.l0])
          | succ k2 =>
            have H := HA.out
            clear HA
            simp only [terrkeep5_RasterEnds.l0] at H
            by_cases c42 : x48_2 < (y239.length : Int)
            · rw [if_pos c42] at H
              have c42b0 : decide (x48_2 < (y239.length : Int)) = true := decide_eq_true c42
              clear c42
              by_cases c43 : 0 ≤ x48_2
              · rw [if_pos c43] at H
                have c43b0 : decide (0 ≤ x48_2) = true := decide_eq_true c43
                clear c43
                by_cases c44 : x48_2 < (y239.length : Int)
                · rw [if_pos c44] at H
                  have c44b0 : decide (x48_2 < (y239.length : Int)) = true := decide_eq_true c44
                  clear c44
                  obtain ⟨ji45, hji45⟩ : ∃ j_ : Int, (wrap64 ((wrap64 ((wrap64 (Int.tdiv ((rd_T40 y239 x48_2).f1) 4)) * 64)) + (wrap64 (Int.tdiv ((rd_T40 y239 x48_2).f0) 4)))) = j_ := ⟨_, rfl⟩
                  replace H : (if 0 ≤ (ji45) then (if (ji45) < (t230.length : Int) then (if (rd t230 (ji45)) = 1 then (if (ji45) < (t236.length : Int) then (if (rd t236 (ji45)) < 1 then (some false) else (terrkeep5_RasterEnds.l0 k2 t230 t236 y239 (y239.length : Int) (wrap64 (x48_2 + 1)) t218 t219 t221 t222)) else (none)) else (some false)) else (none)) else (none)) = some r := by first | (rw [hji45] at H; exact H) | (simp only [hji45] at H ⊢; exact H)
                  have hji45w : (IntKind.i64.wrap ((wrap64 ((wrap64 (Int.tdiv ((rd_T40 y239 x48_2).f1) 4)) * 64)) + (wrap64 (Int.tdiv ((rd_T40 y239 x48_2).f0) 4)))) = ji45 := (i64_w _).trans hji45
                  by_cases c46 : 0 ≤ (ji45)
                  · rw [if_pos c46] at H
                    have c46b0 : decide (0 ≤ (ji45)) = true := decide_eq_true c46
                    clear c46
                    by_cases c47 : (ji45) < (t230.length : Int)
                    · rw [if_pos c47] at H
                      have c47b0 : decide ((ji45) < (t230.length : Int)) = true := decide_eq_true c47
                      clear c47
                      by_cases c48 : (rd t230 (ji45)) = 1
                      · rw [if_pos c48] at H
                        have c48b0 : ((rd t230 (ji45)) == 1) = true := beq_iff_eq.mpr c48
                        have c48b1 : ((rd t230 (ji45)) != 1) = false := bne_eq_false_iff_eq.mpr c48
                        clear c48
                        by_cases c49 : (ji45) < (t236.length : Int)
                        · rw [if_pos c49] at H
                          have c49b0 : decide ((ji45) < (t236.length : Int)) = true := decide_eq_true c49
                          clear c49
                          by_cases c50 : (rd t236 (ji45)) < 1
                          · rw [if_pos c50] at H
                            have c50b0 : decide ((rd t236 (ji45)) < 1) = true := decide_eq_true c50
                            clear c50
                            exact absurd (H.trans (congrArg some hr)) (by decide)
                          · rw [if_neg c50] at H
                            have c50b0 : decide ((rd t236 (ji45)) < 1) = false := decide_eq_false c50
                            clear c50
                            have H' := Aside0.mk H
                            clear H
                            have p242 : 0 ≤ (x48_2 : Int) := of_decide_eq_true (by first | (with_reducible assumption) | assumption)
                            have q242 : x48_2 < (y239.length : Int) := of_decide_eq_true (by first | (with_reducible assumption) | assumption)
                            obtain ⟨ad242, e242, hx242_0, hx242_1⟩ := at_T40 (Kd.R_reads' HO_46.out).2.2 x48_2 p242 q242
                            cases e242
                            replace p242 := eq_true p242
                            replace q242 := eq_true q242
                            go_wp2_with (first | ((with_reducible refine gate_dst (N := 14) rfl ?_); (try (refine gate_guard (by rfl) ?_; dsimp only)); refine box_event ?hg (N := 14) ?hd (cs := #[.int .i64 0, .int .i64 0]) (t := 40) ?hr ?_; (case hd => rfl); (case hg => rfl); (case hr => first | (go_simp; done) | (go_simp; rfl)); intro gb243 hg w51 hbox hb; have n0_ := Aside0.mk (Kd.R_below (by (with_reducible repeat (first | apply Kd.R_alloc | apply Kd.R_drewN | apply Kd.R_drew)); exact HO_11.out) hb); have n1_ := Aside0.mk (Kd.R_below (by (with_reducible repeat (first | apply Kd.R_alloc | apply Kd.R_drewN | apply Kd.R_drew)); exact HO_12.out) hb); have n2_ := Aside0.mk (Kd.R_below (Kd.R_elderB (by (with_reducible repeat (first | apply Kd.R_alloc | apply Kd.R_drewN | apply Kd.R_drew)); exact HO_46.out) gb243 (Nat.le_of_eq hg.symm)) hb); have n3_ := Aside0.mk (blk_below (g := gb220) (o := .cells #[.int .i64 t218, .int .i64 t219] 40 (0, 0)) (by (with_reducible repeat (first | refine blk_drewN ?_ _ | refine blk_drew ?_ | refine blk_alloc ?_ _)); exact BK220.out) hb); have n4_ := Aside0.mk (blk_below (g := gb223) (o := .cells #[.int .i64 t221, .int .i64 t222] 40 (0, 0)) (by (with_reducible repeat (first | refine blk_drewN ?_ _ | refine blk_drew ?_ | refine blk_alloc ?_ _)); exact BK223.out) hb); have n5_ := Aside0.mk (below_step (by repeat (first | (with_reducible first | exact HB.out | apply below_alloc | apply pw_below_drewN | apply below_drew1 | refine below_set ?_ GE220.out | refine below_set ?_ GE223.out) | exact HB.out)) hb); have n6_ := Aside0.mk (hbox); have n7_ := Aside0.mk ((by rw [hg]; exact (below_size (by repeat (first | (with_reducible first | exact HB.out | apply below_alloc | apply pw_below_drewN | apply below_drew1 | refine below_set ?_ GE220.out | refine below_set ?_ GE223.out) | exact HB.out))) : w.heap.size ≤ gb243)); have n8_ := Aside0.mk ((by rw [hg]; exact (below_size (by repeat (first | (with_reducible first | exact HB.out | apply below_alloc | apply pw_below_drewN | apply below_drew1 | refine below_set ?_ GE220.out | refine below_set ?_ GE223.out) | exact HB.out))) : w.heap.size ≤ gb243)); have n9_ := Aside0.mk ((by rw [hg]; exact Nat.ne_of_lt (blk_lt (g := gb220) (o := .cells #[.int .i64 t218, .int .i64 t219] 40 (0, 0)) (by (with_reducible repeat (first | refine blk_drewN ?_ _ | refine blk_drew ?_ | refine blk_alloc ?_ _)); exact BK220.out)) : gb220 ≠ gb243)); have n10_ := Aside0.mk ((by rw [hg]; exact Nat.ne_of_gt (blk_lt (g := gb220) (o := .cells #[.int .i64 t218, .int .i64 t219] 40 (0, 0)) (by (with_reducible repeat (first | refine blk_drewN ?_ _ | refine blk_drew ?_ | refine blk_alloc ?_ _)); exact BK220.out)) : gb243 ≠ gb220)); have n11_ := Aside0.mk ((by rw [hg]; exact Nat.ne_of_lt (blk_lt (g := gb223) (o := .cells #[.int .i64 t221, .int .i64 t222] 40 (0, 0)) (by (with_reducible repeat (first | refine blk_drewN ?_ _ | refine blk_drew ?_ | refine blk_alloc ?_ _)); exact BK223.out)) : gb223 ≠ gb243)); have n12_ := Aside0.mk ((by rw [hg]; exact Nat.ne_of_gt (blk_lt (g := gb223) (o := .cells #[.int .i64 t221, .int .i64 t222] 40 (0, 0)) (by (with_reducible repeat (first | refine blk_drewN ?_ _ | refine blk_drew ?_ | refine blk_alloc ?_ _)); exact BK223.out)) : gb243 ≠ gb223)); clear HO_11; clear HO_12; clear HO_46; clear BK220; clear BK223; clear HB; have HO_11 := n0_; have HO_12 := n1_; have HO_46 := n2_; have BK220 := n3_; have BK223 := n4_; have HB := n5_; have BK243 := n6_; have GW243 := n7_; have GE243 := n8_; have NB220_243 := n9_; have NB243_220 := n10_; have NB223_243 := n11_; have NB243_223 := n12_; clear n0_ n1_ n2_ n3_ n4_ n5_ n6_ n7_ n8_ n9_ n10_ n11_ n12_; clear hb hbox hg; have hnb52 := NB243_220.out; have hnc52 := NB220_243.out; have hnb53 := NB243_223.out; have hnc53 := NB223_243.out; have hcz54_0 : w51.cell? ⟨gb243, 0, none⟩ = some (.int .i64 0) := (blk_cell BK243.out 0).trans rfl; have hcz54_1 : w51.cell? ⟨gb243, 1, none⟩ = some (.int .i64 0) := (blk_cell BK243.out 1).trans rfl; have hfz54_0 := blk_frozen BK243.out 0; have hfz54_1 := blk_frozen BK243.out 1; obtain ⟨Ao55, co55, eo55⟩ := Kd.R_slice HO_11.out; subst eo55; have p244 : 0 ≤ ((ji45) : Int) := of_decide_eq_true (by first | (with_reducible assumption) | assumption); have q244 : (ji45) < (t230.length : Int) := of_decide_eq_true (by first | (with_reducible assumption) | assumption); obtain ⟨ad244, e244, hx244_0⟩ := Kd.at_int (Kd.R_reads' HO_11.out).2.2 (ji45) p244 q244; cases e244; have hn244_0 : ad244.block ≠ gb243 := Kd.own_blk (Kd.R_ne HO_11.out BK243.out (by decide)); have hn244_1 : ad244.block ≠ gb243 := Kd.own_blk (Kd.R_ne HO_11.out BK243.out (by decide)); replace hx244_0 := (cell_far (p := ⟨gb243, 0, none⟩) (by first | (rw [add_block]; exact hn244_0) | (show (Addr.add _ _).block ≠ _; rw [add_block]; exact hn244_0) | exact hn244_0) (.int .i64 ((rd_T40 y239 x48_2).f0))).trans hx244_0; replace hx244_0 := (cell_far (p := ⟨gb243, 1, none⟩) (by first | (rw [add_block]; exact hn244_1) | (show (Addr.add _ _).block ≠ _; rw [add_block]; exact hn244_1) | exact hn244_1) (.int .i64 ((rd_T40 y239 x48_2).f1))).trans hx244_0; clear hn244_0; clear hn244_1; replace p244 := eq_true p244; replace q244 := eq_true q244; obtain ⟨Ao56, co56, eo56⟩ := Kd.R_slice HO_12.out; subst eo56; have p245 : 0 ≤ ((ji45) : Int) := of_decide_eq_true (by first | (with_reducible assumption) | assumption); have q245 : (ji45) < (t236.length : Int) := of_decide_eq_true (by first | (with_reducible assumption) | assumption); obtain ⟨ad245, e245, hx245_0⟩ := Kd.at_int (Kd.R_reads' HO_12.out).2.2 (ji45) p245 q245; cases e245; have hn245_0 : ad245.block ≠ gb243 := Kd.own_blk (Kd.R_ne HO_12.out BK243.out (by decide)); have hn245_1 : ad245.block ≠ gb243 := Kd.own_blk (Kd.R_ne HO_12.out BK243.out (by decide)); replace hx245_0 := (cell_far (p := ⟨gb243, 0, none⟩) (by first | (rw [add_block]; exact hn245_0) | (show (Addr.add _ _).block ≠ _; rw [add_block]; exact hn245_0) | exact hn245_0) (.int .i64 ((rd_T40 y239 x48_2).f0))).trans hx245_0; replace hx245_0 := (cell_far (p := ⟨gb243, 1, none⟩) (by first | (rw [add_block]; exact hn245_1) | (show (Addr.add _ _).block ≠ _; rw [add_block]; exact hn245_1) | exact hn245_1) (.int .i64 ((rd_T40 y239 x48_2).f1))).trans hx245_0; clear hn245_0; clear hn245_1; replace p245 := eq_true p245; replace q245 := eq_true q245))
                            go_roundg k2
                            case measure => have := HJ10.out; have := HK2.out; omega
                            case rel => exact ⟨(wrap64 (x48_2 + 1)), (by first | rfl | (simp; done) | (simp [*]; done)), H', ⟨by have := HJ10.out; have := HK2.out; omega⟩, ⟨by (with_reducible repeat (first | apply Kd.R_alloc | apply Kd.R_drewN | apply Kd.R_drew)); exact Kd.R_mono (Kd.R_far (p := ⟨gb243, 1, none⟩) (Kd.R_far (p := ⟨gb243, 0, none⟩) (Kd.R_types HO_11.out BK243.out (by decide)) (fun _ hk => by first | exact hk.2 | exact trivial | exact hk.1 | exact hk | simp_all) (.int .i64 ((rd_T40 y239 x48_2).f0))) (fun _ hk => by first | exact hk.2 | exact trivial | exact hk.1 | exact hk | simp_all) (.int .i64 ((rd_T40 y239 x48_2).f1))) (fun _ hk => by first | exact hk.1 | exact trivial | exact hk.1 | exact hk | simp_all)⟩, ⟨by (with_reducible repeat (first | apply Kd.R_alloc | apply Kd.R_drewN | apply Kd.R_drew)); exact Kd.R_mono (Kd.R_far (p := ⟨gb243, 1, none⟩) (Kd.R_far (p := ⟨gb243, 0, none⟩) (Kd.R_types HO_12.out BK243.out (by decide)) (fun _ hk => by first | exact hk.2 | exact trivial | exact hk.1 | exact hk | simp_all) (.int .i64 ((rd_T40 y239 x48_2).f0))) (fun _ hk => by first | exact hk.2 | exact trivial | exact hk.1 | exact hk | simp_all) (.int .i64 ((rd_T40 y239 x48_2).f1))) (fun _ hk => by first | exact hk.1 | exact trivial | exact hk.1 | exact hk | simp_all)⟩, ⟨by (with_reducible repeat (first | apply Kd.R_alloc | apply Kd.R_drewN | apply Kd.R_drew)); exact Kd.R_mono (Kd.R_far (p := ⟨gb243, 1, none⟩) (Kd.R_far (p := ⟨gb243, 0, none⟩) (Kd.R_mono HO_46.out (fun k_ hk => (⟨hk, hk.2⟩ : _ ∧ k_ ≠ gb243))) (fun _ hk => by first | exact hk.2 | exact trivial | exact hk.1 | exact hk | simp_all) (.int .i64 ((rd_T40 y239 x48_2).f0))) (fun _ hk => by first | exact hk.2 | exact trivial | exact hk.1 | exact hk | simp_all) (.int .i64 ((rd_T40 y239 x48_2).f1))) (fun _ hk => by first | exact ⟨hk.1.1.1, hk.1.1.2⟩ | exact trivial | exact hk.1 | exact hk | simp_all)⟩, ⟨by (with_reducible repeat (first | refine blk_drewN ?_ _ | refine blk_drew ?_ | refine blk_alloc ?_ _)); refine blk_far ?_ NB220_243.out _; (with_reducible repeat (first | refine blk_drewN ?_ _ | refine blk_drew ?_ | refine blk_alloc ?_ _)); refine blk_far ?_ NB220_243.out _; (with_reducible repeat (first | refine blk_drewN ?_ _ | refine blk_drew ?_ | refine blk_alloc ?_ _)); exact BK220.out⟩, ⟨by (with_reducible repeat (first | refine blk_drewN ?_ _ | refine blk_drew ?_ | refine blk_alloc ?_ _)); refine blk_far ?_ NB223_243.out _; (with_reducible repeat (first | refine blk_drewN ?_ _ | refine blk_drew ?_ | refine blk_alloc ?_ _)); refine blk_far ?_ NB223_243.out _; (with_reducible repeat (first | refine blk_drewN ?_ _ | refine blk_drew ?_ | refine blk_alloc ?_ _)); exact BK223.out⟩, ⟨by repeat (first | (with_reducible first | exact HB.out | apply below_alloc | apply pw_below_drewN | apply below_drew1 | refine below_set ?_ GE220.out | refine below_set ?_ GE223.out | refine below_set ?_ GE243.out) | exact HB.out)⟩⟩
                        · rw [if_neg c49] at H
                          exact absurd H (by simp)
                      · rw [if_neg c48] at H
                        have c48b0 : ((rd t230 (ji45)) == 1) = false := beq_eq_false_iff_ne.mpr c48
                        have c48b1 : ((rd t230 (ji45)) != 1) = true := bne_iff_ne.mpr c48
                        exact absurd (H.trans (congrArg some hr)) (by decide)
                    · rw [if_neg c47] at H
                      exact absurd H (by simp)
                  · rw [if_neg c46] at H
                    exact absurd H (by simp)
                · rw [if_neg c44] at H
                  exact absurd H (by simp)
              · rw [if_neg c43] at H
                exact absurd H (by simp)
            · rw [if_neg c42] at H
              have c42b0 : decide (x48_2 < (y239.length : Int)) = false := decide_eq_false c42
              clear c42
              obtain ⟨y246, hy246⟩ : ∃ y_ : List (S40), y_ = (([(⟨t221, t222⟩ : S40), (⟨t218, t219⟩ : S40)] : List (S40))) := ⟨_, rfl⟩
              replace H : ((raster_Lines.f k2 (([y246] : List (List (S40))))).bind fun t252 => ((raster_Total.f k2 t236).bind fun t255 => (if t255 = 2 then ((slices_Equal_int_int.f k2 t230 t252).bind fun t256 => (some t256)) else (some false)))) = some r := by first | (rw [hy246]; with_reducible exact H) | (have H2_ := (Option.bind_some _ _).symm.trans H; rw [hy246]; with_reducible exact H2_) | (have H2_ := (Option.bind_some _ _).symm.trans H; with_reducible exact H2_) | with_reducible exact H | (rw [hy246]; exact H) | exact H
              have Ny246 := Aside0.mk hy246
              clear hy246
              obtain ⟨y249, hy249⟩ : ∃ y_ : List (List (S40)), y_ = (([y246] : List (List (S40)))) := ⟨_, rfl⟩
              replace H : ((raster_Lines.f k2 y249).bind fun t252 => ((raster_Total.f k2 t236).bind fun t255 => (if t255 = 2 then ((slices_Equal_int_int.f k2 t230 t252).bind fun t256 => (some t256)) else (some false)))) = some r := by first | (rw [hy249]; with_reducible exact H) | (have H2_ := (Option.bind_some _ _).symm.trans H; rw [hy249]; with_reducible exact H2_) | (have H2_ := (Option.bind_some _ _).symm.trans H; with_reducible exact H2_) | with_reducible exact H | (rw [hy249]; exact H) | exact H
              have Ny249 := Aside0.mk hy249
              clear hy249
              replace H := Option.bind_eq_some_iff.mp H
              obtain ⟨t252, A570, H⟩ := H
              replace H : ((raster_Total.f k2 t236).bind fun t255 => (if t255 = 2 then ((slices_Equal_int_int.f k2 t230 t252).bind fun t256 => (some t256)) else (some false))) = some r := H
              have A57 := Aside0.mk A570
              clear A570
              replace H := Option.bind_eq_some_iff.mp H
              obtain ⟨t255, A580, H⟩ := H
              replace H : (if t255 = 2 then ((slices_Equal_int_int.f k2 t230 t252).bind fun t256 => (some t256)) else (some false)) = some r := H
              have A58 := Aside0.mk A580
              clear A580
              by_cases c59 : t255 = 2
              · rw [if_pos c59] at H
                have c59b0 : (t255 == 2) = true := beq_iff_eq.mpr c59
                have c59b1 : (t255 != 2) = false := bne_eq_false_iff_eq.mpr c59
                clear c59
                replace H := Option.bind_eq_some_iff.mp H
                obtain ⟨t256, A600, H⟩ := H
                replace H : (some t256) = some r := H
                have A60 := Aside0.mk A600
                clear A600
                clear hr
                obtain rfl := Option.some.inj H
                have hnb61 := NB223_220.out
                have hnc61 := NB220_223.out
                have hcz62_0 : wr.cell? ⟨gb223, 0, none⟩ = some (.int .i64 t221) := (blk_cell BK223.out 0).trans rfl
                have hcz62_1 : wr.cell? ⟨gb223, 1, none⟩ = some (.int .i64 t222) := (blk_cell BK223.out 1).trans rfl
                have hfz62_0 := blk_frozen BK223.out 0
                have hfz62_1 := blk_frozen BK223.out 1
                have hcz63_0 : wr.cell? ⟨gb220, 0, none⟩ = some (.int .i64 t218) := (blk_cell BK220.out 0).trans rfl
                have hcz63_1 : wr.cell? ⟨gb220, 1, none⟩ = some (.int .i64 t219) := (blk_cell BK220.out 1).trans rfl
                have hfz63_0 := blk_frozen BK220.out 0
                have hfz63_1 := blk_frozen BK220.out 1
                go_wp2_with (first | ((with_reducible refine gate_dst (N := 75) rfl ?_); (try (refine gate_guard (by rfl) ?_; dsimp only)); refine Kd.R_lit k40 _ 40 ?hg (N := 75) ?hd (xs := ([(⟨t221, t222⟩ : S40), (⟨t218, t219⟩ : S40)] : List (S40))) (inner := [.int .i64 t221, .int .i64 t222, .int .i64 t218, .int .i64 t219]) (ok := fun _ => True) (okp := fun _ => True) ?hr ?hp (fun _ hk => hk) trivial (Below.refl _ _) (Nat.le_refl _) (by simp) ?_; (case hd => rfl); (case hg => rfl); (case hr => first | (go_simp; done) | (go_simp; rfl)); (case hp => exact (Reps.c2 (show Kd.M k40 _ _ _ (⟨t221, t222⟩ : S40) [.int .i64 t221, .int .i64 t222] from (k40_mkM _ _ _ (⟨t221, t222⟩ : S40) )) (Reps.c2 (show Kd.M k40 _ _ _ (⟨t218, t219⟩ : S40) [.int .i64 t218, .int .i64 t219] from (k40_mkM _ _ _ (⟨t218, t219⟩ : S40) )) (Reps.none _ _)))); intro v247 w64 ho65 hb hg_ hnew_; clear hg_ hnew_; (first | rw [← Ny246.out] at ho65 | (simp only [Int.reduceToNat] at ho65; rw [← Ny246.out] at ho65)); have n0_ := Aside0.mk (Kd.R_below (by (with_reducible repeat (first | apply Kd.R_alloc | apply Kd.R_drewN | apply Kd.R_drew)); exact HO_11.out) hb); have n1_ := Aside0.mk (Kd.R_below (by (with_reducible repeat (first | apply Kd.R_alloc | apply Kd.R_drewN | apply Kd.R_drew)); exact HO_12.out) hb); have n2_ := Aside0.mk (Kd.R_elder' (by (with_reducible repeat (first | apply Kd.R_alloc | apply Kd.R_drewN | apply Kd.R_drew)); exact HO_46.out) (Kd.R_base ho65) hb); have n3_ := Aside0.mk (Kd.R_lower (Kd.R_newB (Kd.R_newB (Kd.R_new' ho65 (Kd.R_lt (by (with_reducible repeat (first | apply Kd.R_alloc | apply Kd.R_drewN | apply Kd.R_drew)); exact HO_46.out))) (g := gb220) (o := .cells #[.int .i64 t218, .int .i64 t219] 40 (0, 0)) (by (with_reducible repeat (first | refine blk_drewN ?_ _ | refine blk_drew ?_ | refine blk_alloc ?_ _)); exact BK220.out)) (g := gb223) (o := .cells #[.int .i64 t221, .int .i64 t222] 40 (0, 0)) (by (with_reducible repeat (first | refine blk_drewN ?_ _ | refine blk_drew ?_ | refine blk_alloc ?_ _)); exact BK223.out)) (below_size (by repeat (first | (with_reducible first | exact HB.out | apply below_alloc | apply pw_below_drewN | apply below_drew1 | refine below_set ?_ GE220.out | refine below_set ?_ GE223.out) | exact HB.out)))); have n4_ := Aside0.mk (blk_below (g := gb220) (o := .cells #[.int .i64 t218, .int .i64 t219] 40 (0, 0)) (by (with_reducible repeat (first | refine blk_drewN ?_ _ | refine blk_drew ?_ | refine blk_alloc ?_ _)); exact BK220.out) hb); have n5_ := Aside0.mk (blk_below (g := gb223) (o := .cells #[.int .i64 t221, .int .i64 t222] 40 (0, 0)) (by (with_reducible repeat (first | refine blk_drewN ?_ _ | refine blk_drew ?_ | refine blk_alloc ?_ _)); exact BK223.out) hb); have n6_ := Aside0.mk (below_step (by repeat (first | (with_reducible first | exact HB.out | apply below_alloc | apply pw_below_drewN | apply below_drew1 | refine below_set ?_ GE220.out | refine below_set ?_ GE223.out) | exact HB.out)) hb); clear HO_11; clear HO_12; clear HO_46; clear BK220; clear BK223; clear HB; have HO_11 := n0_; have HO_12 := n1_; have HO_46 := n2_; have HO248 := n3_; have BK220 := n4_; have BK223 := n5_; have HB := n6_; clear n0_ n1_ n2_ n3_ n4_ n5_ n6_; clear hb ho65; obtain ⟨Ao66, co66, eo66⟩ := Kd.R_slice HO248.out; subst eo66) | ((with_reducible refine gate_dst (N := 76) rfl ?_); (try (refine gate_guard (by rfl) ?_; dsimp only)); refine Kd.N_lit (Kd.slice 40 k40) _ 54 ?hg (N' := 76) ?hd (xs := ([y246] : List (List (S40)))) (inner := [.slice Ao66 y246.length co66]) (ok := (fun k_ => some k_ ≠ (v231 : Value).ownBlock ∧ some k_ ≠ (v237 : Value).ownBlock ∧ some k_ ≠ (.slice Ao41 y239.length co41 : Value).ownBlock ∧ k_ ≠ gb220 ∧ k_ ≠ gb223)) (okp := (fun k_ => some k_ ≠ (v231 : Value).ownBlock ∧ some k_ ≠ (v237 : Value).ownBlock ∧ some k_ ≠ (.slice Ao41 y239.length co41 : Value).ownBlock ∧ k_ ≠ gb220 ∧ k_ ≠ gb223)) ?hr ?hp (fun _ hk => hk) ((show ∀ k_, w64.heap.size ≤ k_ → (fun k_ => some k_ ≠ (v231 : Value).ownBlock ∧ some k_ ≠ (v237 : Value).ownBlock ∧ some k_ ≠ (.slice Ao41 y239.length co41 : Value).ownBlock ∧ k_ ≠ gb220 ∧ k_ ≠ gb223) k_ from fun k_ hk => ⟨Kd.fresh' (Kd.R_lt (by (with_reducible repeat (first | apply Kd.R_alloc | apply Kd.R_drewN | apply Kd.R_drew)); exact HO_11.out)) k_ hk, Kd.fresh' (Kd.R_lt (by (with_reducible repeat (first | apply Kd.R_alloc | apply Kd.R_drewN | apply Kd.R_drew)); exact HO_12.out)) k_ hk, Kd.fresh' (Kd.R_lt (by (with_reducible repeat (first | apply Kd.R_alloc | apply Kd.R_drewN | apply Kd.R_drew)); exact HO_46.out)) k_ hk, Kd.freshB (g := gb220) (o := .cells #[.int .i64 t218, .int .i64 t219] 40 (0, 0)) (by (with_reducible repeat (first | refine blk_drewN ?_ _ | refine blk_drew ?_ | refine blk_alloc ?_ _)); exact BK220.out) k_ hk, Kd.freshB (g := gb223) (o := .cells #[.int .i64 t221, .int .i64 t222] 40 (0, 0)) (by (with_reducible repeat (first | refine blk_drewN ?_ _ | refine blk_drew ?_ | refine blk_alloc ?_ _)); exact BK223.out) k_ hk⟩) _ (Nat.le_refl _)) (Below.refl _ _) (Nat.le_refl _) (by simp) ?_; (case hd => rfl); (case hg => rfl); (case hr => first | (go_simp; done) | (go_simp; rfl)); (case hp => exact (Reps.one (show Kd.FK (Kd.slice 40 k40) _ _ y246 [.slice Ao66 y246.length co66] from (Kd.FK_slice_mk (Kd.R_reads' (Kd.R_mono (ok' := (fun k_ => some k_ ≠ (v231 : Value).ownBlock ∧ some k_ ≠ (v237 : Value).ownBlock ∧ some k_ ≠ (.slice Ao41 y239.length co41 : Value).ownBlock ∧ k_ ≠ gb220 ∧ k_ ≠ gb223)) (Kd.R_apart' (Kd.R_apart' (HO248.out) (Kd.R_typed HO_11.out) (by decide)) (Kd.R_typed HO_12.out) (by decide)) (fun k_ hk => ⟨hk.1.2, ⟨hk.2, ⟨hk.1.1.1.1.2, ⟨hk.1.1.1.2, hk.1.1.2⟩⟩⟩⟩))).2.1 (Kd.R_F (Kd.R_mono (ok' := (fun k_ => some k_ ≠ (v231 : Value).ownBlock ∧ some k_ ≠ (v237 : Value).ownBlock ∧ some k_ ≠ (.slice Ao41 y239.length co41 : Value).ownBlock ∧ k_ ≠ gb220 ∧ k_ ≠ gb223)) (Kd.R_apart' (Kd.R_apart' (HO248.out) (Kd.R_typed HO_11.out) (by decide)) (Kd.R_typed HO_12.out) (by decide)) (fun k_ hk => ⟨hk.1.2, ⟨hk.2, ⟨hk.1.1.1.1.2, ⟨hk.1.1.1.2, hk.1.1.2⟩⟩⟩⟩))))) (Reps.none _ _))); intro v250 w67 ho68 hb hg_ hnew_; clear hg_ hnew_; (first | rw [← Ny249.out] at ho68 | (simp only [Int.reduceToNat] at ho68; rw [← Ny249.out] at ho68)); have n0_ := Aside0.mk (Kd.R_below (by (with_reducible repeat (first | apply Kd.R_alloc | apply Kd.R_drewN | apply Kd.R_drew)); exact HO_11.out) hb); have n1_ := Aside0.mk (Kd.R_below (by (with_reducible repeat (first | apply Kd.R_alloc | apply Kd.R_drewN | apply Kd.R_drew)); exact HO_12.out) hb); have n2_ := Aside0.mk (Kd.R_below (by (with_reducible repeat (first | apply Kd.R_alloc | apply Kd.R_drewN | apply Kd.R_drew)); exact HO_46.out) hb); have n3_ := Aside0.mk (Kd.N_lower ho68 (below_size (by repeat (first | (with_reducible first | exact HB.out | apply below_alloc | apply pw_below_drewN | apply below_drew1 | refine below_set ?_ GE220.out | refine below_set ?_ GE223.out) | exact HB.out)))); have n4_ := Aside0.mk (blk_below (g := gb220) (o := .cells #[.int .i64 t218, .int .i64 t219] 40 (0, 0)) (by (with_reducible repeat (first | refine blk_drewN ?_ _ | refine blk_drew ?_ | refine blk_alloc ?_ _)); exact BK220.out) hb); have n5_ := Aside0.mk (blk_below (g := gb223) (o := .cells #[.int .i64 t221, .int .i64 t222] 40 (0, 0)) (by (with_reducible repeat (first | refine blk_drewN ?_ _ | refine blk_drew ?_ | refine blk_alloc ?_ _)); exact BK223.out) hb); have n6_ := Aside0.mk (below_step (by repeat (first | (with_reducible first | exact HB.out | apply below_alloc | apply pw_below_drewN | apply below_drew1 | refine below_set ?_ GE220.out | refine below_set ?_ GE223.out) | exact HB.out)) hb); clear HO_11; clear HO_12; clear HO_46; clear BK220; clear BK223; clear HB; clear HO248; have HO_11 := n0_; have HO_12 := n1_; have HO_46 := n2_; have HO251 := n3_; have BK220 := n4_; have BK223 := n5_; have HB := n6_; clear n0_ n1_ n2_ n3_ n4_ n5_ n6_; clear hb ho68; obtain ⟨Ao69, co69, eo69⟩ := Kd.N_slice HO251.out; subst eo69) | ((with_reducible refine gate_callee (f := 35) rfl ?_); refine goesL_ (some 77) rfl rfl Try.func35 (by kernel_rfl) rfl #[.slice Ao69 y249.length co69] rfl (by (try simp only [List.map_toArray, List.map_cons, List.map_nil]); first | done | rfl | (simp only [List.length_drop, List.length_take]; rfl)) ?_; (with_reducible refine (raster_Lines.calls k2 _ _ y249 t252 _ ?side1 ?side2 A57.out).mono ?_); (case side1 => repeat (first | exact (Kd.N_reads' HO251.out).2.2 | (with_reducible refine Kd.C_alloc ?_ _) | (with_reducible refine Kd.C_drewN ?_ _) | (with_reducible refine Kd.C_drew ?_))); (case side2 => exact (Kd.N_reads' HO251.out).2.1); rintro e w70 ⟨v253, rfl, ho0, hb⟩; refine ⟨_, rfl, ?_⟩; have n0_ := Aside0.mk (Kd.R_elder' (by (with_reducible repeat (first | apply Kd.R_alloc | apply Kd.R_drewN | apply Kd.R_drew)); exact HO_11.out) (Kd.R_base ho0) hb); have n1_ := Aside0.mk (Kd.R_elder' (by (with_reducible repeat (first | apply Kd.R_alloc | apply Kd.R_drewN | apply Kd.R_drew)); exact HO_12.out) (Kd.R_base ho0) hb); have n2_ := Aside0.mk (Kd.R_below (by (with_reducible repeat (first | apply Kd.R_alloc | apply Kd.R_drewN | apply Kd.R_drew)); exact HO_46.out) hb); have n3_ := Aside0.mk (Kd.N_elder' (by (with_reducible repeat (first | apply Kd.N_alloc | apply Kd.N_drewN | apply Kd.N_drew)); exact HO251.out) (Kd.R_base ho0) hb); have n4_ := Aside0.mk (Kd.R_lower (Kd.R_new' (Kd.R_new' ho0 (Kd.R_lt (by (with_reducible repeat (first | apply Kd.R_alloc | apply Kd.R_drewN | apply Kd.R_drew)); exact HO_11.out))) (Kd.R_lt (by (with_reducible repeat (first | apply Kd.R_alloc | apply Kd.R_drewN | apply Kd.R_drew)); exact HO_12.out))) (below_size (by repeat (first | (with_reducible first | exact HB.out | apply below_alloc | apply pw_below_drewN | apply below_drew1 | refine below_set ?_ GE220.out | refine below_set ?_ GE223.out) | exact HB.out)))); have n5_ := Aside0.mk (blk_below (g := gb220) (o := .cells #[.int .i64 t218, .int .i64 t219] 40 (0, 0)) (by (with_reducible repeat (first | refine blk_drewN ?_ _ | refine blk_drew ?_ | refine blk_alloc ?_ _)); exact BK220.out) hb); have n6_ := Aside0.mk (blk_below (g := gb223) (o := .cells #[.int .i64 t221, .int .i64 t222] 40 (0, 0)) (by (with_reducible repeat (first | refine blk_drewN ?_ _ | refine blk_drew ?_ | refine blk_alloc ?_ _)); exact BK223.out) hb); have n7_ := Aside0.mk (below_step (by repeat (first | (with_reducible first | exact HB.out | apply below_alloc | apply pw_below_drewN | apply below_drew1 | refine below_set ?_ GE220.out | refine below_set ?_ GE223.out) | exact HB.out)) hb); clear HO_11; clear HO_12; clear HO_46; clear HO251; clear BK220; clear BK223; clear HB; have HO_11 := n0_; have HO_12 := n1_; have HO_46 := n2_; have HO251 := n3_; have HO254 := n4_; have BK220 := n5_; have BK223 := n6_; have HB := n7_; clear n0_ n1_ n2_ n3_ n4_ n5_ n6_ n7_; (try clear hb); (try clear hb2); (try clear hk); (try clear hi); (try clear ho0); obtain ⟨Ao71, co71, eo71⟩ := Kd.R_slice HO_12.out; subst eo71) | ((with_reducible refine gate_callee (f := 37) rfl ?_); refine goesL_ (some 79) rfl rfl Try.func37 (by kernel_rfl) rfl #[.slice Ao71 t236.length co71] rfl (by (try simp only [List.map_toArray, List.map_cons, List.map_nil]); first | done | rfl | (simp only [List.length_drop, List.length_take]; rfl)) ?_; (with_reducible refine (raster_Total.calls k2 _ _ t236 t255 _ ?side1 ?side2 A58.out).mono ?_); (case side1 => repeat (first | exact (Kd.R_reads' HO_12.out).2.2 | (with_reducible refine Kd.C_alloc ?_ _) | (with_reducible refine Kd.C_drewN ?_ _) | (with_reducible refine Kd.C_drew ?_))); (case side2 => exact (Kd.R_reads' HO_12.out).2.1); rintro e w' ⟨rfl, ⟨nd, rfl⟩⟩; refine ⟨_, rfl, ?_⟩; obtain ⟨Ao72, co72, eo72⟩ := Kd.R_slice HO_11.out; subst eo72; obtain ⟨Ao73, co73, eo73⟩ := Kd.R_slice HO254.out; subst eo73) | (go_at_call 22; (with_reducible refine (slices_Equal_int_int.calls k2 _ _ t230 _ _ t252 t256 _ ?side1 ?side2 ?side3 ?side4 A60.out).mono ?_); (case side1 => repeat (first | exact (Kd.R_reads' HO_11.out).2.2 | (with_reducible refine Kd.C_alloc ?_ _) | (with_reducible refine Kd.C_drewN ?_ _) | (with_reducible refine Kd.C_drew ?_))); (case side2 => exact (Kd.R_reads' HO_11.out).2.1); (case side3 => repeat (first | exact (Kd.R_reads' HO254.out).2.2 | (with_reducible refine Kd.C_alloc ?_ _) | (with_reducible refine Kd.C_drewN ?_ _) | (with_reducible refine Kd.C_drew ?_))); (case side4 => exact (Kd.R_reads' HO254.out).2.1); rintro e w' ⟨rfl, ⟨nd, rfl⟩⟩))
                go_ret
                exact ⟨by first | rfl | (simp [errW_none, errW_some] <;> rfl) | (simp [*, errW_none, errW_some] <;> rfl), by repeat (first | (with_reducible first | exact HB.out | apply below_alloc | apply pw_below_drewN | apply below_drew1 | refine below_set ?_ GE220.out | refine below_set ?_ GE223.out) | exact HB.out)⟩
              · rw [if_neg c59] at H
                have c59b0 : (t255 == 2) = false := beq_eq_false_iff_ne.mpr c59
                have c59b1 : (t255 != 2) = true := bne_iff_ne.mpr c59
                exact absurd (H.trans (congrArg some hr)) (by decide)

/-- THE ONE PURE STATEMENT of terrkeep5_RasterEnds: yours. -/
def terrkeep5_RasterEnds.Pure : Prop := ∀ (a0 : Int) (a1 : Int) (a2 : Int) (a3 : Int), (Lit.int .i64 a0).wf = true → (Lit.int .i64 a1).wf = true → (Lit.int .i64 a2).wf = true → (Lit.int .i64 a3).wf = true → ∃ k, terrkeep5_RasterEnds.f k a0 a1 a2 a3 = some true
theorem terrkeep5_RasterEnds.walk (P : terrkeep5_RasterEnds.Pure) (a0 : Int) (a1 : Int) (a2 : Int) (a3 : Int) (w : World) (w0 : (Lit.int .i64 a0).wf = true) (w1 : (Lit.int .i64 a1).wf = true) (w2 : (Lit.int .i64 a2).wf = true) (w3 : (Lit.int .i64 a3).wf = true) :
    Calls Try.prog 8 #[.int .i64 a0, .int .i64 a1, .int .i64 a2, .int .i64 a3] w fun e w' => e = .returned (.bool true) ∧ Below w.heap.size w w' := by
  obtain ⟨k, h⟩ := P a0 a1 a2 a3 w0 w1 w2 w3
  refine (terrkeep5_RasterEnds.calls k a0 a1 a2 a3 true w h rfl).mono ?_
  rintro e w' ⟨rfl, hd⟩
  exact ⟨rfl, hd⟩
end Go.Proofs.Ytdmhnjpblpfbfaa.Q
