/- What the Go function terrlaw5_family comes to, and its contract. Condition: its printed twin gives an answer. -/
import Derived.Test.YtojehbkadlmbjaaQf45
namespace Go.Proofs.Ytojehbkadlmbjaa.Q
open Go.RowKit Go.Proofs.YtojehbkadlmbjaaW.PrintWords Go.Proofs.YtojehbkadlmbjaaW.PrintLast Go.Proofs.YtojehbkadlmbjaaW.PrintMore
attribute [local go_sem] max2_int min2_int max_two min_two max_three min_three max_four min_four
set_option linter.unusedVariables false
set_option linter.unusedSimpArgs false
attribute [local go_sem high] eqA34
/-! ### terrlaw5_family: function 42 -/
mutual
def terrlaw5_family.j0 : Nat → Int → List (S34) → Int → Bool → Int → Int → Int → Int → Int → Int → Option (Bool)
  | 0, _, _, _, _, _, _, _, _, _, _ => none
  | k + 1, x2, x3, x4, x14, x176000, x176001, x176002, x177000, x177001, x177002 => if x14 = true then (some false) else (if x176000 > 0 then (if x2 = 0 then (terrlaw5_family.j1 k x3 x4 (!(x177000 == (wrap64 (x176000 - 1))) || (!(x177001 == (wrap64 (Int.tdiv (wrap64 (x176001 - (Int.tmod x176001 2))) 2))) || (!(x177002 == (wrap64 (Int.tdiv (wrap64 (x176002 - (Int.tmod x176002 2))) 2)))))) x176000 x176001 x176002) else (terrlaw5_family.j1 k x3 x4 true x176000 x176001 x176002)) else (terrlaw5_family.j1 k x3 x4 false x176000 x176001 x176002))
def terrlaw5_family.j1 : Nat → List (S34) → Int → Bool → Int → Int → Int → Option (Bool)
  | 0, _, _, _, _, _, _ => none
  | k + 1, x3, x4, x27, x176000, x176001, x176002 => if x27 = true then (some false) else (if x176000 = 10 then (if x4 = 4 then (some ((x3.length : Int) == 0)) else (some false)) else (if x4 = 0 then ((api_TileID.f k x3 (([(⟨wrap64 (x176000 + 1), wrap64 (2 * x176001), wrap64 (2 * x176002)⟩ : S34), (⟨wrap64 (x176000 + 1), wrap64 ((wrap64 (2 * x176001)) + 1), wrap64 (2 * x176002)⟩ : S34), (⟨wrap64 (x176000 + 1), wrap64 (2 * x176001), wrap64 ((wrap64 (2 * x176002)) + 1)⟩ : S34), (⟨wrap64 (x176000 + 1), wrap64 ((wrap64 (2 * x176001)) + 1), wrap64 ((wrap64 (2 * x176002)) + 1)⟩ : S34)] : List (S34)))).bind fun t180 => (some t180)) else (some false)))
end
def terrlaw5_family.f (k : Nat) (a0_0 : Int) (a0_1 : Int) (a0_2 : Int) (a1_0 : Int) (a1_1 : Int) (a1_2 : Int) (a2 : Int) (l3 : List (S34)) (a4 : Int) : Option (Bool) := if a0_0 = 0 then (if a2 = 4 then (terrlaw5_family.j0 k a2 l3 a4 (!(a1_0 == 0) || (!(a1_1 == 0) || (!(a1_2 == 0)))) a0_0 a0_1 a0_2 a1_0 a1_1 a1_2) else (terrlaw5_family.j0 k a2 l3 a4 true a0_0 a0_1 a0_2 a1_0 a1_1 a1_2)) else (terrlaw5_family.j0 k a2 l3 a4 false a0_0 a0_1 a0_2 a1_0 a1_1 a1_2)
theorem terrlaw5_family.mono_l : ∀ k, (∀ y0 y1 y2 y3 y4 y5 y6 y7 y8 y9, LeO (terrlaw5_family.j0 k y0 y1 y2 y3 y4 y5 y6 y7 y8 y9) (terrlaw5_family.j0 (k + 1) y0 y1 y2 y3 y4 y5 y6 y7 y8 y9)) ∧ (∀ y0 y1 y2 y3 y4 y5, LeO (terrlaw5_family.j1 k y0 y1 y2 y3 y4 y5) (terrlaw5_family.j1 (k + 1) y0 y1 y2 y3 y4 y5))
  | 0 => ⟨fun _ _ _ _ _ _ _ _ _ _ r h => by simp [terrlaw5_family.j0] at h, fun _ _ _ _ _ _ r h => by simp [terrlaw5_family.j1] at h⟩
  | k + 1 => by
    obtain ⟨ih0, ih1⟩ := terrlaw5_family.mono_l k
    refine ⟨?_, ?_⟩
    · intro y0 y1 y2 y3 y4 y5 y6 y7 y8 y9
      unfold terrlaw5_family.j0
      repeat' first
      | (with_reducible exact ih0 _ _ _ _ _ _ _ _ _ _)
      | (with_reducible exact ih1 _ _ _ _ _ _)
      | (with_reducible exact api_TileID.mono _ _ _)
      | (with_reducible exact LeO.refl _)
      | (with_reducible exact LeO.none _)
      | (with_reducible refine LeO.ite ?_ ?_)
      | (with_reducible refine LeO.bind ?_ (fun _ => ?_))
      | exact ih0 _ _ _ _ _ _ _ _ _ _
      | exact ih1 _ _ _ _ _ _
      | exact api_TileID.mono _ _ _
      | exact LeO.none _
      | refine LeO.ite ?_ ?_
      | refine LeO.bind ?_ (fun _ => ?_)
    · intro y0 y1 y2 y3 y4 y5
      unfold terrlaw5_family.j1
      repeat' first
      | (with_reducible exact ih0 _ _ _ _ _ _ _ _ _ _)
      | (with_reducible exact ih1 _ _ _ _ _ _)
      | (with_reducible exact api_TileID.mono _ _ _)
      | (with_reducible exact LeO.refl _)
      | (with_reducible exact LeO.none _)
      | (with_reducible refine LeO.ite ?_ ?_)
      | (with_reducible refine LeO.bind ?_ (fun _ => ?_))
      | exact ih0 _ _ _ _ _ _ _ _ _ _
      | exact ih1 _ _ _ _ _ _
      | exact api_TileID.mono _ _ _
      | exact LeO.none _
      | refine LeO.ite ?_ ?_
      | refine LeO.bind ?_ (fun _ => ?_)
theorem terrlaw5_family.mono : ∀ a0 a1 a2 a3 a4 a5 a6 a7 a8 k, LeO (terrlaw5_family.f k a0 a1 a2 a3 a4 a5 a6 a7 a8) (terrlaw5_family.f (k + 1) a0 a1 a2 a3 a4 a5 a6 a7 a8) := by
  intro a0 a1 a2 a3 a4 a5 a6 a7 a8 k
  obtain ⟨ih0, ih1⟩ := terrlaw5_family.mono_l k
  unfold terrlaw5_family.f
  repeat' first
      | (with_reducible exact ih0 _ _ _ _ _ _ _ _ _ _)
      | (with_reducible exact ih1 _ _ _ _ _ _)
      | (with_reducible exact api_TileID.mono _ _ _)
      | (with_reducible exact LeO.refl _)
      | (with_reducible exact LeO.none _)
      | (with_reducible refine LeO.ite ?_ ?_)
      | (with_reducible refine LeO.bind ?_ (fun _ => ?_))
      | exact ih0 _ _ _ _ _ _ _ _ _ _
      | exact ih1 _ _ _ _ _ _
      | exact api_TileID.mono _ _ _
      | exact LeO.none _
      | refine LeO.ite ?_ ?_
      | refine LeO.bind ?_ (fun _ => ?_)
set_option maxHeartbeats 8000000 in
set_option maxRecDepth 100000 in
theorem terrlaw5_family.calls (k : Nat) (a0_0 : Int) (a0_1 : Int) (a0_2 : Int) (a1_0 : Int) (a1_1 : Int) (a1_2 : Int) (a2 : Int) (A3 : Option Addr) (c3 : Nat) (l3 : List (S34)) (a4 : Int) (r : Bool) (w : World) (hr3 : Kd.C k34 w A3 l3.length l3) (hc3 : l3.length ≤ c3) (h : terrlaw5_family.f k a0_0 a0_1 a0_2 a1_0 a1_1 a1_2 a2 l3 a4 = some r) :
    Calls Try.prog 42 #[.agg #[.int .i64 a0_0, .int .i64 a0_1, .int .i64 a0_2], .agg #[.int .i64 a1_0, .int .i64 a1_1, .int .i64 a1_2], .int .i64 a2, .slice A3 l3.length c3, .int .i64 a4] w fun e w' => e = .returned (.bool r) ∧ Below w.heap.size w w' := by
  have hu34 := Try.underlying34
  have HR3 := Aside0.mk hr3
  have HC3 := Aside0.mk hc3
  clear hr3 hc3
  have HB := Aside0.mk (Below.refl w.heap.size w)
  have H : (if a0_0 = 0 then (if a2 = 4 then (terrlaw5_family.j0 k a2 l3 a4 (!(a1_0 == 0) || (!(a1_1 == 0) || (!(a1_2 == 0)))) a0_0 a0_1 a0_2 a1_0 a1_1 a1_2) else (terrlaw5_family.j0 k a2 l3 a4 true a0_0 a0_1 a0_2 a1_0 a1_1 a1_2)) else (terrlaw5_family.j0 k a2 l3 a4 false a0_0 a0_1 a0_2 a1_0 a1_1 a1_2)) = some r := h
  clear h
  have HC6 := Aside0.mk H
  clear H
  go_enter Try.func42, Try.ntmps42
  go_upto_region 1 with (first | ((with_reducible refine gate_dst (N := 5) rfl ?_); (try (refine gate_guard (by rfl) ?_; dsimp only)); refine box_event ?hg (N := 5) ?hd (cs := #[.int .i64 a0_0, .int .i64 a0_1, .int .i64 a0_2]) (t := 34) ?hr ?_; (case hd => rfl); (case hg => rfl); (case hr => first | (go_simp; done) | (go_simp; rfl)); intro gb175 hg w7 hbox hb; have n0_ := Aside0.mk (below_step (by repeat (first | (with_reducible first | exact HB.out | apply below_alloc | apply pw_below_drewN | apply below_drew1) | exact HB.out)) hb); have n1_ := Aside0.mk (hbox); have n2_ := Aside0.mk ((by rw [hg]; exact (below_size (by repeat (first | (with_reducible first | exact HB.out | apply below_alloc | apply pw_below_drewN | apply below_drew1) | exact HB.out))) : w.heap.size ≤ gb175)); have n3_ := Aside0.mk ((by rw [hg]; exact (below_size (by repeat (first | (with_reducible first | exact HB.out | apply below_alloc | apply pw_below_drewN | apply below_drew1) | exact HB.out))) : w.heap.size ≤ gb175)); clear HB; have HB := n0_; have BK175 := n1_; have GW175 := n2_; have GE175 := n3_; clear n0_ n1_ n2_ n3_; clear hb hbox hg) | ((with_reducible refine gate_dst (N := 6) rfl ?_); (try (refine gate_guard (by rfl) ?_; dsimp only)); refine box_event ?hg (N := 6) ?hd (cs := #[.int .i64 a1_0, .int .i64 a1_1, .int .i64 a1_2]) (t := 34) ?hr ?_; (case hd => rfl); (case hg => rfl); (case hr => first | (go_simp; done) | (go_simp; rfl)); intro gb176 hg w8 hbox hb; have n0_ := Aside0.mk (blk_below (g := gb175) (o := .cells #[.int .i64 a0_0, .int .i64 a0_1, .int .i64 a0_2] 34 (0, 0)) (by (with_reducible repeat (first | refine blk_drewN ?_ _ | refine blk_drew ?_ | refine blk_alloc ?_ _)); exact BK175.out) hb); have n1_ := Aside0.mk (below_step (by repeat (first | (with_reducible first | exact HB.out | apply below_alloc | apply pw_below_drewN | apply below_drew1 | refine below_set ?_ GE175.out) | exact HB.out)) hb); have n2_ := Aside0.mk (hbox); have n3_ := Aside0.mk ((by rw [hg]; exact (below_size (by repeat (first | (with_reducible first | exact HB.out | apply below_alloc | apply pw_below_drewN | apply below_drew1 | refine below_set ?_ GE175.out) | exact HB.out))) : w.heap.size ≤ gb176)); have n4_ := Aside0.mk ((by rw [hg]; exact (below_size (by repeat (first | (with_reducible first | exact HB.out | apply below_alloc | apply pw_below_drewN | apply below_drew1 | refine below_set ?_ GE175.out) | exact HB.out))) : w.heap.size ≤ gb176)); have n5_ := Aside0.mk ((by rw [hg]; exact Nat.ne_of_lt (blk_lt (g := gb175) (o := .cells #[.int .i64 a0_0, .int .i64 a0_1, .int .i64 a0_2] 34 (0, 0)) (by (with_reducible repeat (first | refine blk_drewN ?_ _ | refine blk_drew ?_ | refine blk_alloc ?_ _)); exact BK175.out)) : gb175 ≠ gb176)); have n6_ := Aside0.mk ((by rw [hg]; exact Nat.ne_of_gt (blk_lt (g := gb175) (o := .cells #[.int .i64 a0_0, .int .i64 a0_1, .int .i64 a0_2] 34 (0, 0)) (by (with_reducible repeat (first | refine blk_drewN ?_ _ | refine blk_drew ?_ | refine blk_alloc ?_ _)); exact BK175.out)) : gb176 ≠ gb175)); clear BK175; clear HB; have BK175 := n0_; have HB := n1_; have BK176 := n2_; have GW176 := n3_; have GE176 := n4_; have NB175_176 := n5_; have NB176_175 := n6_; clear n0_ n1_ n2_ n3_ n4_ n5_ n6_; clear hb hbox hg))
  repeat (go_quiet (first | ((with_reducible refine gate_dst (N := 5) rfl ?_); (try (refine gate_guard (by rfl) ?_; dsimp only)); refine box_event ?hg (N := 5) ?hd (cs := #[.int .i64 a0_0, .int .i64 a0_1, .int .i64 a0_2]) (t := 34) ?hr ?_; (case hd => rfl); (case hg => rfl); (case hr => first | (go_simp; done) | (go_simp; rfl)); intro gb175 hg w7 hbox hb; have n0_ := Aside0.mk (below_step (by repeat (first | (with_reducible first | exact HB.out | apply below_alloc | apply pw_below_drewN | apply below_drew1) | exact HB.out)) hb); have n1_ := Aside0.mk (hbox); have n2_ := Aside0.mk ((by rw [hg]; exact (below_size (by repeat (first | (with_reducible first | exact HB.out | apply below_alloc | apply pw_below_drewN | apply below_drew1) | exact HB.out))) : w.heap.size ≤ gb175)); have n3_ := Aside0.mk ((by rw [hg]; exact (below_size (by repeat (first | (with_reducible first | exact HB.out | apply below_alloc | apply pw_below_drewN | apply below_drew1) | exact HB.out))) : w.heap.size ≤ gb175)); clear HB; have HB := n0_; have BK175 := n1_; have GW175 := n2_; have GE175 := n3_; clear n0_ n1_ n2_ n3_; clear hb hbox hg) | ((with_reducible refine gate_dst (N := 6) rfl ?_); (try (refine gate_guard (by rfl) ?_; dsimp only)); refine box_event ?hg (N := 6) ?hd (cs := #[.int .i64 a1_0, .int .i64 a1_1, .int .i64 a1_2]) (t := 34) ?hr ?_; (case hd => rfl); (case hg => rfl); (case hr => first | (go_simp; done) | (go_simp; rfl)); intro gb176 hg w8 hbox hb; have n0_ := Aside0.mk (blk_below (g := gb175) (o := .cells #[.int .i64 a0_0, .int .i64 a0_1, .int .i64 a0_2] 34 (0, 0)) (by (with_reducible repeat (first | refine blk_drewN ?_ _ | refine blk_drew ?_ | refine blk_alloc ?_ _)); exact BK175.out) hb); have n1_ := Aside0.mk (below_step (by repeat (first | (with_reducible first | exact HB.out | apply below_alloc | apply pw_below_drewN | apply below_drew1 | refine below_set ?_ GE175.out) | exact HB.out)) hb); have n2_ := Aside0.mk (hbox); have n3_ := Aside0.mk ((by rw [hg]; exact (below_size (by repeat (first | (with_reducible first | exact HB.out | apply below_alloc | apply pw_below_drewN | apply below_drew1 | refine below_set ?_ GE175.out) | exact HB.out))) : w.heap.size ≤ gb176)); have n4_ := Aside0.mk ((by rw [hg]; exact (below_size (by repeat (first | (with_reducible first | exact HB.out | apply below_alloc | apply pw_below_drewN | apply below_drew1 | refine below_set ?_ GE175.out) | exact HB.out))) : w.heap.size ≤ gb176)); have n5_ := Aside0.mk ((by rw [hg]; exact Nat.ne_of_lt (blk_lt (g := gb175) (o := .cells #[.int .i64 a0_0, .int .i64 a0_1, .int .i64 a0_2] 34 (0, 0)) (by (with_reducible repeat (first | refine blk_drewN ?_ _ | refine blk_drew ?_ | refine blk_alloc ?_ _)); exact BK175.out)) : gb175 ≠ gb176)); have n6_ := Aside0.mk ((by rw [hg]; exact Nat.ne_of_gt (blk_lt (g := gb175) (o := .cells #[.int .i64 a0_0, .int .i64 a0_1, .int .i64 a0_2] 34 (0, 0)) (by (with_reducible repeat (first | refine blk_drewN ?_ _ | refine blk_drew ?_ | refine blk_alloc ?_ _)); exact BK175.out)) : gb176 ≠ gb175)); clear BK175; clear HB; have BK175 := n0_; have HB := n1_; have BK176 := n2_; have GW176 := n3_; have GE176 := n4_; have NB175_176 := n5_; have NB176_175 := n6_; clear n0_ n1_ n2_ n3_ n4_ n5_ n6_; clear hb hbox hg)); go_upto_region 1 with (first | ((with_reducible refine gate_dst (N := 5) rfl ?_); (try (refine gate_guard (by rfl) ?_; dsimp only)); refine box_event ?hg (N := 5) ?hd (cs := #[.int .i64 a0_0, .int .i64 a0_1, .int .i64 a0_2]) (t := 34) ?hr ?_; (case hd => rfl); (case hg => rfl); (case hr => first | (go_simp; done) | (go_simp; rfl)); intro gb175 hg w7 hbox hb; have n0_ := Aside0.mk (below_step (by repeat (first | (with_reducible first | exact HB.out | apply below_alloc | apply pw_below_drewN | apply below_drew1) | exact HB.out)) hb); have n1_ := Aside0.mk (hbox); have n2_ := Aside0.mk ((by rw [hg]; exact (below_size (by repeat (first | (with_reducible first | exact HB.out | apply below_alloc | apply pw_below_drewN | apply below_drew1) | exact HB.out))) : w.heap.size ≤ gb175)); have n3_ := Aside0.mk ((by rw [hg]; exact (below_size (by repeat (first | (with_reducible first | exact HB.out | apply below_alloc | apply pw_below_drewN | apply below_drew1) | exact HB.out))) : w.heap.size ≤ gb175)); clear HB; have HB := n0_; have BK175 := n1_; have GW175 := n2_; have GE175 := n3_; clear n0_ n1_ n2_ n3_; clear hb hbox hg) | ((with_reducible refine gate_dst (N := 6) rfl ?_); (try (refine gate_guard (by rfl) ?_; dsimp only)); refine box_event ?hg (N := 6) ?hd (cs := #[.int .i64 a1_0, .int .i64 a1_1, .int .i64 a1_2]) (t := 34) ?hr ?_; (case hd => rfl); (case hg => rfl); (case hr => first | (go_simp; done) | (go_simp; rfl)); intro gb176 hg w8 hbox hb; have n0_ := Aside0.mk (blk_below (g := gb175) (o := .cells #[.int .i64 a0_0, .int .i64 a0_1, .int .i64 a0_2] 34 (0, 0)) (by (with_reducible repeat (first | refine blk_drewN ?_ _ | refine blk_drew ?_ | refine blk_alloc ?_ _)); exact BK175.out) hb); have n1_ := Aside0.mk (below_step (by repeat (first | (with_reducible first | exact HB.out | apply below_alloc | apply pw_below_drewN | apply below_drew1 | refine below_set ?_ GE175.out) | exact HB.out)) hb); have n2_ := Aside0.mk (hbox); have n3_ := Aside0.mk ((by rw [hg]; exact (below_size (by repeat (first | (with_reducible first | exact HB.out | apply below_alloc | apply pw_below_drewN | apply below_drew1 | refine below_set ?_ GE175.out) | exact HB.out))) : w.heap.size ≤ gb176)); have n4_ := Aside0.mk ((by rw [hg]; exact (below_size (by repeat (first | (with_reducible first | exact HB.out | apply below_alloc | apply pw_below_drewN | apply below_drew1 | refine below_set ?_ GE175.out) | exact HB.out))) : w.heap.size ≤ gb176)); have n5_ := Aside0.mk ((by rw [hg]; exact Nat.ne_of_lt (blk_lt (g := gb175) (o := .cells #[.int .i64 a0_0, .int .i64 a0_1, .int .i64 a0_2] 34 (0, 0)) (by (with_reducible repeat (first | refine blk_drewN ?_ _ | refine blk_drew ?_ | refine blk_alloc ?_ _)); exact BK175.out)) : gb175 ≠ gb176)); have n6_ := Aside0.mk ((by rw [hg]; exact Nat.ne_of_gt (blk_lt (g := gb175) (o := .cells #[.int .i64 a0_0, .int .i64 a0_1, .int .i64 a0_2] 34 (0, 0)) (by (with_reducible repeat (first | refine blk_drewN ?_ _ | refine blk_drew ?_ | refine blk_alloc ?_ _)); exact BK175.out)) : gb176 ≠ gb175)); clear BK175; clear HB; have BK175 := n0_; have HB := n1_; have BK176 := n2_; have GW176 := n3_; have GE176 := n4_; have NB175_176 := n5_; have NB176_175 := n6_; clear n0_ n1_ n2_ n3_ n4_ n5_ n6_; clear hb hbox hg)))
  (try simp only [Act.put, List.setIfInBounds_toArray, List.set_cons_zero, List.set_cons_succ])
  go_cut [14] (fun v14 wc => ∃ (kq : Nat) (x14_5 : Bool), v14 = .bool x14_5 ∧ Aside0 (terrlaw5_family.j0 kq a2 l3 a4 x14_5 a0_0 a0_1 a0_2 a1_0 a1_1 a1_2 = some r) ∧ Aside0 (kq ≤ k) ∧ Aside0 (wc.heap[gb175]? = some (.cells #[.int .i64 a0_0, .int .i64 a0_1, .int .i64 a0_2] 34 (0, 0))) ∧ Aside0 (wc.heap[gb176]? = some (.cells #[.int .i64 a1_0, .int .i64 a1_1, .int .i64 a1_2] 34 (0, 0))) ∧ Aside0 (Below w.heap.size w wc))
  case first =>
    have H := HC6.out
    clear HC6
    by_cases c9 : a0_0 = 0
    · rw [if_pos c9] at H
      have c9b0 : (a0_0 == 0) = true := beq_iff_eq.mpr c9
      have c9b1 : (a0_0 != 0) = false := bne_eq_false_iff_eq.mpr c9
      clear c9
      (first | rw [c9b0] | (simp only [i64_w, i32_w]; rw [c9b0]) | skip)
      by_cases c10 : a2 = 4
      · rw [if_pos c10] at H
        have c10b0 : (a2 == 4) = true := beq_iff_eq.mpr c10
        have c10b1 : (a2 != 4) = false := bne_eq_false_iff_eq.mpr c10
        clear c10
        have H' := Aside0.mk H
        clear H
        have hnb11 := NB175_176.out
        have hnc11 := NB176_175.out
        have hcz12_0 : w8.cell? ⟨gb175, 0, none⟩ = some (.int .i64 a0_0) := (blk_cell BK175.out 0).trans rfl
        have hcz12_1 : w8.cell? ⟨gb175, 1, none⟩ = some (.int .i64 a0_1) := (blk_cell BK175.out 1).trans rfl
        have hcz12_2 : w8.cell? ⟨gb175, 2, none⟩ = some (.int .i64 a0_2) := (blk_cell BK175.out 2).trans rfl
        have hfz12_0 := blk_frozen BK175.out 0
        have hfz12_1 := blk_frozen BK175.out 1
        have hfz12_2 := blk_frozen BK175.out 2
        have hcz13_0 : w8.cell? ⟨gb176, 0, none⟩ = some (.int .i64 a1_0) := (blk_cell BK176.out 0).trans rfl
        have hcz13_1 : w8.cell? ⟨gb176, 1, none⟩ = some (.int .i64 a1_1) := (blk_cell BK176.out 1).trans rfl
        have hcz13_2 : w8.cell? ⟨gb176, 2, none⟩ = some (.int .i64 a1_2) := (blk_cell BK176.out 2).trans rfl
        have hfz13_0 := blk_frozen BK176.out 0
        have hfz13_1 := blk_frozen BK176.out 1
        have hfz13_2 := blk_frozen BK176.out 2
        go_wp2
        repeat (go_quiet (fail); try go_wp2)
        go_meet
        case rel => exact ⟨_, ((!(a1_0 == 0) || (!(a1_1 == 0) || (!(a1_2 == 0))))), (by first | rfl | (simp; done) | (simp [*]; done)), H', ⟨by first | omega | exact Nat.le_refl _⟩, ⟨by (with_reducible repeat (first | refine blk_drewN ?_ _ | refine blk_drew ?_ | refine blk_alloc ?_ _)); exact BK175.out⟩, ⟨by (with_reducible repeat (first | refine blk_drewN ?_ _ | refine blk_drew ?_ | refine blk_alloc ?_ _)); exact BK176.out⟩, ⟨by repeat (first | (with_reducible first | exact HB.out | apply below_alloc | apply pw_below_drewN | apply below_drew1 | refine below_set ?_ GE175.out | refine below_set ?_ GE176.out) | exact HB.out)⟩⟩
      · rw [if_neg c10] at H
        have c10b0 : (a2 == 4) = false := beq_eq_false_iff_ne.mpr c10
        have c10b1 : (a2 != 4) = true := bne_iff_ne.mpr c10
        have H' := Aside0.mk H
        clear H
        have hnb14 := NB175_176.out
        have hnc14 := NB176_175.out
        have hcz15_0 : w8.cell? ⟨gb175, 0, none⟩ = some (.int .i64 a0_0) := (blk_cell BK175.out 0).trans rfl
        have hcz15_1 : w8.cell? ⟨gb175, 1, none⟩ = some (.int .i64 a0_1) := (blk_cell BK175.out 1).trans rfl
        have hcz15_2 : w8.cell? ⟨gb175, 2, none⟩ = some (.int .i64 a0_2) := (blk_cell BK175.out 2).trans rfl
        have hfz15_0 := blk_frozen BK175.out 0
        have hfz15_1 := blk_frozen BK175.out 1
        have hfz15_2 := blk_frozen BK175.out 2
        go_wp2
        repeat (go_quiet (fail); try go_wp2)
        go_meet
        case rel => exact ⟨_, (true), (by first | rfl | (simp; done) | (simp [*]; done)), H', ⟨by first | omega | exact Nat.le_refl _⟩, ⟨by (with_reducible repeat (first | refine blk_drewN ?_ _ | refine blk_drew ?_ | refine blk_alloc ?_ _)); exact BK175.out⟩, ⟨by (with_reducible repeat (first | refine blk_drewN ?_ _ | refine blk_drew ?_ | refine blk_alloc ?_ _)); exact BK176.out⟩, ⟨by repeat (first | (with_reducible first | exact HB.out | apply below_alloc | apply pw_below_drewN | apply below_drew1 | refine below_set ?_ GE175.out | refine below_set ?_ GE176.out) | exact HB.out)⟩⟩
    · rw [if_neg c9] at H
      have c9b0 : (a0_0 == 0) = false := beq_eq_false_iff_ne.mpr c9
      have c9b1 : (a0_0 != 0) = true := bne_iff_ne.mpr c9
      (first | rw [c9b0] | (simp only [i64_w, i32_w]; rw [c9b0]) | skip)
      have H' := Aside0.mk H
      clear H
      have hnb16 := NB175_176.out
      have hnc16 := NB176_175.out
      have hcz17_0 : w8.cell? ⟨gb175, 0, none⟩ = some (.int .i64 a0_0) := (blk_cell BK175.out 0).trans rfl
      have hcz17_1 : w8.cell? ⟨gb175, 1, none⟩ = some (.int .i64 a0_1) := (blk_cell BK175.out 1).trans rfl
      have hcz17_2 : w8.cell? ⟨gb175, 2, none⟩ = some (.int .i64 a0_2) := (blk_cell BK175.out 2).trans rfl
      have hfz17_0 := blk_frozen BK175.out 0
      have hfz17_1 := blk_frozen BK175.out 1
      have hfz17_2 := blk_frozen BK175.out 2
      go_wp2
      repeat (go_quiet (fail); try go_wp2)
      go_meet
      case rel => exact ⟨_, (false), (by first | rfl | (simp; done) | (simp [*]; done)), H', ⟨by first | omega | exact Nat.le_refl _⟩, ⟨by (with_reducible repeat (first | refine blk_drewN ?_ _ | refine blk_drew ?_ | refine blk_alloc ?_ _)); exact BK175.out⟩, ⟨by (with_reducible repeat (first | refine blk_drewN ?_ _ | refine blk_drew ?_ | refine blk_alloc ?_ _)); exact BK176.out⟩, ⟨by repeat (first | (with_reducible first | exact HB.out | apply below_alloc | apply pw_below_drewN | apply below_drew1 | refine below_set ?_ GE175.out | refine below_set ?_ GE176.out) | exact HB.out)⟩⟩
  case rest =>
    clear HC6
    try clear c1
    try clear p2
    try clear c3
    try clear c4
    try clear c9
    try clear c9b0
    try clear c9b1
    try clear c10
    try clear c10b0
    try clear c10b1
    try clear c11
    try clear c14
    try clear c16
    try clear hcz12_0
    try clear hcz12_1
    try clear hcz12_2
    try clear hcz13_0
    try clear hcz13_1
    try clear hcz13_2
    try clear hcz15_0
    try clear hcz15_1
    try clear hcz15_2
    try clear hcz17_0
    try clear hcz17_1
    try clear hcz17_2
    try clear hfz12_0
    try clear hfz12_1
    try clear hfz12_2
    try clear hfz13_0
    try clear hfz13_1
    try clear hfz13_2
    try clear hfz15_0
    try clear hfz15_1
    try clear hfz15_2
    try clear hfz17_0
    try clear hfz17_1
    try clear hfz17_2
    obtain ⟨kq, x14_5, rfl, HA, HJ5, BK175, BK176, HB⟩ := hcut
    cases kq with
    | zero => exact absurd HA.out (by simp [terrlaw5_family.j0])
    | succ kj5 =>
      have H := HA.out
      clear HA
      simp only [terrlaw5_family.j0] at H
      by_cases c18 : x14_5 = true
      · subst c18
        have H1 : (some false) = some r := by rw [if_pos rfl] at H; exact H
        clear H
        have H := H1
        clear H1
        obtain rfl := Option.some.inj H
        go_wp2
        repeat (go_quiet (fail); try go_wp2)
        go_ret
        exact ⟨by first | rfl | (simp [errW_none, errW_some] <;> rfl) | (simp [*, errW_none, errW_some] <;> rfl), by repeat (first | (with_reducible first | exact HB.out | apply below_alloc | apply pw_below_drewN | apply below_drew1 | refine below_set ?_ GE175.out | refine below_set ?_ GE176.out) | exact HB.out)⟩
      · replace c18 := Bool.eq_false_iff.mpr c18
        subst c18
        have H1 : (if a0_0 > 0 then (if a2 = 0 then (terrlaw5_family.j1 kj5 l3 a4 (!(a1_0 == (wrap64 (a0_0 - 1))) || (!(a1_1 == (wrap64 (Int.tdiv (wrap64 (a0_1 - (Int.tmod a0_1 2))) 2))) || (!(a1_2 == (wrap64 (Int.tdiv (wrap64 (a0_2 - (Int.tmod a0_2 2))) 2)))))) a0_0 a0_1 a0_2) else (terrlaw5_family.j1 kj5 l3 a4 true a0_0 a0_1 a0_2)) else (terrlaw5_family.j1 kj5 l3 a4 false a0_0 a0_1 a0_2)) = some r := by rw [if_neg (show ¬ (false = true) by decide)] at H; exact H
        clear H
        have H := H1
        clear H1
        have HC19 := Aside0.mk H
        clear H
        go_upto_region 3 with (fail)
        repeat (go_quiet (fail); go_upto_region 3 with (fail))
        go_cut [27] (fun v27 wc => ∃ (kq : Nat) (x27_18 : Bool), v27 = .bool x27_18 ∧ Aside0 (terrlaw5_family.j1 kq l3 a4 x27_18 a0_0 a0_1 a0_2 = some r) ∧ Aside0 (kq ≤ kj5) ∧ Aside0 (wc.heap[gb175]? = some (.cells #[.int .i64 a0_0, .int .i64 a0_1, .int .i64 a0_2] 34 (0, 0))) ∧ Aside0 (wc.heap[gb176]? = some (.cells #[.int .i64 a1_0, .int .i64 a1_1, .int .i64 a1_2] 34 (0, 0))) ∧ Aside0 (Below w.heap.size w wc))
        case first =>
          have H := HC19.out
          clear HC19
          by_cases c20 : a0_0 > 0
          · rw [if_pos c20] at H
            have c20b0 : decide (0 < a0_0) = true := decide_eq_true c20
            clear c20
            (first | rw [c20b0] | (simp only [i64_w, i32_w]; rw [c20b0]) | skip)
            by_cases c21 : a2 = 0
            · rw [if_pos c21] at H
              have c21b0 : (a2 == 0) = true := beq_iff_eq.mpr c21
              have c21b1 : (a2 != 0) = false := bne_eq_false_iff_eq.mpr c21
              clear c21
              have H' := Aside0.mk H
              clear H
              have hnb22 := NB175_176.out
              have hnc22 := NB176_175.out
              have hcz23_0 : wc.cell? ⟨gb175, 0, none⟩ = some (.int .i64 a0_0) := (blk_cell BK175.out 0).trans rfl
              have hcz23_1 : wc.cell? ⟨gb175, 1, none⟩ = some (.int .i64 a0_1) := (blk_cell BK175.out 1).trans rfl
              have hcz23_2 : wc.cell? ⟨gb175, 2, none⟩ = some (.int .i64 a0_2) := (blk_cell BK175.out 2).trans rfl
              have hfz23_0 := blk_frozen BK175.out 0
              have hfz23_1 := blk_frozen BK175.out 1
              have hfz23_2 := blk_frozen BK175.out 2
              have hcz24_0 : wc.cell? ⟨gb176, 0, none⟩ = some (.int .i64 a1_0) := (blk_cell BK176.out 0).trans rfl
              have hcz24_1 : wc.cell? ⟨gb176, 1, none⟩ = some (.int .i64 a1_1) := (blk_cell BK176.out 1).trans rfl
              have hcz24_2 : wc.cell? ⟨gb176, 2, none⟩ = some (.int .i64 a1_2) := (blk_cell BK176.out 2).trans rfl
              have hfz24_0 := blk_frozen BK176.out 0
              have hfz24_1 := blk_frozen BK176.out 1
              have hfz24_2 := blk_frozen BK176.out 2
              go_wp2
              repeat (go_quiet (fail); try go_wp2)
              go_meet
              case rel => exact ⟨_, ((!(a1_0 == (wrap64 (a0_0 - 1))) || (!(a1_1 == (wrap64 (Int.tdiv (wrap64 (a0_1 - (Int.tmod a0_1 2))) 2))) || (!(a1_2 == (wrap64 (Int.tdiv (wrap64 (a0_2 - (Int.tmod a0_2 2))) 2))))))), (by first | rfl | (simp; done) | (simp [*]; done)), H', ⟨by have := HJ5.out; first | omega | exact Nat.le_refl _⟩, ⟨by (with_reducible repeat (first | refine blk_drewN ?_ _ | refine blk_drew ?_ | refine blk_alloc ?_ _)); exact BK175.out⟩, ⟨by (with_reducible repeat (first | refine blk_drewN ?_ _ | refine blk_drew ?_ | refine blk_alloc ?_ _)); exact BK176.out⟩, ⟨by repeat (first | (with_reducible first | exact HB.out | apply below_alloc | apply pw_below_drewN | apply below_drew1 | refine below_set ?_ GE175.out | refine below_set ?_ GE176.out) | exact HB.out)⟩⟩
            · rw [if_neg c21] at H
              have c21b0 : (a2 == 0) = false := beq_eq_false_iff_ne.mpr c21
              have c21b1 : (a2 != 0) = true := bne_iff_ne.mpr c21
              have H' := Aside0.mk H
              clear H
              have hnb25 := NB175_176.out
              have hnc25 := NB176_175.out
              have hcz26_0 : wc.cell? ⟨gb175, 0, none⟩ = some (.int .i64 a0_0) := (blk_cell BK175.out 0).trans rfl
              have hcz26_1 : wc.cell? ⟨gb175, 1, none⟩ = some (.int .i64 a0_1) := (blk_cell BK175.out 1).trans rfl
              have hcz26_2 : wc.cell? ⟨gb175, 2, none⟩ = some (.int .i64 a0_2) := (blk_cell BK175.out 2).trans rfl
              have hfz26_0 := blk_frozen BK175.out 0
              have hfz26_1 := blk_frozen BK175.out 1
              have hfz26_2 := blk_frozen BK175.out 2
              go_wp2
              repeat (go_quiet (fail); try go_wp2)
              go_meet
              case rel => exact ⟨_, (true), (by first | rfl | (simp; done) | (simp [*]; done)), H', ⟨by have := HJ5.out; first | omega | exact Nat.le_refl _⟩, ⟨by (with_reducible repeat (first | refine blk_drewN ?_ _ | refine blk_drew ?_ | refine blk_alloc ?_ _)); exact BK175.out⟩, ⟨by (with_reducible repeat (first | refine blk_drewN ?_ _ | refine blk_drew ?_ | refine blk_alloc ?_ _)); exact BK176.out⟩, ⟨by repeat (first | (with_reducible first | exact HB.out | apply below_alloc | apply pw_below_drewN | apply below_drew1 | refine below_set ?_ GE175.out | refine below_set ?_ GE176.out) | exact HB.out)⟩⟩
          · rw [if_neg c20] at H
            have c20b0 : decide (0 < a0_0) = false := decide_eq_false c20
            clear c20
            (first | rw [c20b0] | (simp only [i64_w, i32_w]; rw [c20b0]) | skip)
            have H' := Aside0.mk H
            clear H
            have hnb27 := NB175_176.out
            have hnc27 := NB176_175.out
            have hcz28_0 : wc.cell? ⟨gb175, 0, none⟩ = some (.int .i64 a0_0) := (blk_cell BK175.out 0).trans rfl
            have hcz28_1 : wc.cell? ⟨gb175, 1, none⟩ = some (.int .i64 a0_1) := (blk_cell BK175.out 1).trans rfl
            have hcz28_2 : wc.cell? ⟨gb175, 2, none⟩ = some (.int .i64 a0_2) := (blk_cell BK175.out 2).trans rfl
            have hfz28_0 := blk_frozen BK175.out 0
            have hfz28_1 := blk_frozen BK175.out 1
            have hfz28_2 := blk_frozen BK175.out 2
            go_wp2
            repeat (go_quiet (fail); try go_wp2)
            go_meet
            case rel => exact ⟨_, (false), (by first | rfl | (simp; done) | (simp [*]; done)), H', ⟨by have := HJ5.out; first | omega | exact Nat.le_refl _⟩, ⟨by (with_reducible repeat (first | refine blk_drewN ?_ _ | refine blk_drew ?_ | refine blk_alloc ?_ _)); exact BK175.out⟩, ⟨by (with_reducible repeat (first | refine blk_drewN ?_ _ | refine blk_drew ?_ | refine blk_alloc ?_ _)); exact BK176.out⟩, ⟨by repeat (first | (with_reducible first | exact HB.out | apply below_alloc | apply pw_below_drewN | apply below_drew1 | refine below_set ?_ GE175.out | refine below_set ?_ GE176.out) | exact HB.out)⟩⟩
        case rest =>
          clear HC19
          try clear c1
          try clear c2
          try clear p2
          try clear c3
          try clear c4
          try clear p6
          try clear c9
          try clear c9b0
          try clear c9b1
          try clear c10
          try clear c10b0
          try clear c10b1
          try clear c11
          try clear c14
          try clear c16
          try clear c18
          try clear c20
          try clear c20b0
          try clear c21
          try clear c21b0
          try clear c21b1
          try clear c22
          try clear c25
          try clear c27
          try clear hcz12_0
          try clear hcz12_1
          try clear hcz12_2
          try clear hcz13_0
          try clear hcz13_1
          try clear hcz13_2
          try clear hcz15_0
          try clear hcz15_1
          try clear hcz15_2
          try clear hcz17_0
          try clear hcz17_1
          try clear hcz17_2
          try clear hcz23_0
          try clear hcz23_1
          try clear hcz23_2
          try clear hcz24_0
          try clear hcz24_1
          try clear hcz24_2
          try clear hcz26_0
          try clear hcz26_1
          try clear hcz26_2
          try clear hcz28_0
          try clear hcz28_1
          try clear hcz28_2
          try clear hfz12_0
          try clear hfz12_1
          try clear hfz12_2
          try clear hfz13_0
          try clear hfz13_1
          try clear hfz13_2
          try clear hfz15_0
          try clear hfz15_1
          try clear hfz15_2
          try clear hfz17_0
          try clear hfz17_1
          try clear hfz17_2
          try clear hfz23_0
          try clear hfz23_1
          try clear hfz23_2
          try clear hfz24_0
          try clear hfz24_1
          try clear hfz24_2
          try clear hfz26_0
          try clear hfz26_1
          try clear hfz26_2
          try clear hfz28_0
          try clear hfz28_1
          try clear hfz28_2
          try clear p2
          obtain ⟨kq, x27_18, rfl, HA, HJ18, BK175, BK176, HB⟩ := hcut
          cases kq with
          | zero => exact absurd HA.out (by simp [terrlaw5_family.j1])
          | succ kj18 =>
            have H := HA.out
            clear HA
            simp only [terrlaw5_family.j1] at H
            by_cases c29 : x27_18 = true
            · subst c29
              have H1 : (some false) = some r := by rw [if_pos rfl] at H; exact H
              clear H
              have H := H1
              clear H1
              obtain rfl := Option.some.inj H
              go_wp2
              repeat (go_quiet (fail); try go_wp2)
              go_ret
              exact ⟨by first | rfl | (simp [errW_none, errW_some] <;> rfl) | (simp [*, errW_none, errW_some] <;> rfl), by repeat (first | (with_reducible first | exact HB.out | apply below_alloc | apply pw_below_drewN | apply below_drew1 | refine below_set ?_ GE175.out | refine below_set ?_ GE176.out) | exact HB.out)⟩
            · replace c29 := Bool.eq_false_iff.mpr c29
              subst c29
              have H1 : (if a0_0 = 10 then (if a4 = 4 then (some ((l3.length : Int) == 0)) else (some false)) else (if a4 = 0 then ((api_TileID.f kj18 l3 (([(⟨wrap64 (a0_0 + 1), wrap64 (2 * a0_1), wrap64 (2 * a0_2)⟩ : S34), (⟨wrap64 (a0_0 + 1), wrap64 ((wrap64 (2 * a0_1)) + 1), wrap64 (2 * a0_2)⟩ : S34), (⟨wrap64 (a0_0 + 1), wrap64 (2 * a0_1), wrap64 ((wrap64 (2 * a0_2)) + 1)⟩ : S34), (⟨wrap64 (a0_0 + 1), wrap64 ((wrap64 (2 * a0_1)) + 1), wrap64 ((wrap64 (2 * a0_2)) + 1)⟩ : S34)] : List (S34)))).bind fun t180 => (some t180)) else (some false))) = some r := by rw [if_neg (show ¬ (false = true) by decide)] at H; exact H
              clear H
              have H := H1
              clear H1
              by_cases c30 : a0_0 = 10
              · rw [if_pos c30] at H
                have c30b0 : (a0_0 == 10) = true := beq_iff_eq.mpr c30
                have c30b1 : (a0_0 != 10) = false := bne_eq_false_iff_eq.mpr c30
                clear c30
                by_cases c31 : a4 = 4
                · rw [if_pos c31] at H
                  have c31b0 : (a4 == 4) = true := beq_iff_eq.mpr c31
                  have c31b1 : (a4 != 4) = false := bne_eq_false_iff_eq.mpr c31
                  clear c31
                  obtain rfl := Option.some.inj H
                  have hnb32 := NB175_176.out
                  have hnc32 := NB176_175.out
                  have hcz33_0 : wc.cell? ⟨gb175, 0, none⟩ = some (.int .i64 a0_0) := (blk_cell BK175.out 0).trans rfl
                  have hcz33_1 : wc.cell? ⟨gb175, 1, none⟩ = some (.int .i64 a0_1) := (blk_cell BK175.out 1).trans rfl
                  have hcz33_2 : wc.cell? ⟨gb175, 2, none⟩ = some (.int .i64 a0_2) := (blk_cell BK175.out 2).trans rfl
                  have hfz33_0 := blk_frozen BK175.out 0
                  have hfz33_1 := blk_frozen BK175.out 1
                  have hfz33_2 := blk_frozen BK175.out 2
                  go_wp2
                  repeat (go_quiet (fail); try go_wp2)
                  go_ret
                  exact ⟨by first | rfl | (simp [errW_none, errW_some] <;> rfl) | (simp [*, errW_none, errW_some] <;> rfl), by repeat (first | (with_reducible first | exact HB.out | apply below_alloc | apply pw_below_drewN | apply below_drew1 | refine below_set ?_ GE175.out | refine below_set ?_ GE176.out) | exact HB.out)⟩
                · rw [if_neg c31] at H
                  have c31b0 : (a4 == 4) = false := beq_eq_false_iff_ne.mpr c31
                  have c31b1 : (a4 != 4) = true := bne_iff_ne.mpr c31
                  obtain rfl := Option.some.inj H
                  have hnb34 := NB175_176.out
                  have hnc34 := NB176_175.out
                  have hcz35_0 : wc.cell? ⟨gb175, 0, none⟩ = some (.int .i64 a0_0) := (blk_cell BK175.out 0).trans rfl
                  have hcz35_1 : wc.cell? ⟨gb175, 1, none⟩ = some (.int .i64 a0_1) := (blk_cell BK175.out 1).trans rfl
                  have hcz35_2 : wc.cell? ⟨gb175, 2, none⟩ = some (.int .i64 a0_2) := (blk_cell BK175.out 2).trans rfl
                  have hfz35_0 := blk_frozen BK175.out 0
                  have hfz35_1 := blk_frozen BK175.out 1
                  have hfz35_2 := blk_frozen BK175.out 2
                  go_wp2
                  repeat (go_quiet (fail); try go_wp2)
                  go_ret
                  exact ⟨by first | rfl | (simp [errW_none, errW_some] <;> rfl) | (simp [*, errW_none, errW_some] <;> rfl), by repeat (first | (with_reducible first | exact HB.out | apply below_alloc | apply pw_below_drewN | apply below_drew1 | refine below_set ?_ GE175.out | refine below_set ?_ GE176.out) | exact HB.out)⟩
              · rw [if_neg c30] at H
                have c30b0 : (a0_0 == 10) = false := beq_eq_false_iff_ne.mpr c30
                have c30b1 : (a0_0 != 10) = true := bne_iff_ne.mpr c30
                by_cases c36 : a4 = 0
                · rw [if_pos c36] at H
                  have c36b0 : (a4 == 0) = true := beq_iff_eq.mpr c36
                  have c36b1 : (a4 != 0) = false := bne_eq_false_iff_eq.mpr c36
                  clear c36
                  obtain ⟨y177, hy177⟩ : ∃ y_ : List (S34), y_ = (([(⟨wrap64 (a0_0 + 1), wrap64 (2 * a0_1), wrap64 (2 * a0_2)⟩ : S34), (⟨wrap64 (a0_0 + 1), wrap64 ((wrap64 (2 * a0_1)) + 1), wrap64 (2 * a0_2)⟩ : S34), (⟨wrap64 (a0_0 + 1), wrap64 (2 * a0_1), wrap64 ((wrap64 (2 * a0_2)) + 1)⟩ : S34), (⟨wrap64 (a0_0 + 1), wrap64 ((wrap64 (2 * a0_1)) + 1), wrap64 ((wrap64 (2 * a0_2)) + 1)⟩ : S34)] : List (S34))) := ⟨_, rfl⟩
                  replace H : ((api_TileID.f kj18 l3 y177).bind fun t180 => (some t180)) = some r := by first | (rw [hy177]; with_reducible exact H) | (have H2_ := (Option.bind_some _ _).symm.trans H; rw [hy177]; with_reducible exact H2_) | (have H2_ := (Option.bind_some _ _).symm.trans H; with_reducible exact H2_) | with_reducible exact H | (rw [hy177]; exact H) | exact H
                  have Ny177 := Aside0.mk hy177
                  clear hy177
                  replace H := Option.bind_eq_some_iff.mp H
                  obtain ⟨t180, A370, H⟩ := H
                  replace H : (some t180) = some r := H
                  have A37 := Aside0.mk A370
                  clear A370
                  obtain rfl := Option.some.inj H
                  have hnb38 := NB175_176.out
                  have hnc38 := NB176_175.out
                  have hcz39_0 : wc.cell? ⟨gb175, 0, none⟩ = some (.int .i64 a0_0) := (blk_cell BK175.out 0).trans rfl
                  have hcz39_1 : wc.cell? ⟨gb175, 1, none⟩ = some (.int .i64 a0_1) := (blk_cell BK175.out 1).trans rfl
                  have hcz39_2 : wc.cell? ⟨gb175, 2, none⟩ = some (.int .i64 a0_2) := (blk_cell BK175.out 2).trans rfl
                  have hfz39_0 := blk_frozen BK175.out 0
                  have hfz39_1 := blk_frozen BK175.out 1
                  have hfz39_2 := blk_frozen BK175.out 2
                  go_wp2_with (first | ((with_reducible refine gate_dst (N := 100) rfl ?_); (try (refine gate_guard (by rfl) ?_; dsimp only)); refine Kd.R_lit k34 _ 34 ?hg (N := 100) ?hd (xs := ([(⟨wrap64 (a0_0 + 1), wrap64 (2 * a0_1), wrap64 (2 * a0_2)⟩ : S34), (⟨wrap64 (a0_0 + 1), wrap64 ((wrap64 (2 * a0_1)) + 1), wrap64 (2 * a0_2)⟩ : S34), (⟨wrap64 (a0_0 + 1), wrap64 (2 * a0_1), wrap64 ((wrap64 (2 * a0_2)) + 1)⟩ : S34), (⟨wrap64 (a0_0 + 1), wrap64 ((wrap64 (2 * a0_1)) + 1), wrap64 ((wrap64 (2 * a0_2)) + 1)⟩ : S34)] : List (S34))) (inner := [.int .i64 (wrap64 (a0_0 + 1)), .int .i64 (wrap64 (2 * a0_1)), .int .i64 (wrap64 (2 * a0_2)), .int .i64 (wrap64 (a0_0 + 1)), .int .i64 (wrap64 ((wrap64 (2 * a0_1)) + 1)), .int .i64 (wrap64 (2 * a0_2)), .int .i64 (wrap64 (a0_0 + 1)), .int .i64 (wrap64 (2 * a0_1)), .int .i64 (wrap64 ((wrap64 (2 * a0_2)) + 1)), .int .i64 (wrap64 (a0_0 + 1)), .int .i64 (wrap64 ((wrap64 (2 * a0_1)) + 1)), .int .i64 (wrap64 ((wrap64 (2 * a0_2)) + 1))]) (ok := fun _ => True) (okp := fun _ => True) ?hr ?hp (fun _ hk => hk) trivial (Below.refl _ _) (Nat.le_refl _) (by simp) ?_; (case hd => rfl); (case hg => rfl); (case hr => first | (go_simp; done) | (go_simp; rfl)); (case hp => exact (Reps.c3 (show Kd.M k34 _ _ _ (⟨wrap64 (a0_0 + 1), wrap64 (2 * a0_1), wrap64 (2 * a0_2)⟩ : S34) [.int .i64 (wrap64 (a0_0 + 1)), .int .i64 (wrap64 (2 * a0_1)), .int .i64 (wrap64 (2 * a0_2))] from (k34_mkM _ _ _ (⟨wrap64 (a0_0 + 1), wrap64 (2 * a0_1), wrap64 (2 * a0_2)⟩ : S34) )) (Reps.c3 (show Kd.M k34 _ _ _ (⟨wrap64 (a0_0 + 1), wrap64 ((wrap64 (2 * a0_1)) + 1), wrap64 (2 * a0_2)⟩ : S34) [.int .i64 (wrap64 (a0_0 + 1)), .int .i64 (wrap64 ((wrap64 (2 * a0_1)) + 1)), .int .i64 (wrap64 (2 * a0_2))] from (k34_mkM _ _ _ (⟨wrap64 (a0_0 + 1), wrap64 ((wrap64 (2 * a0_1)) + 1), wrap64 (2 * a0_2)⟩ : S34) )) (Reps.c3 (show Kd.M k34 _ _ _ (⟨wrap64 (a0_0 + 1), wrap64 (2 * a0_1), wrap64 ((wrap64 (2 * a0_2)) + 1)⟩ : S34) [.int .i64 (wrap64 (a0_0 + 1)), .int .i64 (wrap64 (2 * a0_1)), .int .i64 (wrap64 ((wrap64 (2 * a0_2)) + 1))] from (k34_mkM _ _ _ (⟨wrap64 (a0_0 + 1), wrap64 (2 * a0_1), wrap64 ((wrap64 (2 * a0_2)) + 1)⟩ : S34) )) (Reps.c3 (show Kd.M k34 _ _ _ (⟨wrap64 (a0_0 + 1), wrap64 ((wrap64 (2 * a0_1)) + 1), wrap64 ((wrap64 (2 * a0_2)) + 1)⟩ : S34) [.int .i64 (wrap64 (a0_0 + 1)), .int .i64 (wrap64 ((wrap64 (2 * a0_1)) + 1)), .int .i64 (wrap64 ((wrap64 (2 * a0_2)) + 1))] from (k34_mkM _ _ _ (⟨wrap64 (a0_0 + 1), wrap64 ((wrap64 (2 * a0_1)) + 1), wrap64 ((wrap64 (2 * a0_2)) + 1)⟩ : S34) )) (Reps.none _ _)))))); intro v178 w40 ho41 hb hg_ hnew_; clear hg_ hnew_; (first | rw [← Ny177.out] at ho41 | (simp only [Int.reduceToNat] at ho41; rw [← Ny177.out] at ho41)); have n0_ := Aside0.mk (Kd.R_lower (Kd.R_newB (Kd.R_newB ho41 (g := gb175) (o := .cells #[.int .i64 a0_0, .int .i64 a0_1, .int .i64 a0_2] 34 (0, 0)) (by (with_reducible repeat (first | refine blk_drewN ?_ _ | refine blk_drew ?_ | refine blk_alloc ?_ _)); exact BK175.out)) (g := gb176) (o := .cells #[.int .i64 a1_0, .int .i64 a1_1, .int .i64 a1_2] 34 (0, 0)) (by (with_reducible repeat (first | refine blk_drewN ?_ _ | refine blk_drew ?_ | refine blk_alloc ?_ _)); exact BK176.out)) (below_size (by repeat (first | (with_reducible first | exact HB.out | apply below_alloc | apply pw_below_drewN | apply below_drew1 | refine below_set ?_ GE175.out | refine below_set ?_ GE176.out) | exact HB.out)))); have n1_ := Aside0.mk (blk_below (g := gb175) (o := .cells #[.int .i64 a0_0, .int .i64 a0_1, .int .i64 a0_2] 34 (0, 0)) (by (with_reducible repeat (first | refine blk_drewN ?_ _ | refine blk_drew ?_ | refine blk_alloc ?_ _)); exact BK175.out) hb); have n2_ := Aside0.mk (blk_below (g := gb176) (o := .cells #[.int .i64 a1_0, .int .i64 a1_1, .int .i64 a1_2] 34 (0, 0)) (by (with_reducible repeat (first | refine blk_drewN ?_ _ | refine blk_drew ?_ | refine blk_alloc ?_ _)); exact BK176.out) hb); have n3_ := Aside0.mk (below_step (by repeat (first | (with_reducible first | exact HB.out | apply below_alloc | apply pw_below_drewN | apply below_drew1 | refine below_set ?_ GE175.out | refine below_set ?_ GE176.out) | exact HB.out)) hb); clear BK175; clear BK176; clear HB; have HO179 := n0_; have BK175 := n1_; have BK176 := n2_; have HB := n3_; clear n0_ n1_ n2_ n3_; clear hb ho41; obtain ⟨Ao42, co42, eo42⟩ := Kd.R_slice HO179.out; subst eo42) | (go_at_call 45; (with_reducible refine (api_TileID.calls kj18 _ _ l3 _ _ y177 t180 _ ?side1 ?side2 ?side3 ?side4 A37.out).mono ?_); (case side1 => repeat (first | exact (Kd.C_below HR3.out HB.out) | (with_reducible refine Kd.C_alloc ?_ _) | (with_reducible refine Kd.C_drewN ?_ _) | (with_reducible refine Kd.C_drew ?_))); (case side2 => exact HC3.out); (case side3 => repeat (first | exact (Kd.R_reads' HO179.out).2.2 | (with_reducible refine Kd.C_alloc ?_ _) | (with_reducible refine Kd.C_drewN ?_ _) | (with_reducible refine Kd.C_drew ?_))); (case side4 => exact (Kd.R_reads' HO179.out).2.1); rintro e w' ⟨rfl, ⟨nd, rfl⟩⟩; (try first | exact ⟨rfl, _, World.drewN_drewN _ _ _⟩ | exact ⟨rfl, _, Eq.trans (World.drewN_drewN _ _ _) (congrArg (World.drewN _) (Nat.add_assoc _ _ _))⟩)))
                  repeat (go_quiet (first | ((with_reducible refine gate_dst (N := 100) rfl ?_); (try (refine gate_guard (by rfl) ?_; dsimp only)); refine Kd.R_lit k34 _ 34 ?hg (N := 100) ?hd (xs := ([(⟨wrap64 (a0_0 + 1), wrap64 (2 * a0_1), wrap64 (2 * a0_2)⟩ : S34), (⟨wrap64 (a0_0 + 1), wrap64 ((wrap64 (2 * a0_1)) + 1), wrap64 (2 * a0_2)⟩ : S34), (⟨wrap64 (a0_0 + 1), wrap64 (2 * a0_1), wrap64 ((wrap64 (2 * a0_2)) + 1)⟩ : S34), (⟨wrap64 (a0_0 + 1), wrap64 ((wrap64 (2 * a0_1)) + 1), wrap64 ((wrap64 (2 * a0_2)) + 1)⟩ : S34)] : List (S34))) (inner := [.int .i64 (wrap64 (a0_0 + 1)), .int .i64 (wrap64 (2 * a0_1)), .int .i64 (wrap64 (2 * a0_2)), .int .i64 (wrap64 (a0_0 + 1)), .int .i64 (wrap64 ((wrap64 (2 * a0_1)) + 1)), .int .i64 (wrap64 (2 * a0_2)), .int .i64 (wrap64 (a0_0 + 1)), .int .i64 (wrap64 (2 * a0_1)), .int .i64 (wrap64 ((wrap64 (2 * a0_2)) + 1)), .int .i64 (wrap64 (a0_0 + 1)), .int .i64 (wrap64 ((wrap64 (2 * a0_1)) + 1)), .int .i64 (wrap64 ((wrap64 (2 * a0_2)) + 1))]) (ok := fun _ => True) (okp := fun _ => True) ?hr ?hp (fun _ hk => hk) trivial (Below.refl _ _) (Nat.le_refl _) (by simp) ?_; (case hd => rfl); (case hg => rfl); (case hr => first | (go_simp; done) | (go_simp; rfl)); (case hp => exact (Reps.c3 (show Kd.M k34 _ _ _ (⟨wrap64 (a0_0 + 1), wrap64 (2 * a0_1), wrap64 (2 * a0_2)⟩ : S34) [.int .i64 (wrap64 (a0_0 + 1)), .int .i64 (wrap64 (2 * a0_1)), .int .i64 (wrap64 (2 * a0_2))] from (k34_mkM _ _ _ (⟨wrap64 (a0_0 + 1), wrap64 (2 * a0_1), wrap64 (2 * a0_2)⟩ : S34) )) (Reps.c3 (show Kd.M k34 _ _ _ (⟨wrap64 (a0_0 + 1), wrap64 ((wrap64 (2 * a0_1)) + 1), wrap64 (2 * a0_2)⟩ : S34) [.int .i64 (wrap64 (a0_0 + 1)), .int .i64 (wrap64 ((wrap64 (2 * a0_1)) + 1)), .int .i64 (wrap64 (2 * a0_2))] from (k34_mkM _ _ _ (⟨wrap64 (a0_0 + 1), wrap64 ((wrap64 (2 * a0_1)) + 1), wrap64 (2 * a0_2)⟩ : S34) )) (Reps.c3 (show Kd.M k34 _ _ _ (⟨wrap64 (a0_0 + 1), wrap64 (2 * a0_1), wrap64 ((wrap64 (2 * a0_2)) + 1)⟩ : S34) [.int .i64 (wrap64 (a0_0 + 1)), .int .i64 (wrap64 (2 * a0_1)), .int .i64 (wrap64 ((wrap64 (2 * a0_2)) + 1))] from (k34_mkM _ _ _ (⟨wrap64 (a0_0 + 1), wrap64 (2 * a0_1), wrap64 ((wrap64 (2 * a0_2)) + 1)⟩ : S34) )) (Reps.c3 (show Kd.M k34 _ _ _ (⟨wrap64 (a0_0 + 1), wrap64 ((wrap64 (2 * a0_1)) + 1), wrap64 ((wrap64 (2 * a0_2)) + 1)⟩ : S34) [.int .i64 (wrap64 (a0_0 + 1)), .int .i64 (wrap64 ((wrap64 (2 * a0_1)) + 1)), .int .i64 (wrap64 ((wrap64 (2 * a0_2)) + 1))] from (k34_mkM _ _ _ (⟨wrap64 (a0_0 + 1), wrap64 ((wrap64 (2 * a0_1)) + 1), wrap64 ((wrap64 (2 * a0_2)) + 1)⟩ : S34) )) (Reps.none _ _)))))); intro v178 w40 ho41 hb hg_ hnew_; clear hg_ hnew_; (first | rw [← Ny177.out] at ho41 | (simp only [Int.reduceToNat] at ho41; rw [← Ny177.out] at ho41)); have n0_ := Aside0.mk (Kd.R_lower (Kd.R_newB (Kd.R_newB ho41 (g := gb175) (o := .cells #[.int .i64 a0_0, .int .i64 a0_1, .int .i64 a0_2] 34 (0, 0)) (by (with_reducible repeat (first | refine blk_drewN ?_ _ | refine blk_drew ?_ | refine blk_alloc ?_ _)); exact BK175.out)) (g := gb176) (o := .cells #[.int .i64 a1_0, .int .i64 a1_1, .int .i64 a1_2] 34 (0, 0)) (by (with_reducible repeat (first | refine blk_drewN ?_ _ | refine blk_drew ?_ | refine blk_alloc ?_ _)); exact BK176.out)) (below_size (by repeat (first | (with_reducible first | exact HB.out | apply below_alloc | apply pw_below_drewN | apply below_drew1 | refine below_set ?_ GE175.out | refine below_set ?_ GE176.out) | exact HB.out)))); have n1_ := Aside0.mk (blk_below (g := gb175) (o := .cells #[.int .i64 a0_0, .int .i64 a0_1, .int .i64 a0_2] 34 (0, 0)) (by (with_reducible repeat (first | refine blk_drewN ?_ _ | refine blk_drew ?_ | refine blk_alloc ?_ _)); exact BK175.out) hb); have n2_ := Aside0.mk (blk_below (g := gb176) (o := .cells #[.int .i64 a1_0, .int .i64 a1_1, .int .i64 a1_2] 34 (0, 0)) (by (with_reducible repeat (first | refine blk_drewN ?_ _ | refine blk_drew ?_ | refine blk_alloc ?_ _)); exact BK176.out) hb); have n3_ := Aside0.mk (below_step (by repeat (first | (with_reducible first | exact HB.out | apply below_alloc | apply pw_below_drewN | apply below_drew1 | refine below_set ?_ GE175.out | refine below_set ?_ GE176.out) | exact HB.out)) hb); clear BK175; clear BK176; clear HB; have HO179 := n0_; have BK175 := n1_; have BK176 := n2_; have HB := n3_; clear n0_ n1_ n2_ n3_; clear hb ho41; obtain ⟨Ao42, co42, eo42⟩ := Kd.R_slice HO179.out; subst eo42) | (go_at_call 45; (with_reducible refine (api_TileID.calls kj18 _ _ l3 _ _ y177 t180 _ ?side1 ?side2 ?side3 ?side4 A37.out).mono ?_); (case side1 => repeat (first | exact (Kd.C_below HR3.out HB.out) | (with_reducible refine Kd.C_alloc ?_ _) | (with_reducible refine Kd.C_drewN ?_ _) | (with_reducible refine Kd.C_drew ?_))); (case side2 => exact HC3.out); (case side3 => repeat (first | exact (Kd.R_reads' HO179.out).2.2 | (with_reducible refine Kd.C_alloc ?_ _) | (with_reducible refine Kd.C_drewN ?_ _) | (with_reducible refine Kd.C_drew ?_))); (case side4 => exact (Kd.R_reads' HO179.out).2.1); rintro e w' ⟨rfl, ⟨nd, rfl⟩⟩; (try first | exact ⟨rfl, _, World.drewN_drewN _ _ _⟩ | exact ⟨rfl, _, Eq.trans (World.drewN_drewN _ _ _) (congrArg (World.drewN _) (Nat.add_assoc _ _ _))⟩))); try go_wp2_with (first | ((with_reducible refine gate_dst (N := 100) rfl ?_); (try (refine gate_guard (by rfl) ?_; dsimp only)); refine Kd.R_lit k34 _ 34 ?hg (N := 100) ?hd (xs := ([(⟨wrap64 (a0_0 + 1), wrap64 (2 * a0_1), wrap64 (2 * a0_2)⟩ : S34), (⟨wrap64 (a0_0 + 1), wrap64 ((wrap64 (2 * a0_1)) + 1), wrap64 (2 * a0_2)⟩ : S34), (⟨wrap64 (a0_0 + 1), wrap64 (2 * a0_1), wrap64 ((wrap64 (2 * a0_2)) + 1)⟩ : S34), (⟨wrap64 (a0_0 + 1), wrap64 ((wrap64 (2 * a0_1)) + 1), wrap64 ((wrap64 (2 * a0_2)) + 1)⟩ : S34)] : List (S34))) (inner := [.int .i64 (wrap64 (a0_0 + 1)), .int .i64 (wrap64 (2 * a0_1)), .int .i64 (wrap64 (2 * a0_2)), .int .i64 (wrap64 (a0_0 + 1)), .int .i64 (wrap64 ((wrap64 (2 * a0_1)) + 1)), .int .i64 (wrap64 (2 * a0_2)), .int .i64 (wrap64 (a0_0 + 1)), .int .i64 (wrap64 (2 * a0_1)), .int .i64 (wrap64 ((wrap64 (2 * a0_2)) + 1)), .int .i64 (wrap64 (a0_0 + 1)), .int .i64 (wrap64 ((wrap64 (2 * a0_1)) + 1)), .int .i64 (wrap64 ((wrap64 (2 * a0_2)) + 1))]) (ok := fun _ => True) (okp := fun _ => True) ?hr ?hp (fun _ hk => hk) trivial (Below.refl _ _) (Nat.le_refl _) (by simp) ?_; (case hd => rfl); (case hg => rfl); (case hr => first | (go_simp; done) | (go_simp; rfl)); (case hp => exact (Reps.c3 (show Kd.M k34 _ _ _ (⟨wrap64 (a0_0 + 1), wrap64 (2 * a0_1), wrap64 (2 * a0_2)⟩ : S34) [.int .i64 (wrap64 (a0_0 + 1)), .int .i64 (wrap64 (2 * a0_1)), .int .i64 (wrap64 (2 * a0_2))] from (k34_mkM _ _ _ (⟨wrap64 (a0_0 + 1), wrap64 (2 * a0_1), wrap64 (2 * a0_2)⟩ : S34) )) (Reps.c3 (show Kd.M k34 _ _ _ (⟨wrap64 (a0_0 + 1), wrap64 ((wrap64 (2 * a0_1)) + 1), wrap64 (2 * a0_2)⟩ : S34) [.int .i64 (wrap64 (a0_0 + 1)), .int .i64 (wrap64 ((wrap64 (2 * a0_1)) + 1)), .int .i64 (wrap64 (2 * a0_2))] from (k34_mkM _ _ _ (⟨wrap64 (a0_0 + 1), wrap64 ((wrap64 (2 * a0_1)) + 1), wrap64 (2 * a0_2)⟩ : S34) )) (Reps.c3 (show Kd.M k34 _ _ _ (⟨wrap64 (a0_0 + 1), wrap64 (2 * a0_1), wrap64 ((wrap64 (2 * a0_2)) + 1)⟩ : S34) [.int .i64 (wrap64 (a0_0 + 1)), .int .i64 (wrap64 (2 * a0_1)), .int .i64 (wrap64 ((wrap64 (2 * a0_2)) + 1))] from (k34_mkM _ _ _ (⟨wrap64 (a0_0 + 1), wrap64 (2 * a0_1), wrap64 ((wrap64 (2 * a0_2)) + 1)⟩ : S34) )) (Reps.c3 (show Kd.M k34 _ _ _ (⟨wrap64 (a0_0 + 1), wrap64 ((wrap64 (2 * a0_1)) + 1), wrap64 ((wrap64 (2 * a0_2)) + 1)⟩ : S34) [.int .i64 (wrap64 (a0_0 + 1)), .int .i64 (wrap64 ((wrap64 (2 * a0_1)) + 1)), .int .i64 (wrap64 ((wrap64 (2 * a0_2)) + 1))] from (k34_mkM _ _ _ (⟨wrap64 (a0_0 + 1), wrap64 ((wrap64 (2 * a0_1)) + 1), wrap64 ((wrap64 (2 * a0_2)) + 1)⟩ : S34) )) (Reps.none _ _)))))); intro v178 w40 ho41 hb hg_ hnew_; clear hg_ hnew_; (first | rw [← Ny177.out] at ho41 | (simp only [Int.reduceToNat] at ho41; rw [← Ny177.out] at ho41)); have n0_ := Aside0.mk (Kd.R_lower (Kd.R_newB (Kd.R_newB ho41 (g := gb175) (o := .cells #[.int .i64 a0_0, .int .i64 a0_1, .int .i64 a0_2] 34 (0, 0)) (by (with_reducible repeat (first | refine blk_drewN ?_ _ | refine blk_drew ?_ | refine blk_alloc ?_ _)); exact BK175.out)) (g := gb176) (o := .cells #[.int .i64 a1_0, .int .i64 a1_1, .int .i64 a1_2] 34 (0, 0)) (by (with_reducible repeat (first | refine blk_drewN ?_ _ | refine blk_drew ?_ | refine blk_alloc ?_ _)); exact BK176.out)) (below_size (by repeat (first | (with_reducible first | exact HB.out | apply below_alloc | apply pw_below_drewN | apply below_drew1 | refine below_set ?_ GE175.out | refine below_set ?_ GE176.out) | exact HB.out)))); have n1_ := Aside0.mk (blk_below (g := gb175) (o := .cells #[.int .i64 a0_0, .int .i64 a0_1, .int .i64 a0_2] 34 (0, 0)) (by (with_reducible repeat (first | refine blk_drewN ?_ _ | refine blk_drew ?_ | refine blk_alloc ?_ _)); exact BK175.out) hb); have n2_ := Aside0.mk (blk_below (g := gb176) (o := .cells #[.int .i64 a1_0, .int .i64 a1_1, .int .i64 a1_2] 34 (0, 0)) (by (with_reducible repeat (first | refine blk_drewN ?_ _ | refine blk_drew ?_ | refine blk_alloc ?_ _)); exact BK176.out) hb); have n3_ := Aside0.mk (below_step (by repeat (first | (with_reducible first | exact HB.out | apply below_alloc | apply pw_below_drewN | apply below_drew1 | refine below_set ?_ GE175.out | refine below_set ?_ GE176.out) | exact HB.out)) hb); clear BK175; clear BK176; clear HB; have HO179 := n0_; have BK175 := n1_; have BK176 := n2_; have HB := n3_; clear n0_ n1_ n2_ n3_; clear hb ho41; obtain ⟨Ao42, co42, eo42⟩ := Kd.R_slice HO179.out; subst eo42) | (go_at_call 45; (with_reducible refine (api_TileID.calls kj18 _ _ l3 _ _ y177 t180 _ ?side1 ?side2 ?side3 ?side4 A37.out).mono ?_); (case side1 => repeat (first | exact (Kd.C_below HR3.out HB.out) | (with_reducible refine Kd.C_alloc ?_ _) | (with_reducible refine Kd.C_drewN ?_ _) | (with_reducible refine Kd.C_drew ?_))); (case side2 => exact HC3.out); (case side3 => repeat (first | exact (Kd.R_reads' HO179.out).2.2 | (with_reducible refine Kd.C_alloc ?_ _) | (with_reducible refine Kd.C_drewN ?_ _) | (with_reducible refine Kd.C_drew ?_))); (case side4 => exact (Kd.R_reads' HO179.out).2.1); rintro e w' ⟨rfl, ⟨nd, rfl⟩⟩; (try first | exact ⟨rfl, _, World.drewN_drewN _ _ _⟩ | exact ⟨rfl, _, Eq.trans (World.drewN_drewN _ _ _) (congrArg (World.drewN _) (Nat.add_assoc _ _ _))⟩))))
                  go_ret
                  exact ⟨by first | rfl | (simp [errW_none, errW_some] <;> rfl) | (simp [*, errW_none, errW_some] <;> rfl), by repeat (first | (with_reducible first | exact HB.out | apply below_alloc | apply pw_below_drewN | apply below_drew1 | refine below_set ?_ GE175.out | refine below_set ?_ GE176.out) | exact HB.out)⟩
                · rw [if_neg c36] at H
                  have c36b0 : (a4 == 0) = false := beq_eq_false_iff_ne.mpr c36
                  have c36b1 : (a4 != 0) = true := bne_iff_ne.mpr c36
                  obtain rfl := Option.some.inj H
                  have hnb43 := NB175_176.out
                  have hnc43 := NB176_175.out
                  have hcz44_0 : wc.cell? ⟨gb175, 0, none⟩ = some (.int .i64 a0_0) := (blk_cell BK175.out 0).trans rfl
                  have hcz44_1 : wc.cell? ⟨gb175, 1, none⟩ = some (.int .i64 a0_1) := (blk_cell BK175.out 1).trans rfl
                  have hcz44_2 : wc.cell? ⟨gb175, 2, none⟩ = some (.int .i64 a0_2) := (blk_cell BK175.out 2).trans rfl
                  have hfz44_0 := blk_frozen BK175.out 0
                  have hfz44_1 := blk_frozen BK175.out 1
                  have hfz44_2 := blk_frozen BK175.out 2
                  go_wp2
                  repeat (go_quiet (fail); try go_wp2)
                  go_ret
                  exact ⟨by first | rfl | (simp [errW_none, errW_some] <;> rfl) | (simp [*, errW_none, errW_some] <;> rfl), by repeat (first | (with_reducible first | exact HB.out | apply below_alloc | apply pw_below_drewN | apply below_drew1 | refine below_set ?_ GE175.out | refine below_set ?_ GE176.out) | exact HB.out)⟩
end Go.Proofs.Ytojehbkadlmbjaa.Q
