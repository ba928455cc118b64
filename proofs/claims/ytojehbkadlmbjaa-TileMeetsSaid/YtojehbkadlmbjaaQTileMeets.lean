/- What the Go function terrkeep5_TileMeets comes to, and its contract. Condition: its printed twin gives an answer, which is true. -/
import Derived.Test.YtojehbkadlmbjaaQf13
import Derived.Test.YtojehbkadlmbjaaQf33
import Derived.Test.YtojehbkadlmbjaaQf20
import Derived.Test.YtojehbkadlmbjaaQf22
import Derived.Test.YtojehbkadlmbjaaQf31
import Derived.Test.YtojehbkadlmbjaaQf32
import Derived.Test.YtojehbkadlmbjaaQf34
import Derived.Test.YtojehbkadlmbjaaQf35
namespace Go.Proofs.Ytojehbkadlmbjaa.Q
open Go.RowKit Go.Proofs.YtojehbkadlmbjaaW.PrintWords Go.Proofs.YtojehbkadlmbjaaW.PrintLast Go.Proofs.YtojehbkadlmbjaaW.PrintMore
attribute [local go_sem] max2_int min2_int max_two min_two max_three min_three max_four min_four
set_option linter.unusedVariables false
set_option linter.unusedSimpArgs false
/-! ### terrkeep5_TileMeets: function 9 -/
mutual
def terrkeep5_TileMeets.j0 : Nat → Int → List (S34) → Bool → Int → Int → Int → Int → Option (Bool)
  | 0, _, _, _, _, _, _, _ => none
  | k + 1, x13, x14, x56, x153000, x153001, x153002, x153003 => if x56 = true then (some false) else (terrkeep5_TileMeets.l0 k x13 x14 x14 (x14.length : Int) 0 x153000 x153001 x153002 x153003)
def terrkeep5_TileMeets.l0 : Nat → Int → List (S34) → List (S34) → Int → Int → Int → Int → Int → Int → Option (Bool)
  | 0, _, _, _, _, _, _, _, _, _ => none
  | k + 1, x13, x14, x57, x58, x59, x153000, x153001, x153002, x153003 => if x59 < x58 then (if 0 ≤ x59 then (if x59 < (x57.length : Int) then (if ((rd_T34 x57 x59).f0) = x13 then ((tile_Box.f ((rd_T34 x57 x59).f0) ((rd_T34 x57 x59).f1) ((rd_T34 x57 x59).f2)).bind fun bt160 => ((box_Meet.f bt160.1 bt160.2.1 bt160.2.2.1 bt160.2.2.2 x153000 x153001 x153002 x153003).bind fun t164 => (if t164 = true then (if x59 > 0 then (if 0 ≤ (wrap64 (x59 - 1)) then (if (wrap64 (x59 - 1)) < (x14.length : Int) then ((tile_Less.f ((rd_T34 x14 (wrap64 (x59 - 1))).f0) ((rd_T34 x14 (wrap64 (x59 - 1))).f1) ((rd_T34 x14 (wrap64 (x59 - 1))).f2) ((rd_T34 x57 x59).f0) ((rd_T34 x57 x59).f1) ((rd_T34 x57 x59).f2)).bind fun t166 => (if t166 = true then (terrkeep5_TileMeets.l0 k x13 x14 x57 x58 (wrap64 (x59 + 1)) x153000 x153001 x153002 x153003) else (some false))) else (none)) else (none)) else (terrkeep5_TileMeets.l0 k x13 x14 x57 x58 (wrap64 (x59 + 1)) x153000 x153001 x153002 x153003)) else (some false)))) else (some false)) else (none)) else (none)) else ((some (([(⟨x153000, x153001⟩ : S31), (⟨x153002, x153003⟩ : S31), (⟨x153000, x153003⟩ : S31), (⟨wrap64 (Int.tdiv (wrap64 (x153000 + x153002)) 2), x153001⟩ : S31)] : List (S31)) : List (S31))).bind fun y167 => (terrkeep5_TileMeets.l1 k x13 x14 y167 (y167.length : Int) 0))
def terrkeep5_TileMeets.l1 : Nat → Int → List (S34) → List (S31) → Int → Int → Option (Bool)
  | 0, _, _, _, _, _ => none
  | k + 1, x13, x14, x113, x114, x115 => if x115 < x114 then (if 0 ≤ x115 then (if x115 < (x113.length : Int) then ((tile_Of.f ((rd_T31 x113 x115).f0) ((rd_T31 x113 x115).f1) x13).bind fun bt172 => (if bt172.2.2.2 = 0 then ((api_TileID_31.f k x14 bt172.1 bt172.2.1 bt172.2.2.1).bind fun t177 => (if t177 = true then (terrkeep5_TileMeets.l1 k x13 x14 x113 x114 (wrap64 (x115 + 1))) else (some false))) else (some false))) else (none)) else (none)) else (some true)
end
def terrkeep5_TileMeets.f (k : Nat) (a0 : Int) (a1 : Int) (a2 : Int) (a3 : Int) (a4 : Int) : Option (Bool) := (terrmake_Below.f a0 20000).bind fun t147 => ((terrmake_Below.f a1 20000).bind fun t148 => ((terrmake_Below.f a2 9000).bind fun t150 => ((terrmake_Below.f a3 9000).bind fun t151 => ((terrkeep5_Zoom.f a4).bind fun t153 => ((tile_All.f k (wrap64 (t147 - 10000)) (wrap64 (t148 - 10000)) (wrap64 ((wrap64 (t147 - 10000)) + t150)) (wrap64 ((wrap64 (t148 - 10000)) + t151)) t153).bind fun bt154 => (if bt154.2 = 0 then (terrkeep5_TileMeets.j0 k t153 bt154.1 ((bt154.1.length : Int) == 0) (wrap64 (t147 - 10000)) (wrap64 (t148 - 10000)) (wrap64 ((wrap64 (t147 - 10000)) + t150)) (wrap64 ((wrap64 (t148 - 10000)) + t151))) else (terrkeep5_TileMeets.j0 k t153 bt154.1 true (wrap64 (t147 - 10000)) (wrap64 (t148 - 10000)) (wrap64 ((wrap64 (t147 - 10000)) + t150)) (wrap64 ((wrap64 (t148 - 10000)) + t151)))))))))
theorem terrkeep5_TileMeets.mono_l : ∀ k, (∀ y0 y1 y2 y3 y4 y5 y6, LeO (terrkeep5_TileMeets.j0 k y0 y1 y2 y3 y4 y5 y6) (terrkeep5_TileMeets.j0 (k + 1) y0 y1 y2 y3 y4 y5 y6)) ∧ (∀ y0 y1 y2 y3 y4 y5 y6 y7 y8, LeO (terrkeep5_TileMeets.l0 k y0 y1 y2 y3 y4 y5 y6 y7 y8) (terrkeep5_TileMeets.l0 (k + 1) y0 y1 y2 y3 y4 y5 y6 y7 y8)) ∧ (∀ y0 y1 y2 y3 y4, LeO (terrkeep5_TileMeets.l1 k y0 y1 y2 y3 y4) (terrkeep5_TileMeets.l1 (k + 1) y0 y1 y2 y3 y4))
  | 0 => ⟨fun _ _ _ _ _ _ _ r h => by simp [terrkeep5_TileMeets.j0] at h, fun _ _ _ _ _ _ _ _ _ r h => by simp [terrkeep5_TileMeets.l0] at h, fun _ _ _ _ _ r h => by simp [terrkeep5_TileMeets.l1] at h⟩
  | k + 1 => by
    obtain ⟨ih0, ih1, ih2⟩ := terrkeep5_TileMeets.mono_l k
    refine ⟨?_, ?_, ?_⟩
    · intro y0 y1 y2 y3 y4 y5 y6
      unfold terrkeep5_TileMeets.j0
      repeat' first
      | (with_reducible exact ih0 _ _ _ _ _ _ _)
      | (with_reducible exact ih1 _ _ _ _ _ _ _ _ _)
      | (with_reducible exact ih2 _ _ _ _ _)
      | (with_reducible exact api_TileID_31.mono _ _ _ _ _)
      | (with_reducible exact tile_All.mono _ _ _ _ _ _)
      | (with_reducible exact LeO.refl _)
      | (with_reducible exact LeO.none _)
      | (with_reducible refine LeO.ite ?_ ?_)
      | (with_reducible refine LeO.bind ?_ (fun _ => ?_))
      | exact ih0 _ _ _ _ _ _ _
      | exact ih1 _ _ _ _ _ _ _ _ _
      | exact ih2 _ _ _ _ _
      | exact api_TileID_31.mono _ _ _ _ _
      | exact tile_All.mono _ _ _ _ _ _
      | exact LeO.none _
      | refine LeO.ite ?_ ?_
      | refine LeO.bind ?_ (fun _ => ?_)
    · intro y0 y1 y2 y3 y4 y5 y6 y7 y8
      unfold terrkeep5_TileMeets.l0
      repeat' first
      | (with_reducible exact ih0 _ _ _ _ _ _ _)
      | (with_reducible exact ih1 _ _ _ _ _ _ _ _ _)
      | (with_reducible exact ih2 _ _ _ _ _)
      | (with_reducible exact api_TileID_31.mono _ _ _ _ _)
      | (with_reducible exact tile_All.mono _ _ _ _ _ _)
      | (with_reducible exact LeO.refl _)
      | (with_reducible exact LeO.none _)
      | (with_reducible refine LeO.ite ?_ ?_)
      | (with_reducible refine LeO.bind ?_ (fun _ => ?_))
      | exact ih0 _ _ _ _ _ _ _
      | exact ih1 _ _ _ _ _ _ _ _ _
      | exact ih2 _ _ _ _ _
      | exact api_TileID_31.mono _ _ _ _ _
      | exact tile_All.mono _ _ _ _ _ _
      | exact LeO.none _
      | refine LeO.ite ?_ ?_
      | refine LeO.bind ?_ (fun _ => ?_)
    · intro y0 y1 y2 y3 y4
      unfold terrkeep5_TileMeets.l1
      repeat' first
      | (with_reducible exact ih0 _ _ _ _ _ _ _)
      | (with_reducible exact ih1 _ _ _ _ _ _ _ _ _)
      | (with_reducible exact ih2 _ _ _ _ _)
      | (with_reducible exact api_TileID_31.mono _ _ _ _ _)
      | (with_reducible exact tile_All.mono _ _ _ _ _ _)
      | (with_reducible exact LeO.refl _)
      | (with_reducible exact LeO.none _)
      | (with_reducible refine LeO.ite ?_ ?_)
      | (with_reducible refine LeO.bind ?_ (fun _ => ?_))
      | exact ih0 _ _ _ _ _ _ _
      | exact ih1 _ _ _ _ _ _ _ _ _
      | exact ih2 _ _ _ _ _
      | exact api_TileID_31.mono _ _ _ _ _
      | exact tile_All.mono _ _ _ _ _ _
      | exact LeO.none _
      | refine LeO.ite ?_ ?_
      | refine LeO.bind ?_ (fun _ => ?_)
theorem terrkeep5_TileMeets.mono : ∀ a0 a1 a2 a3 a4 k, LeO (terrkeep5_TileMeets.f k a0 a1 a2 a3 a4) (terrkeep5_TileMeets.f (k + 1) a0 a1 a2 a3 a4) := by
  intro a0 a1 a2 a3 a4 k
  obtain ⟨ih0, ih1, ih2⟩ := terrkeep5_TileMeets.mono_l k
  unfold terrkeep5_TileMeets.f
  repeat' first
      | (with_reducible exact ih0 _ _ _ _ _ _ _)
      | (with_reducible exact ih1 _ _ _ _ _ _ _ _ _)
      | (with_reducible exact ih2 _ _ _ _ _)
      | (with_reducible exact api_TileID_31.mono _ _ _ _ _)
      | (with_reducible exact tile_All.mono _ _ _ _ _ _)
      | (with_reducible exact LeO.refl _)
      | (with_reducible exact LeO.none _)
      | (with_reducible refine LeO.ite ?_ ?_)
      | (with_reducible refine LeO.bind ?_ (fun _ => ?_))
      | exact ih0 _ _ _ _ _ _ _
      | exact ih1 _ _ _ _ _ _ _ _ _
      | exact ih2 _ _ _ _ _
      | exact api_TileID_31.mono _ _ _ _ _
      | exact tile_All.mono _ _ _ _ _ _
      | exact LeO.none _
      | refine LeO.ite ?_ ?_
      | refine LeO.bind ?_ (fun _ => ?_)
def terrkeep5_TileMeets.T2 : Bool × List (List Nat × List Nat) := (true, [([], []), ([], []), ([1], [1]), ([], []), ([3], [3]), ([2, 4], [2, 4]), ([], []), ([6], [6]), ([], []), ([8, 4], [8]), ([7, 9], [7, 9]), ([5, 10], [5, 10]), ([0, 11], [0, 11]), ([], []), ([13, 12, 9, 0, 1, 2, 3, 4, 5, 6, 7, 8, 9, 10, 11, 12, 13], [12, 13])])
def terrkeep5_TileMeets.B2 : List Nat := [0, 0, 2, 0, 8, 30, 0, 64, 0, 280, 984, 2046, 4095, 0, 16383]
theorem terrkeep5_TileMeets.tab2 : rtab .any (opsOf Try.f9 2) = terrkeep5_TileMeets.T2 := by kernel_rfl
theorem terrkeep5_TileMeets.bits2 : waitsOk terrkeep5_TileMeets.T2.2 terrkeep5_TileMeets.B2 = true := by kernel_rfl
def terrkeep5_TileMeets.T10 : Bool × List (List Nat × List Nat) := (true, [([], []), ([0], [0]), ([], []), ([1, 2], [1, 2]), ([3], [3]), ([4], [4]), ([5, 4, 4], [4, 5]), ([4], [4]), ([6, 7, 6, 4], [4, 6, 7]), ([8, 4], [4, 8]), ([4, 9], [4, 9]), ([10, 8], [10]), ([11], [11]), ([12, 11], [11, 12]), ([13, 11, 11], [11, 13]), ([14], [14]), ([14], [14]), ([16, 14], [14, 16]), ([15, 17, 14], [14, 15, 17]), ([18, 14], [14, 18]), ([14], [14]), ([19, 20, 14, 14], [14, 19, 20]), ([21, 14], [14, 21]), ([14, 22, 11], [11, 14, 22]), ([11, 23], [11, 23])])
def terrkeep5_TileMeets.B10 : List Nat := [0, 1, 0, 7, 15, 31, 63, 31, 255, 511, 1023, 2047, 4095, 8191, 16383, 32767, 32767, 98303, 262143, 524287, 32767, 2097151, 4194303, 8388607, 16777215]
theorem terrkeep5_TileMeets.tab10 : rtab .any (opsOf Try.f9 10) = terrkeep5_TileMeets.T10 := by kernel_rfl
theorem terrkeep5_TileMeets.bits10 : waitsOk terrkeep5_TileMeets.T10.2 terrkeep5_TileMeets.B10 = true := by kernel_rfl
set_option maxHeartbeats 8000000 in
set_option maxRecDepth 100000 in
theorem terrkeep5_TileMeets.calls (k : Nat) (a0 : Int) (a1 : Int) (a2 : Int) (a3 : Int) (a4 : Int) (r : Bool) (w : World) (h : terrkeep5_TileMeets.f k a0 a1 a2 a3 a4 = some r) (hr : r = true) :
    Calls Try.prog 9 #[.int .i64 a0, .int .i64 a1, .int .i64 a2, .int .i64 a3, .int .i64 a4] w fun e w' => e = .returned (.bool r) ∧ Below w.heap.size w w' := by
  have hu31 := Try.underlying31
  have hu44 := Try.underlying44
  have hu34 := Try.underlying34
  have HB := Aside0.mk (Below.refl w.heap.size w)
  have H : ((terrmake_Below.f a0 20000).bind fun t147 => ((terrmake_Below.f a1 20000).bind fun t148 => ((terrmake_Below.f a2 9000).bind fun t150 => ((terrmake_Below.f a3 9000).bind fun t151 => ((terrkeep5_Zoom.f a4).bind fun t153 => ((tile_All.f k (wrap64 (t147 - 10000)) (wrap64 (t148 - 10000)) (wrap64 ((wrap64 (t147 - 10000)) + t150)) (wrap64 ((wrap64 (t148 - 10000)) + t151)) t153).bind fun bt154 => (if bt154.2 = 0 then (terrkeep5_TileMeets.j0 k t153 bt154.1 ((bt154.1.length : Int) == 0) (wrap64 (t147 - 10000)) (wrap64 (t148 - 10000)) (wrap64 ((wrap64 (t147 - 10000)) + t150)) (wrap64 ((wrap64 (t148 - 10000)) + t151))) else (terrkeep5_TileMeets.j0 k t153 bt154.1 true (wrap64 (t147 - 10000)) (wrap64 (t148 - 10000)) (wrap64 ((wrap64 (t147 - 10000)) + t150)) (wrap64 ((wrap64 (t148 - 10000)) + t151)))))))))) = some r := h
  clear h
  replace H := Option.bind_eq_some_iff.mp H
  obtain ⟨t147, A60, H⟩ := H
  replace H : ((terrmake_Below.f a1 20000).bind fun t148 => ((terrmake_Below.f a2 9000).bind fun t150 => ((terrmake_Below.f a3 9000).bind fun t151 => ((terrkeep5_Zoom.f a4).bind fun t153 => ((tile_All.f k (wrap64 (t147 - 10000)) (wrap64 (t148 - 10000)) (wrap64 ((wrap64 (t147 - 10000)) + t150)) (wrap64 ((wrap64 (t148 - 10000)) + t151)) t153).bind fun bt154 => (if bt154.2 = 0 then (terrkeep5_TileMeets.j0 k t153 bt154.1 ((bt154.1.length : Int) == 0) (wrap64 (t147 - 10000)) (wrap64 (t148 - 10000)) (wrap64 ((wrap64 (t147 - 10000)) + t150)) (wrap64 ((wrap64 (t148 - 10000)) + t151))) else (terrkeep5_TileMeets.j0 k t153 bt154.1 true (wrap64 (t147 - 10000)) (wrap64 (t148 - 10000)) (wrap64 ((wrap64 (t147 - 10000)) + t150)) (wrap64 ((wrap64 (t148 - 10000)) + t151))))))))) = some r := H
  have A6 := Aside0.mk A60
  clear A60
  replace H := Option.bind_eq_some_iff.mp H
  obtain ⟨t148, A70, H⟩ := H
  replace H : ((terrmake_Below.f a2 9000).bind fun t150 => ((terrmake_Below.f a3 9000).bind fun t151 => ((terrkeep5_Zoom.f a4).bind fun t153 => ((tile_All.f k (wrap64 (t147 - 10000)) (wrap64 (t148 - 10000)) (wrap64 ((wrap64 (t147 - 10000)) + t150)) (wrap64 ((wrap64 (t148 - 10000)) + t151)) t153).bind fun bt154 => (if bt154.2 = 0 then (terrkeep5_TileMeets.j0 k t153 bt154.1 ((bt154.1.length : Int) == 0) (wrap64 (t147 - 10000)) (wrap64 (t148 - 10000)) (wrap64 ((wrap64 (t147 - 10000)) + t150)) (wrap64 ((wrap64 (t148 - 10000)) + t151))) else (terrkeep5_TileMeets.j0 k t153 bt154.1 true (wrap64 (t147 - 10000)) (wrap64 (t148 - 10000)) (wrap64 ((wrap64 (t147 - 10000)) + t150)) (wrap64 ((wrap64 (t148 - 10000)) + t151)))))))) = some r := H
  have A7 := Aside0.mk A70
  clear A70
  replace H := Option.bind_eq_some_iff.mp H
  obtain ⟨t150, A80, H⟩ := H
  replace H : ((terrmake_Below.f a3 9000).bind fun t151 => ((terrkeep5_Zoom.f a4).bind fun t153 => ((tile_All.f k (wrap64 (t147 - 10000)) (wrap64 (t148 - 10000)) (wrap64 ((wrap64 (t147 - 10000)) + t150)) (wrap64 ((wrap64 (t148 - 10000)) + t151)) t153).bind fun bt154 => (if bt154.2 = 0 then (terrkeep5_TileMeets.j0 k t153 bt154.1 ((bt154.1.length : Int) == 0) (wrap64 (t147 - 10000)) (wrap64 (t148 - 10000)) (wrap64 ((wrap64 (t147 - 10000)) + t150)) (wrap64 ((wrap64 (t148 - 10000)) + t151))) else (terrkeep5_TileMeets.j0 k t153 bt154.1 true (wrap64 (t147 - 10000)) (wrap64 (t148 - 10000)) (wrap64 ((wrap64 (t147 - 10000)) + t150)) (wrap64 ((wrap64 (t148 - 10000)) + t151))))))) = some r := H
  have A8 := Aside0.mk A80
  clear A80
  replace H := Option.bind_eq_some_iff.mp H
  obtain ⟨t151, A90, H⟩ := H
  replace H : ((terrkeep5_Zoom.f a4).bind fun t153 => ((tile_All.f k (wrap64 (t147 - 10000)) (wrap64 (t148 - 10000)) (wrap64 ((wrap64 (t147 - 10000)) + t150)) (wrap64 ((wrap64 (t148 - 10000)) + t151)) t153).bind fun bt154 => (if bt154.2 = 0 then (terrkeep5_TileMeets.j0 k t153 bt154.1 ((bt154.1.length : Int) == 0) (wrap64 (t147 - 10000)) (wrap64 (t148 - 10000)) (wrap64 ((wrap64 (t147 - 10000)) + t150)) (wrap64 ((wrap64 (t148 - 10000)) + t151))) else (terrkeep5_TileMeets.j0 k t153 bt154.1 true (wrap64 (t147 - 10000)) (wrap64 (t148 - 10000)) (wrap64 ((wrap64 (t147 - 10000)) + t150)) (wrap64 ((wrap64 (t148 - 10000)) + t151)))))) = some r := H
  have A9 := Aside0.mk A90
  clear A90
  replace H := Option.bind_eq_some_iff.mp H
  obtain ⟨t153, A100, H⟩ := H
  replace H : ((tile_All.f k (wrap64 (t147 - 10000)) (wrap64 (t148 - 10000)) (wrap64 ((wrap64 (t147 - 10000)) + t150)) (wrap64 ((wrap64 (t148 - 10000)) + t151)) t153).bind fun bt154 => (if bt154.2 = 0 then (terrkeep5_TileMeets.j0 k t153 bt154.1 ((bt154.1.length : Int) == 0) (wrap64 (t147 - 10000)) (wrap64 (t148 - 10000)) (wrap64 ((wrap64 (t147 - 10000)) + t150)) (wrap64 ((wrap64 (t148 - 10000)) + t151))) else (terrkeep5_TileMeets.j0 k t153 bt154.1 true (wrap64 (t147 - 10000)) (wrap64 (t148 - 10000)) (wrap64 ((wrap64 (t147 - 10000)) + t150)) (wrap64 ((wrap64 (t148 - 10000)) + t151))))) = some r := H
  have A10 := Aside0.mk A100
  clear A100
  replace H := Option.bind_eq_some_iff.mp H
  obtain ⟨⟨t154, t157⟩, A110, H⟩ := H
  replace H : (if t157 = 0 then (terrkeep5_TileMeets.j0 k t153 t154 ((t154.length : Int) == 0) (wrap64 (t147 - 10000)) (wrap64 (t148 - 10000)) (wrap64 ((wrap64 (t147 - 10000)) + t150)) (wrap64 ((wrap64 (t148 - 10000)) + t151))) else (terrkeep5_TileMeets.j0 k t153 t154 true (wrap64 (t147 - 10000)) (wrap64 (t148 - 10000)) (wrap64 ((wrap64 (t147 - 10000)) + t150)) (wrap64 ((wrap64 (t148 - 10000)) + t151)))) = some r := H
  have A11 := Aside0.mk A110
  clear A110
  have HC12 := Aside0.mk H
  clear H
  go_enter Try.func9, Try.ntmps9
  try go_wp2_with (first | ((with_reducible refine gate_callee (f := 13) rfl ?_); refine goesL_ (some 23) rfl rfl Try.func13 (by kernel_rfl) rfl #[.int .i64 a0, .int .i64 20000] rfl (by (try simp only [List.map_toArray, List.map_cons, List.map_nil]); first | done | rfl | (simp only [List.length_drop, List.length_take]; rfl)) ?_; (with_reducible refine (terrmake_Below.calls a0 20000 t147 _ A6.out).mono ?_); rintro e w' ⟨rfl, ⟨nd, rfl⟩⟩; refine ⟨_, rfl, ?_⟩) | ((with_reducible refine gate_callee (f := 13) rfl ?_); refine goesL_ (some 26) rfl rfl Try.func13 (by kernel_rfl) rfl #[.int .i64 a1, .int .i64 20000] rfl (by (try simp only [List.map_toArray, List.map_cons, List.map_nil]); first | done | rfl | (simp only [List.length_drop, List.length_take]; rfl)) ?_; (with_reducible refine (terrmake_Below.calls a1 20000 t148 _ A7.out).mono ?_); rintro e w' ⟨rfl, ⟨nd, rfl⟩⟩; refine ⟨_, rfl, ?_⟩) | ((with_reducible refine gate_dst (N := 11) rfl ?_); (try (refine gate_guard (by rfl) ?_; dsimp only)); refine box_event ?hg (N := 11) ?hd (cs := #[.int .i64 0, .int .i64 0]) (t := 31) ?hr ?_; (case hd => rfl); (case hg => rfl); (case hr => first | (go_simp; done) | (go_simp; rfl)); intro gb149 hg w13 hbox hb; have n0_ := Aside0.mk (below_step (by repeat (first | (with_reducible first | exact HB.out | apply below_alloc | apply pw_below_drewN | apply below_drew1) | exact HB.out)) hb); have n1_ := Aside0.mk (hbox); have n2_ := Aside0.mk ((by rw [hg]; exact (below_size (by repeat (first | (with_reducible first | exact HB.out | apply below_alloc | apply pw_below_drewN | apply below_drew1) | exact HB.out))) : w.heap.size ≤ gb149)); have n3_ := Aside0.mk ((by rw [hg]; exact (below_size (by repeat (first | (with_reducible first | exact HB.out | apply below_alloc | apply pw_below_drewN | apply below_drew1) | exact HB.out))) : w.heap.size ≤ gb149)); clear HB; have HB := n0_; have BK149 := n1_; have GW149 := n2_; have GE149 := n3_; clear n0_ n1_ n2_ n3_; clear hb hbox hg; have hcz14_0 : w13.cell? ⟨gb149, 0, none⟩ = some (.int .i64 0) := (blk_cell BK149.out 0).trans rfl; have hcz14_1 : w13.cell? ⟨gb149, 1, none⟩ = some (.int .i64 0) := (blk_cell BK149.out 1).trans rfl; have hfz14_0 := blk_frozen BK149.out 0; have hfz14_1 := blk_frozen BK149.out 1))
  have n0_ : Aside0 (((w13.setCell ⟨gb149, 0, none⟩ (.int .i64 (wrap64 (t147 - 10000)))).setCell ⟨gb149, 1, none⟩ (.int .i64 (wrap64 (t148 - 10000)))).heap[gb149]? = some (.cells #[.int .i64 (wrap64 (t147 - 10000)), .int .i64 (wrap64 (t148 - 10000))] 31 (0, 0))) := ⟨by (with_reducible repeat (first | refine blk_drewN ?_ _ | refine blk_drew ?_ | refine blk_alloc ?_ _)); refine blk_put (cs := #[.int .i64 (wrap64 (t147 - 10000)), .int .i64 0]) ?_ 1 _ rfl; (with_reducible repeat (first | refine blk_drewN ?_ _ | refine blk_drew ?_ | refine blk_alloc ?_ _)); refine blk_put (cs := #[.int .i64 0, .int .i64 0]) ?_ 0 _ rfl; (with_reducible repeat (first | refine blk_drewN ?_ _ | refine blk_drew ?_ | refine blk_alloc ?_ _)); exact BK149.out⟩
  have n1_ : Aside0 (Below w.heap.size w ((w13.setCell ⟨gb149, 0, none⟩ (.int .i64 (wrap64 (t147 - 10000)))).setCell ⟨gb149, 1, none⟩ (.int .i64 (wrap64 (t148 - 10000))))) := ⟨by repeat (first | (with_reducible first | exact HB.out | apply below_alloc | apply pw_below_drewN | apply below_drew1 | refine below_set ?_ GE149.out) | exact HB.out)⟩
  (try clear BK149)
  (try clear HB)
  generalize ((w13.setCell ⟨gb149, 0, none⟩ (.int .i64 (wrap64 (t147 - 10000)))).setCell ⟨gb149, 1, none⟩ (.int .i64 (wrap64 (t148 - 10000)))) = w15 at n0_ n1_ ⊢
  have BK149 := n0_
  have HB := n1_
  clear n0_ n1_
  have n0_ := Aside0.mk (blk_drew BK149.out)
  have n1_ := Aside0.mk (below_drew1 HB.out)
  clear BK149
  clear HB
  have BK149 := n0_
  have HB := n1_
  clear n0_ n1_
  refine start_ (n := 15) (S := fun w' => w'.cell? ⟨gb149, 0, none⟩ = some (.int .i64 (wrap64 (t147 - 10000))) ∧ w'.cell? ⟨gb149, 1, none⟩ = some (.int .i64 (wrap64 (t148 - 10000)))) (ds := []) #[false, false, false, false, false, false, false, false, false, false, false, false, false, false, false] (by kernel_rfl) rfl rfl ⟨(blk_cell BK149.out 0).trans rfl, (blk_cell BK149.out 1).trans rfl⟩ (fun hHeld => ?_); refine with_tabW terrkeep5_TileMeets.tab2 terrkeep5_TileMeets.bits2 (fun HT_ HW_ => ?_)
  generalize w15.drew = w16 at BK149 HB hHeld ⊢
  refine pure_ (i := 1) (N := some 30) (v := ?_) (a' := ?_) #[false, true, false, false, false, false, false, false, false, false, false, false, false, false, false] rfl rfl (any_of HT_.out (by kernel_rfl)) (fun _ _ _ h => h) (Or.inl ⟨by rfl, ?_⟩) ?_ ?_
  rotate_left
  · intro w'
    go_simp
    with_reducible rfl
  rotate_left
  · simp only [Act.put, List.setIfInBounds_toArray, List.set_cons_zero, List.set_cons_succ, i64_w, i32_w]
    rfl
  refine pure_ (i := 3) (N := some 32) (v := ?_) (a' := ?_) #[false, true, false, true, false, false, false, false, false, false, false, false, false, false, false] rfl rfl (any_of HT_.out (by kernel_rfl)) (fun _ _ _ h => h) (Or.inl ⟨by rfl, ?_⟩) ?_ ?_
  rotate_left
  · intro w'
    go_simp
    with_reducible rfl
  rotate_left
  · simp only [Act.put, List.setIfInBounds_toArray, List.set_cons_zero, List.set_cons_succ, i64_w, i32_w]
    rfl
  refine pure_ (i := 6) (N := some 35) (v := ?_) (a' := ?_) #[false, true, false, true, false, false, true, false, false, false, false, false, false, false, false] rfl rfl (any_of HT_.out (by kernel_rfl)) (fun _ _ _ h => h) (Or.inl ⟨by rfl, ?_⟩) ?_ ?_
  rotate_left
  · intro w'
    go_simp
    with_reducible rfl
  rotate_left
  · simp only [Act.put, List.setIfInBounds_toArray, List.set_cons_zero, List.set_cons_succ, i64_w, i32_w]
    rfl
  refine pure_ (i := 8) (N := some 37) (v := ?_) (a' := ?_) #[false, true, false, true, false, false, true, false, true, false, false, false, false, false, false] rfl rfl (any_of HT_.out (by kernel_rfl)) (fun _ _ _ h => h) (Or.inl ⟨by rfl, ?_⟩) ?_ ?_
  rotate_left
  · intro w'
    go_simp
    with_reducible rfl
  rotate_left
  · simp only [Act.put, List.setIfInBounds_toArray, List.set_cons_zero, List.set_cons_succ, i64_w, i32_w]
    rfl
  refine take_ (i := 0) (N := some 29) (v := ?_) (a' := ?_) #[true, true, false, true, false, false, true, false, true, false, false, false, false, false, false] rfl rfl (take_ofW HT_.out HW_.out (by kernel_rfl)) (fun _ _ _ h => h) (Or.inl ⟨by rfl, ?_⟩) hHeld ?_ ?_
  rotate_left
  · rintro w' ⟨s0, s1⟩
    go_simp
    with_reducible rfl
  rotate_left
  · simp only [Act.put, List.setIfInBounds_toArray, List.set_cons_zero, List.set_cons_succ, i64_w, i32_w]
    rfl
  refine take_ (i := 2) (N := some 31) (v := ?_) (a' := ?_) #[true, true, true, true, false, false, true, false, true, false, false, false, false, false, false] rfl rfl (take_ofW HT_.out HW_.out (by kernel_rfl)) (fun _ _ _ h => h) (Or.inl ⟨by rfl, ?_⟩) hHeld ?_ ?_
  rotate_left
  · rintro w' ⟨s0, s1⟩
    go_simp
    with_reducible rfl
  rotate_left
  · simp only [Act.put, List.setIfInBounds_toArray, List.set_cons_zero, List.set_cons_succ, i64_w, i32_w]
    rfl
  refine take_ (i := 7) (N := some 36) (v := ?_) (a' := ?_) #[true, true, true, true, false, false, true, true, true, false, false, false, false, false, false] rfl rfl (take_ofW HT_.out HW_.out (by kernel_rfl)) (fun _ _ _ h => h) (Or.inl ⟨by rfl, ?_⟩) hHeld ?_ ?_
  rotate_left
  · rintro w' ⟨s0, s1⟩
    go_simp
    with_reducible rfl
  rotate_left
  · simp only [Act.put, List.setIfInBounds_toArray, List.set_cons_zero, List.set_cons_succ, i64_w, i32_w]
    rfl
  refine join_ (σ := Nat) 1 #[true, true, true, true, true, true, true, true, true, true, true, true, true, true, false] (fun s_ => [(33, .int .i64 t150), (38, .int .i64 t151), (12, .pointer (some ⟨s_, 0, none⟩)), (34, .int .i64 (wrap64 ((wrap64 (t147 - 10000)) + t150))), (39, .int .i64 (wrap64 ((wrap64 (t148 - 10000)) + t151))), (40, .agg #[.int .i64 (wrap64 ((wrap64 (t147 - 10000)) + t150)), .int .i64 (wrap64 ((wrap64 (t148 - 10000)) + t151))]), (41, .agg #[.int .i64 (wrap64 (t147 - 10000)), .int .i64 (wrap64 (t148 - 10000)), .int .i64 (wrap64 ((wrap64 (t147 - 10000)) + t150)), .int .i64 (wrap64 ((wrap64 (t148 - 10000)) + t151))])]) (fun s_ w' => (w'.cell? ⟨gb149, 0, none⟩ = some (.int .i64 (wrap64 (t147 - 10000))) ∧ w'.cell? ⟨gb149, 1, none⟩ = some (.int .i64 (wrap64 (t148 - 10000)))) ∧ (w'.heap[gb149]? = some (.cells #[.int .i64 (wrap64 (t147 - 10000)), .int .i64 (wrap64 (t148 - 10000))] 31 (0, 0))) ∧ (w'.heap[s_]? = some (.cells #[.int .i64 0, .int .i64 0, .int .i64 0, .int .i64 0] 44 (0, 0))) ∧ (w.heap.size ≤ s_) ∧ (w.heap.size ≤ s_) ∧ (gb149 ≠ s_) ∧ (s_ ≠ gb149) ∧ (Below w.heap.size w w')) ?_ ?_
  rotate_left
  · intro hCont
    refine two_ (i := 4) (j := 13) (Ni := some 33) (Nj := some 12) #[true, true, true, true, true, false, true, true, true, false, false, false, false, false, false] #[true, true, true, true, false, false, true, true, true, false, false, false, false, true, false] rfl rfl rfl rfl (two_of HT_.out (by kernel_rfl)) (by decide) (by decide) (fun K hK => ?_) (fun K hK => ?_)
    · skip
      refine goes_ Try.func13 (by kernel_rfl) rfl #[.int .i64 a2, .int .i64 9000] (by rfl) rfl rfl (by (try simp only [List.map_toArray, List.map_cons, List.map_nil]); first | done | rfl | (simp only [List.length_drop, List.length_take]; rfl)) ?_
      with_reducible refine (terrmake_Below.calls a2 9000 t150 _ A8.out).mono ?_
      rintro e w' ⟨rfl, ⟨nd, rfl⟩⟩
      refine ⟨_, rfl, ?_⟩
      refine hK.out _ _ ⟨(blk_cell BK149.out 0).trans rfl, (blk_cell BK149.out 1).trans rfl⟩ (fun hHeld => ?_)
      clear hK K
      refine norm_ (a' := ?_) ?_ ?_
      rotate_left
      · show Act.put _ (some 33) _ = _
        simp only [Act.put, List.setIfInBounds_toArray, List.set_cons_zero, List.set_cons_succ, i64_w, i32_w]
        rfl
      refine pure_ (i := 5) (N := some 34) (v := ?_) (a' := ?_) #[true, true, true, true, true, true, true, true, true, false, false, false, false, false, false] rfl rfl (any_of HT_.out (by kernel_rfl)) (fun _ _ _ h => h) (Or.inl ⟨by rfl, ?_⟩) ?_ ?_
      rotate_left
      · intro w'
        go_simp
        with_reducible rfl
      rotate_left
      · simp only [Act.put, List.setIfInBounds_toArray, List.set_cons_zero, List.set_cons_succ, i64_w, i32_w]
        rfl
      refine two_ (i := 9) (j := 13) (Ni := some 38) (Nj := some 12) #[true, true, true, true, true, true, true, true, true, true, false, false, false, false, false] #[true, true, true, true, true, true, true, true, true, false, false, false, false, true, false] rfl rfl rfl rfl (two_of HT_.out (by kernel_rfl)) (by decide) (by decide) (fun K hK => ?_) (fun K hK => ?_)
      · skip
        refine goes_ Try.func13 (by kernel_rfl) rfl #[.int .i64 a3, .int .i64 9000] (by rfl) rfl rfl (by (try simp only [List.map_toArray, List.map_cons, List.map_nil]); first | done | rfl | (simp only [List.length_drop, List.length_take]; rfl)) ?_
        with_reducible refine (terrmake_Below.calls a3 9000 t151 _ A9.out).mono ?_
        rintro e w' ⟨rfl, ⟨nd, rfl⟩⟩
        refine ⟨_, rfl, ?_⟩
        refine hK.out _ _ ⟨(blk_cell BK149.out 0).trans rfl, (blk_cell BK149.out 1).trans rfl⟩ (fun hHeld => ?_)
        clear hK K
        refine norm_ (a' := ?_) ?_ ?_
        rotate_left
        · show Act.put _ (some 38) _ = _
          simp only [Act.put, List.setIfInBounds_toArray, List.set_cons_zero, List.set_cons_succ, i64_w, i32_w]
          rfl
        refine pure_ (i := 10) (N := some 39) (v := ?_) (a' := ?_) #[true, true, true, true, true, true, true, true, true, true, true, false, false, false, false] rfl rfl (any_of HT_.out (by kernel_rfl)) (fun _ _ _ h => h) (Or.inl ⟨by rfl, ?_⟩) ?_ ?_
        rotate_left
        · intro w'
          go_simp
          with_reducible rfl
        rotate_left
        · simp only [Act.put, List.setIfInBounds_toArray, List.set_cons_zero, List.set_cons_succ, i64_w, i32_w]
          rfl
        refine pure_ (i := 11) (N := some 40) (v := ?_) (a' := ?_) #[true, true, true, true, true, true, true, true, true, true, true, true, false, false, false] rfl rfl (any_of HT_.out (by kernel_rfl)) (fun _ _ _ h => h) (Or.inl ⟨by rfl, ?_⟩) ?_ ?_
        rotate_left
        · intro w'
          go_simp
          with_reducible rfl
        rotate_left
        · simp only [Act.put, List.setIfInBounds_toArray, List.set_cons_zero, List.set_cons_succ, i64_w, i32_w]
          rfl
        refine pure_ (i := 12) (N := some 41) (v := ?_) (a' := ?_) #[true, true, true, true, true, true, true, true, true, true, true, true, true, false, false] rfl rfl (any_of HT_.out (by kernel_rfl)) (fun _ _ _ h => h) (Or.inl ⟨by rfl, ?_⟩) ?_ ?_
        rotate_left
        · intro w'
          go_simp
          with_reducible rfl
        rotate_left
        · simp only [Act.put, List.setIfInBounds_toArray, List.set_cons_zero, List.set_cons_succ, i64_w, i32_w]
          rfl
        refine one_ (i := 13) (N := some 12) #[true, true, true, true, true, true, true, true, true, true, true, true, true, true, false] rfl rfl (one_of HT_.out (by kernel_rfl)) (by decide) (fun K hK => ?_)
        refine box_step ?hg (N := 12) ?hd (cs := #[.int .i64 0, .int .i64 0, .int .i64 0, .int .i64 0]) (t := 44) ?hr ?_; (case hd => rfl); (case hg => rfl); (case hr => first | (go_simp; done) | (go_simp; rfl))
        intro gb152 hg w17 hbox hb
        have n0_ := Aside0.mk (blk_below (g := gb149) (o := .cells #[.int .i64 (wrap64 (t147 - 10000)), .int .i64 (wrap64 (t148 - 10000))] 31 (0, 0)) (by (with_reducible repeat (first | refine blk_drewN ?_ _ | refine blk_drew ?_ | refine blk_alloc ?_ _)); exact BK149.out) hb)
        have n1_ := Aside0.mk (below_step (by repeat (first | (with_reducible first | exact HB.out | apply below_alloc | apply pw_below_drewN | apply below_drew1 | refine below_set ?_ GE149.out) | exact HB.out)) hb)
        have n2_ := Aside0.mk (hbox)
        have n3_ := Aside0.mk ((by rw [hg]; exact (below_size (by repeat (first | (with_reducible first | exact HB.out | apply below_alloc | apply pw_below_drewN | apply below_drew1 | refine below_set ?_ GE149.out) | exact HB.out))) : w.heap.size ≤ gb152))
        have n4_ := Aside0.mk ((by rw [hg]; exact (below_size (by repeat (first | (with_reducible first | exact HB.out | apply below_alloc | apply pw_below_drewN | apply below_drew1 | refine below_set ?_ GE149.out) | exact HB.out))) : w.heap.size ≤ gb152))
        have n5_ := Aside0.mk ((by rw [hg]; exact Nat.ne_of_lt (blk_lt (g := gb149) (o := .cells #[.int .i64 (wrap64 (t147 - 10000)), .int .i64 (wrap64 (t148 - 10000))] 31 (0, 0)) (by (with_reducible repeat (first | refine blk_drewN ?_ _ | refine blk_drew ?_ | refine blk_alloc ?_ _)); exact BK149.out)) : gb149 ≠ gb152))
        have n6_ := Aside0.mk ((by rw [hg]; exact Nat.ne_of_gt (blk_lt (g := gb149) (o := .cells #[.int .i64 (wrap64 (t147 - 10000)), .int .i64 (wrap64 (t148 - 10000))] 31 (0, 0)) (by (with_reducible repeat (first | refine blk_drewN ?_ _ | refine blk_drew ?_ | refine blk_alloc ?_ _)); exact BK149.out)) : gb152 ≠ gb149))
        clear BK149
        clear HB
        have BK149 := n0_
        have HB := n1_
        have BK152 := n2_
        have GW152 := n3_
        have GE152 := n4_
        have NB149_152 := n5_
        have NB152_149 := n6_
        clear n0_ n1_ n2_ n3_ n4_ n5_ n6_
        clear hb hbox hg
        refine hK.out _ _ ⟨(blk_cell BK149.out 0).trans rfl, (blk_cell BK149.out 1).trans rfl⟩ (fun hHeld => ?_)
        clear hK K
        refine norm_ (a' := ?_) ?_ ?_
        rotate_left
        · show Act.put _ (some 12) _ = _
          simp only [Act.put, List.setIfInBounds_toArray, List.set_cons_zero, List.set_cons_succ, i64_w, i32_w]
          rfl
        exact norm_ (by simp only [putAll, Act.put, List.setIfInBounds_toArray, List.set_cons_zero, List.set_cons_succ]) (hCont (gb152) _ ⟨hHeld, (by (with_reducible repeat (first | refine blk_drewN ?_ _ | refine blk_drew ?_ | refine blk_alloc ?_ _)); exact BK149.out), (by (with_reducible repeat (first | refine blk_drewN ?_ _ | refine blk_drew ?_ | refine blk_alloc ?_ _)); exact BK152.out), GW152.out, GE152.out, NB149_152.out, NB152_149.out, (by repeat (first | (with_reducible first | exact HB.out | apply below_alloc | apply pw_below_drewN | apply below_drew1 | refine below_set ?_ GE149.out | refine below_set ?_ GE152.out) | exact HB.out))⟩)
      · skip
        refine box_step ?hg (N := 12) ?hd (cs := #[.int .i64 0, .int .i64 0, .int .i64 0, .int .i64 0]) (t := 44) ?hr ?_; (case hd => rfl); (case hg => rfl); (case hr => first | (go_simp; done) | (go_simp; rfl))
        intro gb152 hg w17 hbox hb
        have n0_ := Aside0.mk (blk_below (g := gb149) (o := .cells #[.int .i64 (wrap64 (t147 - 10000)), .int .i64 (wrap64 (t148 - 10000))] 31 (0, 0)) (by (with_reducible repeat (first | refine blk_drewN ?_ _ | refine blk_drew ?_ | refine blk_alloc ?_ _)); exact BK149.out) hb)
        have n1_ := Aside0.mk (below_step (by repeat (first | (with_reducible first | exact HB.out | apply below_alloc | apply pw_below_drewN | apply below_drew1 | refine below_set ?_ GE149.out) | exact HB.out)) hb)
        have n2_ := Aside0.mk (hbox)
        have n3_ := Aside0.mk ((by rw [hg]; exact (below_size (by repeat (first | (with_reducible first | exact HB.out | apply below_alloc | apply pw_below_drewN | apply below_drew1 | refine below_set ?_ GE149.out) | exact HB.out))) : w.heap.size ≤ gb152))
        have n4_ := Aside0.mk ((by rw [hg]; exact (below_size (by repeat (first | (with_reducible first | exact HB.out | apply below_alloc | apply pw_below_drewN | apply below_drew1 | refine below_set ?_ GE149.out) | exact HB.out))) : w.heap.size ≤ gb152))
        have n5_ := Aside0.mk ((by rw [hg]; exact Nat.ne_of_lt (blk_lt (g := gb149) (o := .cells #[.int .i64 (wrap64 (t147 - 10000)), .int .i64 (wrap64 (t148 - 10000))] 31 (0, 0)) (by (with_reducible repeat (first | refine blk_drewN ?_ _ | refine blk_drew ?_ | refine blk_alloc ?_ _)); exact BK149.out)) : gb149 ≠ gb152))
        have n6_ := Aside0.mk ((by rw [hg]; exact Nat.ne_of_gt (blk_lt (g := gb149) (o := .cells #[.int .i64 (wrap64 (t147 - 10000)), .int .i64 (wrap64 (t148 - 10000))] 31 (0, 0)) (by (with_reducible repeat (first | refine blk_drewN ?_ _ | refine blk_drew ?_ | refine blk_alloc ?_ _)); exact BK149.out)) : gb152 ≠ gb149))
        clear BK149
        clear HB
        have BK149 := n0_
        have HB := n1_
        have BK152 := n2_
        have GW152 := n3_
        have GE152 := n4_
        have NB149_152 := n5_
        have NB152_149 := n6_
        clear n0_ n1_ n2_ n3_ n4_ n5_ n6_
        clear hb hbox hg
        refine hK.out _ _ ⟨(blk_cell BK149.out 0).trans rfl, (blk_cell BK149.out 1).trans rfl⟩ (fun hHeld => ?_)
        clear hK K
        refine norm_ (a' := ?_) ?_ ?_
        rotate_left
        · show Act.put _ (some 12) _ = _
          simp only [Act.put, List.setIfInBounds_toArray, List.set_cons_zero, List.set_cons_succ, i64_w, i32_w]
          rfl
        refine one_ (i := 9) (N := some 38) #[true, true, true, true, true, true, true, true, true, true, false, false, false, true, false] rfl rfl (one_of HT_.out (by kernel_rfl)) (by decide) (fun K hK => ?_)
        refine goes_ Try.func13 (by kernel_rfl) rfl #[.int .i64 a3, .int .i64 9000] (by rfl) rfl rfl (by (try simp only [List.map_toArray, List.map_cons, List.map_nil]); first | done | rfl | (simp only [List.length_drop, List.length_take]; rfl)) ?_
        with_reducible refine (terrmake_Below.calls a3 9000 t151 _ A9.out).mono ?_
        rintro e w' ⟨rfl, ⟨nd, rfl⟩⟩
        refine ⟨_, rfl, ?_⟩
        refine hK.out _ _ ⟨(blk_cell BK149.out 0).trans rfl, (blk_cell BK149.out 1).trans rfl⟩ (fun hHeld => ?_)
        clear hK K
        refine norm_ (a' := ?_) ?_ ?_
        rotate_left
        · show Act.put _ (some 38) _ = _
          simp only [Act.put, List.setIfInBounds_toArray, List.set_cons_zero, List.set_cons_succ, i64_w, i32_w]
          rfl
        refine pure_ (i := 10) (N := some 39) (v := ?_) (a' := ?_) #[true, true, true, true, true, true, true, true, true, true, true, false, false, true, false] rfl rfl (any_of HT_.out (by kernel_rfl)) (fun _ _ _ h => h) (Or.inl ⟨by rfl, ?_⟩) ?_ ?_
        rotate_left
        · intro w'
          go_simp
          with_reducible rfl
        rotate_left
        · simp only [Act.put, List.setIfInBounds_toArray, List.set_cons_zero, List.set_cons_succ, i64_w, i32_w]
          rfl
        refine pure_ (i := 11) (N := some 40) (v := ?_) (a' := ?_) #[true, true, true, true, true, true, true, true, true, true, true, true, false, true, false] rfl rfl (any_of HT_.out (by kernel_rfl)) (fun _ _ _ h => h) (Or.inl ⟨by rfl, ?_⟩) ?_ ?_
        rotate_left
        · intro w'
          go_simp
          with_reducible rfl
        rotate_left
        · simp only [Act.put, List.setIfInBounds_toArray, List.set_cons_zero, List.set_cons_succ, i64_w, i32_w]
          rfl
        refine pure_ (i := 12) (N := some 41) (v := ?_) (a' := ?_) #[true, true, true, true, true, true, true, true, true, true, true, true, true, true, false] rfl rfl (any_of HT_.out (by kernel_rfl)) (fun _ _ _ h => h) (Or.inl ⟨by rfl, ?_⟩) ?_ ?_
        rotate_left
        · intro w'
          go_simp
          with_reducible rfl
        rotate_left
        · simp only [Act.put, List.setIfInBounds_toArray, List.set_cons_zero, List.set_cons_succ, i64_w, i32_w]
          rfl
        exact norm_ (by simp only [putAll, Act.put, List.setIfInBounds_toArray, List.set_cons_zero, List.set_cons_succ]) (hCont (gb152) _ ⟨hHeld, (by (with_reducible repeat (first | refine blk_drewN ?_ _ | refine blk_drew ?_ | refine blk_alloc ?_ _)); exact BK149.out), (by (with_reducible repeat (first | refine blk_drewN ?_ _ | refine blk_drew ?_ | refine blk_alloc ?_ _)); exact BK152.out), GW152.out, GE152.out, NB149_152.out, NB152_149.out, (by repeat (first | (with_reducible first | exact HB.out | apply below_alloc | apply pw_below_drewN | apply below_drew1 | refine below_set ?_ GE149.out | refine below_set ?_ GE152.out) | exact HB.out))⟩)
    · skip
      refine box_step ?hg (N := 12) ?hd (cs := #[.int .i64 0, .int .i64 0, .int .i64 0, .int .i64 0]) (t := 44) ?hr ?_; (case hd => rfl); (case hg => rfl); (case hr => first | (go_simp; done) | (go_simp; rfl))
      intro gb152 hg w17 hbox hb
      have n0_ := Aside0.mk (blk_below (g := gb149) (o := .cells #[.int .i64 (wrap64 (t147 - 10000)), .int .i64 (wrap64 (t148 - 10000))] 31 (0, 0)) (by (with_reducible repeat (first | refine blk_drewN ?_ _ | refine blk_drew ?_ | refine blk_alloc ?_ _)); exact BK149.out) hb)
      have n1_ := Aside0.mk (below_step (by repeat (first | (with_reducible first | exact HB.out | apply below_alloc | apply pw_below_drewN | apply below_drew1 | refine below_set ?_ GE149.out) | exact HB.out)) hb)
      have n2_ := Aside0.mk (hbox)
      have n3_ := Aside0.mk ((by rw [hg]; exact (below_size (by repeat (first | (with_reducible first | exact HB.out | apply below_alloc | apply pw_below_drewN | apply below_drew1 | refine below_set ?_ GE149.out) | exact HB.out))) : w.heap.size ≤ gb152))
      have n4_ := Aside0.mk ((by rw [hg]; exact (below_size (by repeat (first | (with_reducible first | exact HB.out | apply below_alloc | apply pw_below_drewN | apply below_drew1 | refine below_set ?_ GE149.out) | exact HB.out))) : w.heap.size ≤ gb152))
      have n5_ := Aside0.mk ((by rw [hg]; exact Nat.ne_of_lt (blk_lt (g := gb149) (o := .cells #[.int .i64 (wrap64 (t147 - 10000)), .int .i64 (wrap64 (t148 - 10000))] 31 (0, 0)) (by (with_reducible repeat (first | refine blk_drewN ?_ _ | refine blk_drew ?_ | refine blk_alloc ?_ _)); exact BK149.out)) : gb149 ≠ gb152))
      have n6_ := Aside0.mk ((by rw [hg]; exact Nat.ne_of_gt (blk_lt (g := gb149) (o := .cells #[.int .i64 (wrap64 (t147 - 10000)), .int .i64 (wrap64 (t148 - 10000))] 31 (0, 0)) (by (with_reducible repeat (first | refine blk_drewN ?_ _ | refine blk_drew ?_ | refine blk_alloc ?_ _)); exact BK149.out)) : gb152 ≠ gb149))
      clear BK149
      clear HB
      have BK149 := n0_
      have HB := n1_
      have BK152 := n2_
      have GW152 := n3_
      have GE152 := n4_
      have NB149_152 := n5_
      have NB152_149 := n6_
      clear n0_ n1_ n2_ n3_ n4_ n5_ n6_
      clear hb hbox hg
      refine hK.out _ _ ⟨(blk_cell BK149.out 0).trans rfl, (blk_cell BK149.out 1).trans rfl⟩ (fun hHeld => ?_)
      clear hK K
      refine norm_ (a' := ?_) ?_ ?_
      rotate_left
      · show Act.put _ (some 12) _ = _
        simp only [Act.put, List.setIfInBounds_toArray, List.set_cons_zero, List.set_cons_succ, i64_w, i32_w]
        rfl
      refine one_ (i := 4) (N := some 33) #[true, true, true, true, true, false, true, true, true, false, false, false, false, true, false] rfl rfl (one_of HT_.out (by kernel_rfl)) (by decide) (fun K hK => ?_)
      refine goes_ Try.func13 (by kernel_rfl) rfl #[.int .i64 a2, .int .i64 9000] (by rfl) rfl rfl (by (try simp only [List.map_toArray, List.map_cons, List.map_nil]); first | done | rfl | (simp only [List.length_drop, List.length_take]; rfl)) ?_
      with_reducible refine (terrmake_Below.calls a2 9000 t150 _ A8.out).mono ?_
      rintro e w' ⟨rfl, ⟨nd, rfl⟩⟩
      refine ⟨_, rfl, ?_⟩
      refine hK.out _ _ ⟨(blk_cell BK149.out 0).trans rfl, (blk_cell BK149.out 1).trans rfl⟩ (fun hHeld => ?_)
      clear hK K
      refine norm_ (a' := ?_) ?_ ?_
      rotate_left
      · show Act.put _ (some 33) _ = _
        simp only [Act.put, List.setIfInBounds_toArray, List.set_cons_zero, List.set_cons_succ, i64_w, i32_w]
        rfl
      refine pure_ (i := 5) (N := some 34) (v := ?_) (a' := ?_) #[true, true, true, true, true, true, true, true, true, false, false, false, false, true, false] rfl rfl (any_of HT_.out (by kernel_rfl)) (fun _ _ _ h => h) (Or.inl ⟨by rfl, ?_⟩) ?_ ?_
      rotate_left
      · intro w'
        go_simp
        with_reducible rfl
      rotate_left
      · simp only [Act.put, List.setIfInBounds_toArray, List.set_cons_zero, List.set_cons_succ, i64_w, i32_w]
        rfl
      refine one_ (i := 9) (N := some 38) #[true, true, true, true, true, true, true, true, true, true, false, false, false, true, false] rfl rfl (one_of HT_.out (by kernel_rfl)) (by decide) (fun K hK => ?_)
      refine goes_ Try.func13 (by kernel_rfl) rfl #[.int .i64 a3, .int .i64 9000] (by rfl) rfl rfl (by (try simp only [List.map_toArray, List.map_cons, List.map_nil]); first | done | rfl | (simp only [List.length_drop, List.length_take]; rfl)) ?_
      with_reducible refine (terrmake_Below.calls a3 9000 t151 _ A9.out).mono ?_
      rintro e w' ⟨rfl, ⟨nd, rfl⟩⟩
      refine ⟨_, rfl, ?_⟩
      refine hK.out _ _ ⟨(blk_cell BK149.out 0).trans rfl, (blk_cell BK149.out 1).trans rfl⟩ (fun hHeld => ?_)
      clear hK K
      refine norm_ (a' := ?_) ?_ ?_
      rotate_left
      · show Act.put _ (some 38) _ = _
        simp only [Act.put, List.setIfInBounds_toArray, List.set_cons_zero, List.set_cons_succ, i64_w, i32_w]
        rfl
      refine pure_ (i := 10) (N := some 39) (v := ?_) (a' := ?_) #[true, true, true, true, true, true, true, true, true, true, true, false, false, true, false] rfl rfl (any_of HT_.out (by kernel_rfl)) (fun _ _ _ h => h) (Or.inl ⟨by rfl, ?_⟩) ?_ ?_
      rotate_left
      · intro w'
        go_simp
        with_reducible rfl
      rotate_left
      · simp only [Act.put, List.setIfInBounds_toArray, List.set_cons_zero, List.set_cons_succ, i64_w, i32_w]
        rfl
      refine pure_ (i := 11) (N := some 40) (v := ?_) (a' := ?_) #[true, true, true, true, true, true, true, true, true, true, true, true, false, true, false] rfl rfl (any_of HT_.out (by kernel_rfl)) (fun _ _ _ h => h) (Or.inl ⟨by rfl, ?_⟩) ?_ ?_
      rotate_left
      · intro w'
        go_simp
        with_reducible rfl
      rotate_left
      · simp only [Act.put, List.setIfInBounds_toArray, List.set_cons_zero, List.set_cons_succ, i64_w, i32_w]
        rfl
      refine pure_ (i := 12) (N := some 41) (v := ?_) (a' := ?_) #[true, true, true, true, true, true, true, true, true, true, true, true, true, true, false] rfl rfl (any_of HT_.out (by kernel_rfl)) (fun _ _ _ h => h) (Or.inl ⟨by rfl, ?_⟩) ?_ ?_
      rotate_left
      · intro w'
        go_simp
        with_reducible rfl
      rotate_left
      · simp only [Act.put, List.setIfInBounds_toArray, List.set_cons_zero, List.set_cons_succ, i64_w, i32_w]
        rfl
      exact norm_ (by simp only [putAll, Act.put, List.setIfInBounds_toArray, List.set_cons_zero, List.set_cons_succ]) (hCont (gb152) _ ⟨hHeld, (by (with_reducible repeat (first | refine blk_drewN ?_ _ | refine blk_drew ?_ | refine blk_alloc ?_ _)); exact BK149.out), (by (with_reducible repeat (first | refine blk_drewN ?_ _ | refine blk_drew ?_ | refine blk_alloc ?_ _)); exact BK152.out), GW152.out, GE152.out, NB149_152.out, NB152_149.out, (by repeat (first | (with_reducible first | exact HB.out | apply below_alloc | apply pw_below_drewN | apply below_drew1 | refine below_set ?_ GE149.out | refine below_set ?_ GE152.out) | exact HB.out))⟩)
  rintro gb152 w18 ⟨hS_, h0_, h1_, h2_, h3_, h4_, h5_, h6_⟩
  have n0_ : Aside0 (w18.heap[gb149]? = some (.cells #[.int .i64 (wrap64 (t147 - 10000)), .int .i64 (wrap64 (t148 - 10000))] 31 (0, 0))) := ⟨h0_⟩
  have n1_ : Aside0 (w18.heap[gb152]? = some (.cells #[.int .i64 0, .int .i64 0, .int .i64 0, .int .i64 0] 44 (0, 0))) := ⟨h1_⟩
  have n2_ : Aside0 (w.heap.size ≤ gb152) := ⟨h2_⟩
  have n3_ : Aside0 (w.heap.size ≤ gb152) := ⟨h3_⟩
  have n4_ : Aside0 (gb149 ≠ gb152) := ⟨h4_⟩
  have n5_ : Aside0 (gb152 ≠ gb149) := ⟨h5_⟩
  have n6_ : Aside0 (Below w.heap.size w w18) := ⟨h6_⟩
  clear BK149
  clear HB
  clear h0_ h1_ h2_ h3_ h4_ h5_ h6_
  have BK149 := n0_
  have BK152 := n1_
  have GW152 := n2_
  have GE152 := n3_
  have NB149_152 := n4_
  have NB152_149 := n5_
  have HB := n6_
  clear n0_ n1_ n2_ n3_ n4_ n5_ n6_
  have hHeld : w18.cell? ⟨gb149, 0, none⟩ = some (.int .i64 (wrap64 (t147 - 10000))) ∧ w18.cell? ⟨gb149, 1, none⟩ = some (.int .i64 (wrap64 (t148 - 10000))) := hS_
  refine norm_ (a' := ?_) ?_ ?_
  rotate_left
  · simp only [putAll, Act.put, List.setIfInBounds_toArray, List.set_cons_zero, List.set_cons_succ]
    rfl
  refine one_ (i := 14) (N := none) #[true, true, true, true, true, true, true, true, true, true, true, true, true, true, true] rfl rfl (one_of HT_.out (by kernel_rfl)) (by decide) (fun K hK => ?_)
  have hs19 : w18.cell? ⟨gb152, 0, none⟩ = some (.int .i64 0) := (blk_cell BK152.out 0).trans rfl
  have hfs19 := blk_frozen BK152.out 0
  have hns19_0 := NB149_152.out
  have hms19_0 := NB152_149.out
  have hs20 : w18.cell? ⟨gb152, 1, none⟩ = some (.int .i64 0) := (blk_cell BK152.out 1).trans rfl
  have hfs20 := blk_frozen BK152.out 1
  have hns20_0 := NB149_152.out
  have hms20_0 := NB152_149.out
  have hs21 : w18.cell? ⟨gb152, 2, none⟩ = some (.int .i64 0) := (blk_cell BK152.out 2).trans rfl
  have hfs21 := blk_frozen BK152.out 2
  have hns21_0 := NB149_152.out
  have hms21_0 := NB152_149.out
  have hs22 : w18.cell? ⟨gb152, 3, none⟩ = some (.int .i64 0) := (blk_cell BK152.out 3).trans rfl
  have hfs22 := blk_frozen BK152.out 3
  have hns22_0 := NB149_152.out
  have hms22_0 := NB152_149.out
  refine skip_ (w1 := ?_) (by rfl) rfl ?_ ?_
  rotate_left
  · go_simp
    rfl
  refine hK.out _ _ ⟨((cell_far (p := ⟨gb152, _, none⟩) NB149_152.out _).trans (((cell_far (p := ⟨gb152, _, none⟩) NB149_152.out _).trans (((cell_far (p := ⟨gb152, _, none⟩) NB149_152.out _).trans (((cell_far (p := ⟨gb152, _, none⟩) NB149_152.out _).trans (hHeld.1)))))))), ((cell_far (p := ⟨gb152, _, none⟩) NB149_152.out _).trans (((cell_far (p := ⟨gb152, _, none⟩) NB149_152.out _).trans (((cell_far (p := ⟨gb152, _, none⟩) NB149_152.out _).trans (((cell_far (p := ⟨gb152, _, none⟩) NB149_152.out _).trans (hHeld.2))))))))⟩ (fun hHeld => ?_)
  clear hK K
  refine done_ (done_of HT_.out (by kernel_rfl)) ?_
  go_upto_region 5 with (first | ((with_reducible refine gate_callee (f := 32) rfl ?_); refine goesL_ (some 43) rfl rfl Try.func32 (by kernel_rfl) rfl #[.int .i64 a4] rfl (by (try simp only [List.map_toArray, List.map_cons, List.map_nil]); first | done | rfl | (simp only [List.length_drop, List.length_take]; rfl)) ?_; (with_reducible refine (terrkeep5_Zoom.calls a4 t153 _ A10.out).mono ?_); rintro e w' ⟨rfl, ⟨nd, rfl⟩⟩; refine ⟨_, rfl, ?_⟩; have hnb23 := NB152_149.out; have hnc23 := NB149_152.out; have hcz24_0 : w18.cell? ⟨gb152, 0, none⟩ = some (.int .i64 0) := (blk_cell BK152.out 0).trans rfl; have hcz24_1 : w18.cell? ⟨gb152, 1, none⟩ = some (.int .i64 0) := (blk_cell BK152.out 1).trans rfl; have hcz24_2 : w18.cell? ⟨gb152, 2, none⟩ = some (.int .i64 0) := (blk_cell BK152.out 2).trans rfl; have hcz24_3 : w18.cell? ⟨gb152, 3, none⟩ = some (.int .i64 0) := (blk_cell BK152.out 3).trans rfl; have hfz24_0 := blk_frozen BK152.out 0; have hfz24_1 := blk_frozen BK152.out 1; have hfz24_2 := blk_frozen BK152.out 2; have hfz24_3 := blk_frozen BK152.out 3) | ((with_reducible refine gate_callee (f := 33) rfl ?_); refine goesL_ (some 47) rfl rfl Try.func33 (by kernel_rfl) rfl #[.agg #[.int .i64 (wrap64 (t147 - 10000)), .int .i64 (wrap64 (t148 - 10000)), .int .i64 (wrap64 ((wrap64 (t147 - 10000)) + t150)), .int .i64 (wrap64 ((wrap64 (t148 - 10000)) + t151))], .int .i64 t153] rfl (by (try simp only [List.map_toArray, List.map_cons, List.map_nil]); first | done | rfl | (simp only [List.length_drop, List.length_take]; rfl)) ?_; (with_reducible refine (tile_All.calls k (wrap64 (t147 - 10000)) (wrap64 (t148 - 10000)) (wrap64 ((wrap64 (t147 - 10000)) + t150)) (wrap64 ((wrap64 (t148 - 10000)) + t151)) t153 t154 t157 _ A11.out).mono ?_); rintro e w25 ⟨v155, rfl, ho0, hb⟩; refine ⟨_, rfl, ?_⟩; have n0_ := Aside0.mk (Kd.R_lower ho0 (below_size (by repeat (first | (with_reducible first | exact HB.out | apply below_alloc | apply pw_below_drewN | apply below_drew1 | refine below_set ?_ GE149.out | refine below_set ?_ GE152.out) | exact HB.out)))); have n1_ := Aside0.mk (blk_below (g := gb149) (o := .cells #[.int .i64 (wrap64 (t147 - 10000)), .int .i64 (wrap64 (t148 - 10000))] 31 (0, 0)) (by (with_reducible repeat (first | refine blk_drewN ?_ _ | refine blk_drew ?_ | refine blk_alloc ?_ _)); refine blk_far ?_ NB149_152.out _; (with_reducible repeat (first | refine blk_drewN ?_ _ | refine blk_drew ?_ | refine blk_alloc ?_ _)); refine blk_far ?_ NB149_152.out _; (with_reducible repeat (first | refine blk_drewN ?_ _ | refine blk_drew ?_ | refine blk_alloc ?_ _)); refine blk_far ?_ NB149_152.out _; (with_reducible repeat (first | refine blk_drewN ?_ _ | refine blk_drew ?_ | refine blk_alloc ?_ _)); refine blk_far ?_ NB149_152.out _; (with_reducible repeat (first | refine blk_drewN ?_ _ | refine blk_drew ?_ | refine blk_alloc ?_ _)); exact BK149.out) hb); have n2_ := Aside0.mk (blk_below (g := gb152) (o := .cells #[.int .i64 (wrap64 (t147 - 10000)), .int .i64 (wrap64 (t148 - 10000)), .int .i64 (wrap64 ((wrap64 (t147 - 10000)) + t150)), .int .i64 (wrap64 ((wrap64 (t148 - 10000)) + t151))] 44 (0, 0)) (by (with_reducible repeat (first | refine blk_drewN ?_ _ | refine blk_drew ?_ | refine blk_alloc ?_ _)); refine blk_put (cs := #[.int .i64 (wrap64 (t147 - 10000)), .int .i64 (wrap64 (t148 - 10000)), .int .i64 (wrap64 ((wrap64 (t147 - 10000)) + t150)), .int .i64 0]) ?_ 3 _ rfl; (with_reducible repeat (first | refine blk_drewN ?_ _ | refine blk_drew ?_ | refine blk_alloc ?_ _)); refine blk_put (cs := #[.int .i64 (wrap64 (t147 - 10000)), .int .i64 (wrap64 (t148 - 10000)), .int .i64 0, .int .i64 0]) ?_ 2 _ rfl; (with_reducible repeat (first | refine blk_drewN ?_ _ | refine blk_drew ?_ | refine blk_alloc ?_ _)); refine blk_put (cs := #[.int .i64 (wrap64 (t147 - 10000)), .int .i64 0, .int .i64 0, .int .i64 0]) ?_ 1 _ rfl; (with_reducible repeat (first | refine blk_drewN ?_ _ | refine blk_drew ?_ | refine blk_alloc ?_ _)); refine blk_put (cs := #[.int .i64 0, .int .i64 0, .int .i64 0, .int .i64 0]) ?_ 0 _ rfl; (with_reducible repeat (first | refine blk_drewN ?_ _ | refine blk_drew ?_ | refine blk_alloc ?_ _)); exact BK152.out) hb); have n3_ := Aside0.mk (below_step (by repeat (first | (with_reducible first | exact HB.out | apply below_alloc | apply pw_below_drewN | apply below_drew1 | refine below_set ?_ GE149.out | refine below_set ?_ GE152.out) | exact HB.out)) hb); clear BK149; clear BK152; clear HB; have HO156 := n0_; have BK149 := n1_; have BK152 := n2_; have HB := n3_; clear n0_ n1_ n2_ n3_; (try clear hb); (try clear hb2); (try clear hk); (try clear hi); (try clear ho0)))
  (try simp only [Act.put, List.setIfInBounds_toArray, List.set_cons_zero, List.set_cons_succ])
  go_cut [56] (fun v56 wc => ∃ (kq : Nat) (x56_11 : Bool), v56 = .bool x56_11 ∧ Aside0 (terrkeep5_TileMeets.j0 kq t153 t154 x56_11 (wrap64 (t147 - 10000)) (wrap64 (t148 - 10000)) (wrap64 ((wrap64 (t147 - 10000)) + t150)) (wrap64 ((wrap64 (t148 - 10000)) + t151)) = some r) ∧ Aside0 (kq ≤ k) ∧ Aside0 (Kd.R k34 34 wc w.heap.size (fun _ => True) v155 t154) ∧ Aside0 (wc.heap[gb149]? = some (.cells #[.int .i64 (wrap64 (t147 - 10000)), .int .i64 (wrap64 (t148 - 10000))] 31 (0, 0))) ∧ Aside0 (wc.heap[gb152]? = some (.cells #[.int .i64 (wrap64 (t147 - 10000)), .int .i64 (wrap64 (t148 - 10000)), .int .i64 (wrap64 ((wrap64 (t147 - 10000)) + t150)), .int .i64 (wrap64 ((wrap64 (t148 - 10000)) + t151))] 44 (0, 0))) ∧ Aside0 (Below w.heap.size w wc))
  case first =>
    have H := HC12.out
    clear HC12
    by_cases c26 : t157 = 0
    · rw [if_pos c26] at H
      have c26b0 : (t157 == 0) = true := beq_iff_eq.mpr c26
      have c26b1 : (t157 != 0) = false := bne_eq_false_iff_eq.mpr c26
      clear c26
      (first | rw [c26b0] | (simp only [i64_w, i32_w]; rw [c26b0]) | skip)
      have H' := Aside0.mk H
      clear H
      obtain ⟨Ao27, co27, eo27⟩ := Kd.R_slice HO156.out
      subst eo27
      go_wp2
      go_meet
      case rel => exact ⟨_, (((t154.length : Int) == 0)), (by first | rfl | (simp; done) | (simp [*]; done)), H', ⟨by first | omega | exact Nat.le_refl _⟩, ⟨by (with_reducible repeat (first | apply Kd.R_alloc | apply Kd.R_drewN | apply Kd.R_drew)); exact HO156.out⟩, ⟨by (with_reducible repeat (first | refine blk_drewN ?_ _ | refine blk_drew ?_ | refine blk_alloc ?_ _)); exact BK149.out⟩, ⟨by (with_reducible repeat (first | refine blk_drewN ?_ _ | refine blk_drew ?_ | refine blk_alloc ?_ _)); exact BK152.out⟩, ⟨by repeat (first | (with_reducible first | exact HB.out | apply below_alloc | apply pw_below_drewN | apply below_drew1 | refine below_set ?_ GE149.out | refine below_set ?_ GE152.out) | exact HB.out)⟩⟩
    · rw [if_neg c26] at H
      have c26b0 : (t157 == 0) = false := beq_eq_false_iff_ne.mpr c26
      have c26b1 : (t157 != 0) = true := bne_iff_ne.mpr c26
      (first | rw [c26b0] | (simp only [i64_w, i32_w]; rw [c26b0]) | skip)
      have H' := Aside0.mk H
      clear H
      go_wp2
      go_meet
      case rel => exact ⟨_, (true), (by first | rfl | (simp; done) | (simp [*]; done)), H', ⟨by first | omega | exact Nat.le_refl _⟩, ⟨by (with_reducible repeat (first | apply Kd.R_alloc | apply Kd.R_drewN | apply Kd.R_drew)); exact HO156.out⟩, ⟨by (with_reducible repeat (first | refine blk_drewN ?_ _ | refine blk_drew ?_ | refine blk_alloc ?_ _)); exact BK149.out⟩, ⟨by (with_reducible repeat (first | refine blk_drewN ?_ _ | refine blk_drew ?_ | refine blk_alloc ?_ _)); exact BK152.out⟩, ⟨by repeat (first | (with_reducible first | exact HB.out | apply below_alloc | apply pw_below_drewN | apply below_drew1 | refine below_set ?_ GE149.out | refine below_set ?_ GE152.out) | exact HB.out)⟩⟩
  case rest =>
    clear HC12
    try clear c1
    try clear c2
    try clear p2
    try clear c3
    try clear p5
    try clear p6
    try clear c9
    try clear c13
    try clear c23
    try clear c26
    try clear c26b0
    try clear c26b1
    try clear hcz14_0
    try clear hcz14_1
    try clear hcz24_0
    try clear hcz24_1
    try clear hcz24_2
    try clear hcz24_3
    try clear hfz14_0
    try clear hfz14_1
    try clear hfz24_0
    try clear hfz24_1
    try clear hfz24_2
    try clear hfz24_3
    obtain ⟨kq, x56_11, rfl, HA, HJ11, HO_14, BK149, BK152, HB⟩ := hcut
    cases kq with
    | zero => exact absurd HA.out (by simp [terrkeep5_TileMeets.j0])
    | succ kj11 =>
      have H := HA.out
      clear HA
      simp only [terrkeep5_TileMeets.j0] at H
      by_cases c28 : x56_11 = true
      · subst c28
        have H1 : (some false) = some r := by rw [if_pos rfl] at H; exact H
        clear H
        have H := H1
        clear H1
        exact absurd (H.trans (congrArg some hr)) (by decide)
      · replace c28 := Bool.eq_false_iff.mpr c28
        subst c28
        have H1 : (terrkeep5_TileMeets.l0 kj11 t153 t154 t154 (t154.length : Int) 0 (wrap64 (t147 - 10000)) (wrap64 (t148 - 10000)) (wrap64 ((wrap64 (t147 - 10000)) + t150)) (wrap64 ((wrap64 (t148 - 10000)) + t151))) = some r := by rw [if_neg (show ¬ (false = true) by decide)] at H; exact H
        clear H
        have H := H1
        clear H1
        have H' := Aside0.mk H
        clear H
        obtain ⟨Ao29, co29, eo29⟩ := Kd.R_slice HO_14.out
        subst eo29
        go_wp2
        go_loopg [59] kj11 (fun kq v59 w' => ∃ (x59_2 : Int), v59 = .int .i64 x59_2 ∧ Aside0 (terrkeep5_TileMeets.l0 kq t153 t154 t154 (t154.length : Int) x59_2 (wrap64 (t147 - 10000)) (wrap64 (t148 - 10000)) (wrap64 ((wrap64 (t147 - 10000)) + t150)) (wrap64 ((wrap64 (t148 - 10000)) + t151)) = some r) ∧ Aside0 (kq ≤ kj11) ∧ Aside0 (Kd.R k34 34 w' w.heap.size (fun _ => True) (.slice Ao29 t154.length co29) t154) ∧ Aside0 (Kd.R k34 34 w' w.heap.size (fun _ => True) (.slice Ao29 t154.length co29) t154) ∧ Aside0 (w'.heap[gb149]? = some (.cells #[.int .i64 (wrap64 (t147 - 10000)), .int .i64 (wrap64 (t148 - 10000))] 31 (0, 0))) ∧ Aside0 (w'.heap[gb152]? = some (.cells #[.int .i64 (wrap64 (t147 - 10000)), .int .i64 (wrap64 (t148 - 10000)), .int .i64 (wrap64 ((wrap64 (t147 - 10000)) + t150)), .int .i64 (wrap64 ((wrap64 (t148 - 10000)) + t151))] 44 (0, 0))) ∧ Aside0 (Below w.heap.size w w'))
        case atStart => exact ⟨(0), (by first | rfl | (simp; done) | (simp [*]; done)), H', ⟨Nat.le_refl _⟩, ⟨by (with_reducible repeat (first | apply Kd.R_alloc | apply Kd.R_drewN | apply Kd.R_drew)); exact HO_14.out⟩, ⟨by (with_reducible repeat (first | apply Kd.R_alloc | apply Kd.R_drewN | apply Kd.R_drew)); exact HO_14.out⟩, ⟨by (with_reducible repeat (first | refine blk_drewN ?_ _ | refine blk_drew ?_ | refine blk_alloc ?_ _)); exact BK149.out⟩, ⟨by (with_reducible repeat (first | refine blk_drewN ?_ _ | refine blk_drew ?_ | refine blk_alloc ?_ _)); exact BK152.out⟩, ⟨by repeat (first | (with_reducible first | exact HB.out | apply below_alloc | apply pw_below_drewN | apply below_drew1 | refine below_set ?_ GE149.out | refine below_set ?_ GE152.out) | exact HB.out)⟩⟩
        case round =>
          clear H'
          try clear c1
          try clear c2
          try clear p2
          try clear c3
          try clear p5
          try clear p6
          try clear c9
          try clear c13
          try clear c23
          try clear c26
          try clear c26b0
          try clear c26b1
          try clear c28
          try clear hcz14_0
          try clear hcz14_1
          try clear hcz24_0
          try clear hcz24_1
          try clear hcz24_2
          try clear hcz24_3
          try clear hfz14_0
          try clear hfz14_1
          try clear hfz24_0
          try clear hfz24_1
          try clear hfz24_2
          try clear hfz24_3
          try clear p2
          try clear p5
          try clear p6
          obtain ⟨x59_2, rfl, HA, HK2, HO_14, HO_57, BK149, BK152, HB⟩ := hrel
          cases gk with
          | zero => exact absurd HA.out (by simp [terrkeep5_TileMeets.l0])
          | succ k2 =>
            have H := HA.out
            clear HA
            simp only [terrkeep5_TileMeets.l0] at H
            by_cases c30 : x59_2 < (t154.length : Int)
            · rw [if_pos c30] at H
              have c30b0 : decide (x59_2 < (t154.length : Int)) = true := decide_eq_true c30
              clear c30
              by_cases c31 : 0 ≤ x59_2
              · rw [if_pos c31] at H
                have c31b0 : decide (0 ≤ x59_2) = true := decide_eq_true c31
                clear c31
                by_cases c32 : x59_2 < (t154.length : Int)
                · rw [if_pos c32] at H
                  have c32b0 : decide (x59_2 < (t154.length : Int)) = true := decide_eq_true c32
                  clear c32
                  by_cases c33 : ((rd_T34 t154 x59_2).f0) = t153
                  · rw [if_pos c33] at H
                    have c33b0 : (((rd_T34 t154 x59_2).f0) == t153) = true := beq_iff_eq.mpr c33
                    have c33b1 : (((rd_T34 t154 x59_2).f0) != t153) = false := bne_eq_false_iff_eq.mpr c33
                    clear c33
                    replace H := Option.bind_eq_some_iff.mp H
                    obtain ⟨⟨t160, t161, t162, t163⟩, A340, H⟩ := H
                    replace H : ((box_Meet.f t160 t161 t162 t163 (wrap64 (t147 - 10000)) (wrap64 (t148 - 10000)) (wrap64 ((wrap64 (t147 - 10000)) + t150)) (wrap64 ((wrap64 (t148 - 10000)) + t151))).bind fun t164 => (if t164 = true then (if x59_2 > 0 then (if 0 ≤ (wrap64 (x59_2 - 1)) then (if (wrap64 (x59_2 - 1)) < (t154.length : Int) then ((tile_Less.f ((rd_T34 t154 (wrap64 (x59_2 - 1))).f0) ((rd_T34 t154 (wrap64 (x59_2 - 1))).f1) ((rd_T34 t154 (wrap64 (x59_2 - 1))).f2) ((rd_T34 t154 x59_2).f0) ((rd_T34 t154 x59_2).f1) ((rd_T34 t154 x59_2).f2)).bind fun t166 => (if t166 = true then (terrkeep5_TileMeets.l0 k2 t153 t154 t154 (t154.length : Int) (wrap64 (x59_2 + 1)) (wrap64 (t147 - 10000)) (wrap64 (t148 - 10000)) (wrap64 ((wrap64 (t147 - 10000)) + t150)) (wrap64 ((wrap64 (t148 - 10000)) + t151))) else (some false))) else (none)) else (none)) else (terrkeep5_TileMeets.l0 k2 t153 t154 t154 (t154.length : Int) (wrap64 (x59_2 + 1)) (wrap64 (t147 - 10000)) (wrap64 (t148 - 10000)) (wrap64 ((wrap64 (t147 - 10000)) + t150)) (wrap64 ((wrap64 (t148 - 10000)) + t151)))) else (some false))) = some r := H
                    have A34 := Aside0.mk A340
                    clear A340
                    replace H := Option.bind_eq_some_iff.mp H
                    obtain ⟨t164, A350, H⟩ := H
                    replace H : (if t164 = true then (if x59_2 > 0 then (if 0 ≤ (wrap64 (x59_2 - 1)) then (if (wrap64 (x59_2 - 1)) < (t154.length : Int) then ((tile_Less.f ((rd_T34 t154 (wrap64 (x59_2 - 1))).f0) ((rd_T34 t154 (wrap64 (x59_2 - 1))).f1) ((rd_T34 t154 (wrap64 (x59_2 - 1))).f2) ((rd_T34 t154 x59_2).f0) ((rd_T34 t154 x59_2).f1) ((rd_T34 t154 x59_2).f2)).bind fun t166 => (if t166 = true then (terrkeep5_TileMeets.l0 k2 t153 t154 t154 (t154.length : Int) (wrap64 (x59_2 + 1)) (wrap64 (t147 - 10000)) (wrap64 (t148 - 10000)) (wrap64 ((wrap64 (t147 - 10000)) + t150)) (wrap64 ((wrap64 (t148 - 10000)) + t151))) else (some false))) else (none)) else (none)) else (terrkeep5_TileMeets.l0 k2 t153 t154 t154 (t154.length : Int) (wrap64 (x59_2 + 1)) (wrap64 (t147 - 10000)) (wrap64 (t148 - 10000)) (wrap64 ((wrap64 (t147 - 10000)) + t150)) (wrap64 ((wrap64 (t148 - 10000)) + t151)))) else (some false)) = some r := H
                    have A35 := Aside0.mk A350
                    clear A350
                    by_cases c36 : t164 = true
                    · subst c36
                      have H1 : (if x59_2 > 0 then (if 0 ≤ (wrap64 (x59_2 - 1)) then (if (wrap64 (x59_2 - 1)) < (t154.length : Int) then ((tile_Less.f ((rd_T34 t154 (wrap64 (x59_2 - 1))).f0) ((rd_T34 t154 (wrap64 (x59_2 - 1))).f1) ((rd_T34 t154 (wrap64 (x59_2 - 1))).f2) ((rd_T34 t154 x59_2).f0) ((rd_T34 t154 x59_2).f1) ((rd_T34 t154 x59_2).f2)).bind fun t166 => (if t166 = true then (terrkeep5_TileMeets.l0 k2 t153 t154 t154 (t154.length : Int) (wrap64 (x59_2 + 1)) (wrap64 (t147 - 10000)) (wrap64 (t148 - 10000)) (wrap64 ((wrap64 (t147 - 10000)) + t150)) (wrap64 ((wrap64 (t148 - 10000)) + t151))) else (some false))) else (none)) else (none)) else (terrkeep5_TileMeets.l0 k2 t153 t154 t154 (t154.length : Int) (wrap64 (x59_2 + 1)) (wrap64 (t147 - 10000)) (wrap64 (t148 - 10000)) (wrap64 ((wrap64 (t147 - 10000)) + t150)) (wrap64 ((wrap64 (t148 - 10000)) + t151)))) = some r := by rw [if_pos rfl] at H; exact H
                      clear H
                      have H := H1
                      clear H1
                      by_cases c37 : x59_2 > 0
                      · rw [if_pos c37] at H
                        have c37b0 : decide (0 < x59_2) = true := decide_eq_true c37
                        clear c37
                        obtain ⟨ji38, hji38⟩ : ∃ j_ : Int, (wrap64 (x59_2 - 1)) = j_ := ⟨_, rfl⟩
                        replace H : (if 0 ≤ (ji38) then (if (ji38) < (t154.length : Int) then ((tile_Less.f ((rd_T34 t154 (ji38)).f0) ((rd_T34 t154 (ji38)).f1) ((rd_T34 t154 (ji38)).f2) ((rd_T34 t154 x59_2).f0) ((rd_T34 t154 x59_2).f1) ((rd_T34 t154 x59_2).f2)).bind fun t166 => (if t166 = true then (terrkeep5_TileMeets.l0 k2 t153 t154 t154 (t154.length : Int) (wrap64 (x59_2 + 1)) (wrap64 (t147 - 10000)) (wrap64 (t148 - 10000)) (wrap64 ((wrap64 (t147 - 10000)) + t150)) (wrap64 ((wrap64 (t148 - 10000)) + t151))) else (some false))) else (none)) else (none)) = some r := by first | (rw [hji38] at H; exact H) | (simp only [hji38] at H ⊢; exact H)
                        (try rw [hji38] at A34)
                        (try rw [hji38] at A35)
                        have hji38w : (IntKind.i64.wrap (x59_2 - 1)) = ji38 := (i64_w _).trans hji38
                        by_cases c39 : 0 ≤ (ji38)
                        · rw [if_pos c39] at H
                          have c39b0 : decide (0 ≤ (ji38)) = true := decide_eq_true c39
                          clear c39
                          by_cases c40 : (ji38) < (t154.length : Int)
                          · rw [if_pos c40] at H
                            have c40b0 : decide ((ji38) < (t154.length : Int)) = true := decide_eq_true c40
                            clear c40
                            replace H := Option.bind_eq_some_iff.mp H
                            obtain ⟨t166, A410, H⟩ := H
                            replace H : (if t166 = true then (terrkeep5_TileMeets.l0 k2 t153 t154 t154 (t154.length : Int) (wrap64 (x59_2 + 1)) (wrap64 (t147 - 10000)) (wrap64 (t148 - 10000)) (wrap64 ((wrap64 (t147 - 10000)) + t150)) (wrap64 ((wrap64 (t148 - 10000)) + t151))) else (some false)) = some r := H
                            have A41 := Aside0.mk A410
                            clear A410
                            by_cases c42 : t166 = true
                            · subst c42
                              have H1 : (terrkeep5_TileMeets.l0 k2 t153 t154 t154 (t154.length : Int) (wrap64 (x59_2 + 1)) (wrap64 (t147 - 10000)) (wrap64 (t148 - 10000)) (wrap64 ((wrap64 (t147 - 10000)) + t150)) (wrap64 ((wrap64 (t148 - 10000)) + t151))) = some r := by rw [if_pos rfl] at H; exact H
                              clear H
                              have H := H1
                              clear H1
                              have H' := Aside0.mk H
                              clear H
                              have p158 : 0 ≤ (x59_2 : Int) := of_decide_eq_true (by first | (with_reducible assumption) | assumption)
                              have q158 : x59_2 < (t154.length : Int) := of_decide_eq_true (by first | (with_reducible assumption) | assumption)
                              obtain ⟨ad158, e158, hx158_0, hx158_1, hx158_2⟩ := at_T34 (Kd.R_reads' HO_57.out).2.2 x59_2 p158 q158
                              cases e158
                              replace p158 := eq_true p158
                              replace q158 := eq_true q158
                              try go_wp2_with (first | ((with_reducible refine gate_dst (N := 17) rfl ?_); (try (refine gate_guard (by rfl) ?_; dsimp only)); refine box_event ?hg (N := 17) ?hd (cs := #[.int .i64 0, .int .i64 0, .int .i64 0]) (t := 34) ?hr ?_; (case hd => rfl); (case hg => rfl); (case hr => first | (go_simp; done) | (go_simp; rfl)); intro gb159 hg w43 hbox hb; have n0_ := Aside0.mk (Kd.R_below (Kd.R_elderB (by (with_reducible repeat (first | apply Kd.R_alloc | apply Kd.R_drewN | apply Kd.R_drew)); exact HO_14.out) gb159 (Nat.le_of_eq hg.symm)) hb); have n1_ := Aside0.mk (Kd.R_below (Kd.R_elderB (by (with_reducible repeat (first | apply Kd.R_alloc | apply Kd.R_drewN | apply Kd.R_drew)); exact HO_57.out) gb159 (Nat.le_of_eq hg.symm)) hb); have n2_ := Aside0.mk (blk_below (g := gb149) (o := .cells #[.int .i64 (wrap64 (t147 - 10000)), .int .i64 (wrap64 (t148 - 10000))] 31 (0, 0)) (by (with_reducible repeat (first | refine blk_drewN ?_ _ | refine blk_drew ?_ | refine blk_alloc ?_ _)); exact BK149.out) hb); have n3_ := Aside0.mk (blk_below (g := gb152) (o := .cells #[.int .i64 (wrap64 (t147 - 10000)), .int .i64 (wrap64 (t148 - 10000)), .int .i64 (wrap64 ((wrap64 (t147 - 10000)) + t150)), .int .i64 (wrap64 ((wrap64 (t148 - 10000)) + t151))] 44 (0, 0)) (by (with_reducible repeat (first | refine blk_drewN ?_ _ | refine blk_drew ?_ | refine blk_alloc ?_ _)); exact BK152.out) hb); have n4_ := Aside0.mk (below_step (by repeat (first | (with_reducible first | exact HB.out | apply below_alloc | apply pw_below_drewN | apply below_drew1 | refine below_set ?_ GE149.out | refine below_set ?_ GE152.out) | exact HB.out)) hb); have n5_ := Aside0.mk (hbox); have n6_ := Aside0.mk ((by rw [hg]; exact (below_size (by repeat (first | (with_reducible first | exact HB.out | apply below_alloc | apply pw_below_drewN | apply below_drew1 | refine below_set ?_ GE149.out | refine below_set ?_ GE152.out) | exact HB.out))) : w.heap.size ≤ gb159)); have n7_ := Aside0.mk ((by rw [hg]; exact (below_size (by repeat (first | (with_reducible first | exact HB.out | apply below_alloc | apply pw_below_drewN | apply below_drew1 | refine below_set ?_ GE149.out | refine below_set ?_ GE152.out) | exact HB.out))) : w.heap.size ≤ gb159)); have n8_ := Aside0.mk ((by rw [hg]; exact Nat.ne_of_lt (blk_lt (g := gb149) (o := .cells #[.int .i64 (wrap64 (t147 - 10000)), .int .i64 (wrap64 (t148 - 10000))] 31 (0, 0)) (by (with_reducible repeat (first | refine blk_drewN ?_ _ | refine blk_drew ?_ | refine blk_alloc ?_ _)); exact BK149.out)) : gb149 ≠ gb159)); have n9_ := Aside0.mk ((by rw [hg]; exact Nat.ne_of_gt (blk_lt (g := gb149) (o := .cells #[.int .i64 (wrap64 (t147 - 10000)), .int .i64 (wrap64 (t148 - 10000))] 31 (0, 0)) (by (with_reducible repeat (first | refine blk_drewN ?_ _ | refine blk_drew ?_ | refine blk_alloc ?_ _)); exact BK149.out)) : gb159 ≠ gb149)); have n10_ := Aside0.mk ((by rw [hg]; exact Nat.ne_of_lt (blk_lt (g := gb152) (o := .cells #[.int .i64 (wrap64 (t147 - 10000)), .int .i64 (wrap64 (t148 - 10000)), .int .i64 (wrap64 ((wrap64 (t147 - 10000)) + t150)), .int .i64 (wrap64 ((wrap64 (t148 - 10000)) + t151))] 44 (0, 0)) (by (with_reducible repeat (first | refine blk_drewN ?_ _ | refine blk_drew ?_ | refine blk_alloc ?_ _)); exact BK152.out)) : gb152 ≠ gb159)); have n11_ := Aside0.mk ((by rw [hg]; exact Nat.ne_of_gt (blk_lt (g := gb152) (o := .cells #[.int .i64 (wrap64 (t147 - 10000)), .int .i64 (wrap64 (t148 - 10000)), .int .i64 (wrap64 ((wrap64 (t147 - 10000)) + t150)), .int .i64 (wrap64 ((wrap64 (t148 - 10000)) + t151))] 44 (0, 0)) (by (with_reducible repeat (first | refine blk_drewN ?_ _ | refine blk_drew ?_ | refine blk_alloc ?_ _)); exact BK152.out)) : gb159 ≠ gb152)); clear HO_14; clear HO_57; clear BK149; clear BK152; clear HB; have HO_14 := n0_; have HO_57 := n1_; have BK149 := n2_; have BK152 := n3_; have HB := n4_; have BK159 := n5_; have GW159 := n6_; have GE159 := n7_; have NB149_159 := n8_; have NB159_149 := n9_; have NB152_159 := n10_; have NB159_152 := n11_; clear n0_ n1_ n2_ n3_ n4_ n5_ n6_ n7_ n8_ n9_ n10_ n11_; clear hb hbox hg; have hnb44 := NB159_149.out; have hnc44 := NB149_159.out; have hnb45 := NB159_152.out; have hnc45 := NB152_159.out; have hcz46_0 : w43.cell? ⟨gb159, 0, none⟩ = some (.int .i64 0) := (blk_cell BK159.out 0).trans rfl; have hcz46_1 : w43.cell? ⟨gb159, 1, none⟩ = some (.int .i64 0) := (blk_cell BK159.out 1).trans rfl; have hcz46_2 : w43.cell? ⟨gb159, 2, none⟩ = some (.int .i64 0) := (blk_cell BK159.out 2).trans rfl; have hfz46_0 := blk_frozen BK159.out 0; have hfz46_1 := blk_frozen BK159.out 1; have hfz46_2 := blk_frozen BK159.out 2))
                              have n0_ : Aside0 (Kd.R k34 34 (((w43.setCell ⟨gb159, 0, none⟩ (.int .i64 ((rd_T34 t154 x59_2).f0))).setCell ⟨gb159, 1, none⟩ (.int .i64 ((rd_T34 t154 x59_2).f1))).setCell ⟨gb159, 2, none⟩ (.int .i64 ((rd_T34 t154 x59_2).f2))) w.heap.size (fun k_ => k_ ≠ gb159) (.slice (some ad158) t154.length co29) t154) := ⟨by (with_reducible repeat (first | apply Kd.R_alloc | apply Kd.R_drewN | apply Kd.R_drew)); exact Kd.R_mono (Kd.R_far (p := ⟨gb159, 2, none⟩) (Kd.R_far (p := ⟨gb159, 1, none⟩) (Kd.R_far (p := ⟨gb159, 0, none⟩) (Kd.R_mono HO_14.out (fun k_ hk => (⟨hk, hk.2⟩ : _ ∧ k_ ≠ gb159))) (fun _ hk => hk.2) (.int .i64 ((rd_T34 t154 x59_2).f0))) (fun _ hk => hk.2) (.int .i64 ((rd_T34 t154 x59_2).f1))) (fun _ hk => hk.2) (.int .i64 ((rd_T34 t154 x59_2).f2))) (fun _ hk => hk.1.2)⟩
                              have n1_ : Aside0 (Kd.R k34 34 (((w43.setCell ⟨gb159, 0, none⟩ (.int .i64 ((rd_T34 t154 x59_2).f0))).setCell ⟨gb159, 1, none⟩ (.int .i64 ((rd_T34 t154 x59_2).f1))).setCell ⟨gb159, 2, none⟩ (.int .i64 ((rd_T34 t154 x59_2).f2))) w.heap.size (fun k_ => k_ ≠ gb159) (.slice (some ad158) t154.length co29) t154) := ⟨by (with_reducible repeat (first | apply Kd.R_alloc | apply Kd.R_drewN | apply Kd.R_drew)); exact Kd.R_mono (Kd.R_far (p := ⟨gb159, 2, none⟩) (Kd.R_far (p := ⟨gb159, 1, none⟩) (Kd.R_far (p := ⟨gb159, 0, none⟩) (Kd.R_mono HO_57.out (fun k_ hk => (⟨hk, hk.2⟩ : _ ∧ k_ ≠ gb159))) (fun _ hk => hk.2) (.int .i64 ((rd_T34 t154 x59_2).f0))) (fun _ hk => hk.2) (.int .i64 ((rd_T34 t154 x59_2).f1))) (fun _ hk => hk.2) (.int .i64 ((rd_T34 t154 x59_2).f2))) (fun _ hk => hk.1.2)⟩
                              have n2_ : Aside0 ((((w43.setCell ⟨gb159, 0, none⟩ (.int .i64 ((rd_T34 t154 x59_2).f0))).setCell ⟨gb159, 1, none⟩ (.int .i64 ((rd_T34 t154 x59_2).f1))).setCell ⟨gb159, 2, none⟩ (.int .i64 ((rd_T34 t154 x59_2).f2))).heap[gb149]? = some (.cells #[.int .i64 (wrap64 (t147 - 10000)), .int .i64 (wrap64 (t148 - 10000))] 31 (0, 0))) := ⟨by (with_reducible repeat (first | refine blk_drewN ?_ _ | refine blk_drew ?_ | refine blk_alloc ?_ _)); refine blk_far ?_ NB149_159.out _; (with_reducible repeat (first | refine blk_drewN ?_ _ | refine blk_drew ?_ | refine blk_alloc ?_ _)); refine blk_far ?_ NB149_159.out _; (with_reducible repeat (first | refine blk_drewN ?_ _ | refine blk_drew ?_ | refine blk_alloc ?_ _)); refine blk_far ?_ NB149_159.out _; (with_reducible repeat (first | refine blk_drewN ?_ _ | refine blk_drew ?_ | refine blk_alloc ?_ _)); exact BK149.out⟩
                              have n3_ : Aside0 ((((w43.setCell ⟨gb159, 0, none⟩ (.int .i64 ((rd_T34 t154 x59_2).f0))).setCell ⟨gb159, 1, none⟩ (.int .i64 ((rd_T34 t154 x59_2).f1))).setCell ⟨gb159, 2, none⟩ (.int .i64 ((rd_T34 t154 x59_2).f2))).heap[gb152]? = some (.cells #[.int .i64 (wrap64 (t147 - 10000)), .int .i64 (wrap64 (t148 - 10000)), .int .i64 (wrap64 ((wrap64 (t147 - 10000)) + t150)), .int .i64 (wrap64 ((wrap64 (t148 - 10000)) + t151))] 44 (0, 0))) := ⟨by (with_reducible repeat (first | refine blk_drewN ?_ _ | refine blk_drew ?_ | refine blk_alloc ?_ _)); refine blk_far ?_ NB152_159.out _; (with_reducible repeat (first | refine blk_drewN ?_ _ | refine blk_drew ?_ | refine blk_alloc ?_ _)); refine blk_far ?_ NB152_159.out _; (with_reducible repeat (first | refine blk_drewN ?_ _ | refine blk_drew ?_ | refine blk_alloc ?_ _)); refine blk_far ?_ NB152_159.out _; (with_reducible repeat (first | refine blk_drewN ?_ _ | refine blk_drew ?_ | refine blk_alloc ?_ _)); exact BK152.out⟩
                              have n4_ : Aside0 ((((w43.setCell ⟨gb159, 0, none⟩ (.int .i64 ((rd_T34 t154 x59_2).f0))).setCell ⟨gb159, 1, none⟩ (.int .i64 ((rd_T34 t154 x59_2).f1))).setCell ⟨gb159, 2, none⟩ (.int .i64 ((rd_T34 t154 x59_2).f2))).heap[gb159]? = some (.cells #[.int .i64 ((rd_T34 t154 x59_2).f0), .int .i64 ((rd_T34 t154 x59_2).f1), .int .i64 ((rd_T34 t154 x59_2).f2)] 34 (0, 0))) := ⟨by (with_reducible repeat (first | refine blk_drewN ?_ _ | refine blk_drew ?_ | refine blk_alloc ?_ _)); refine blk_put (cs := #[.int .i64 ((rd_T34 t154 x59_2).f0), .int .i64 ((rd_T34 t154 x59_2).f1), .int .i64 0]) ?_ 2 _ rfl; (with_reducible repeat (first | refine blk_drewN ?_ _ | refine blk_drew ?_ | refine blk_alloc ?_ _)); refine blk_put (cs := #[.int .i64 ((rd_T34 t154 x59_2).f0), .int .i64 0, .int .i64 0]) ?_ 1 _ rfl; (with_reducible repeat (first | refine blk_drewN ?_ _ | refine blk_drew ?_ | refine blk_alloc ?_ _)); refine blk_put (cs := #[.int .i64 0, .int .i64 0, .int .i64 0]) ?_ 0 _ rfl; (with_reducible repeat (first | refine blk_drewN ?_ _ | refine blk_drew ?_ | refine blk_alloc ?_ _)); exact BK159.out⟩
                              have n5_ : Aside0 (Below w.heap.size w (((w43.setCell ⟨gb159, 0, none⟩ (.int .i64 ((rd_T34 t154 x59_2).f0))).setCell ⟨gb159, 1, none⟩ (.int .i64 ((rd_T34 t154 x59_2).f1))).setCell ⟨gb159, 2, none⟩ (.int .i64 ((rd_T34 t154 x59_2).f2)))) := ⟨by repeat (first | (with_reducible first | exact HB.out | apply below_alloc | apply pw_below_drewN | apply below_drew1 | refine below_set ?_ GE149.out | refine below_set ?_ GE152.out | refine below_set ?_ GE159.out) | exact HB.out)⟩
                              (try clear HO_14)
                              (try clear HO_57)
                              (try clear BK149)
                              (try clear BK152)
                              (try clear BK159)
                              (try clear HB)
                              generalize (((w43.setCell ⟨gb159, 0, none⟩ (.int .i64 ((rd_T34 t154 x59_2).f0))).setCell ⟨gb159, 1, none⟩ (.int .i64 ((rd_T34 t154 x59_2).f1))).setCell ⟨gb159, 2, none⟩ (.int .i64 ((rd_T34 t154 x59_2).f2))) = w47 at n0_ n1_ n2_ n3_ n4_ n5_ ⊢
                              have HO_14 := n0_
                              have HO_57 := n1_
                              have BK149 := n2_
                              have BK152 := n3_
                              have BK159 := n4_
                              have HB := n5_
                              clear n0_ n1_ n2_ n3_ n4_ n5_
                              have n0_ := Aside0.mk (Kd.R_drew HO_14.out)
                              have n1_ := Aside0.mk (Kd.R_drew HO_57.out)
                              have n2_ := Aside0.mk (blk_drew BK149.out)
                              have n3_ := Aside0.mk (blk_drew BK152.out)
                              have n4_ := Aside0.mk (blk_drew BK159.out)
                              have n5_ := Aside0.mk (below_drew1 HB.out)
                              clear HO_14
                              clear HO_57
                              clear BK149
                              clear BK152
                              clear BK159
                              clear HB
                              have HO_14 := n0_
                              have HO_57 := n1_
                              have BK149 := n2_
                              have BK152 := n3_
                              have BK159 := n4_
                              have HB := n5_
                              clear n0_ n1_ n2_ n3_ n4_ n5_
                              have p165 : 0 ≤ ((ji38) : Int) := of_decide_eq_true (by first | (with_reducible assumption) | assumption)
                              have q165 : (ji38) < (t154.length : Int) := of_decide_eq_true (by first | (with_reducible assumption) | assumption)
                              obtain ⟨ad165, e165, hx165_0, hx165_1, hx165_2⟩ := at_T34 (Kd.R_reads' HO_14.out).2.2 (ji38) p165 q165
                              obtain rfl : ad158 = ad165 := (by injection e165)
                              replace p165 := eq_true p165
                              replace q165 := eq_true q165
                              refine start_ (n := 25) (S := fun w' => w'.cell? ⟨gb159, 0, none⟩ = some (.int .i64 ((rd_T34 t154 x59_2).f0)) ∧ w'.cell? ⟨gb159, 1, none⟩ = some (.int .i64 ((rd_T34 t154 x59_2).f1)) ∧ w'.cell? ⟨gb159, 2, none⟩ = some (.int .i64 ((rd_T34 t154 x59_2).f2)) ∧ w'.cell? ⟨gb152, 0, none⟩ = some (.int .i64 (wrap64 (t147 - 10000))) ∧ w'.cell? ⟨gb152, 1, none⟩ = some (.int .i64 (wrap64 (t148 - 10000))) ∧ w'.cell? ⟨gb152, 2, none⟩ = some (.int .i64 (wrap64 ((wrap64 (t147 - 10000)) + t150))) ∧ w'.cell? ⟨gb152, 3, none⟩ = some (.int .i64 (wrap64 ((wrap64 (t148 - 10000)) + t151))) ∧ w'.cell? (ad158.add (((ji38)).toNat * 3)) = some (.int .i64 ((rd_T34 t154 (ji38)).f0)) ∧ w'.cell? ⟨(ad158.add (((ji38)).toNat * 3)).block, (ad158.add (((ji38)).toNat * 3)).off + 1, none⟩ = some (.int .i64 ((rd_T34 t154 (ji38)).f1)) ∧ w'.cell? ⟨(ad158.add (((ji38)).toNat * 3)).block, (ad158.add (((ji38)).toNat * 3)).off + 2, none⟩ = some (.int .i64 ((rd_T34 t154 (ji38)).f2))) (ds := []) #[false, false, false, false, false, false, false, false, false, false, false, false, false, false, false, false, false, false, false, false, false, false, false, false, false] (by kernel_rfl) rfl rfl ⟨(blk_cell BK159.out 0).trans rfl, (blk_cell BK159.out 1).trans rfl, (blk_cell BK159.out 2).trans rfl, (blk_cell BK152.out 0).trans rfl, (blk_cell BK152.out 1).trans rfl, (blk_cell BK152.out 2).trans rfl, (blk_cell BK152.out 3).trans rfl, hx165_0, hx165_1, hx165_2⟩ (fun hHeld => ?_); refine with_tabW terrkeep5_TileMeets.tab10 terrkeep5_TileMeets.bits10 (fun HT_ HW_ => ?_)
                              generalize w47.drew = w48 at HO_14 HO_57 BK149 BK152 BK159 HB hx165_0 hx165_1 hx165_2 hHeld ⊢
                              refine pure_ (i := 0) (N := some 64) (v := ?_) (a' := ?_) #[true, false, false, false, false, false, false, false, false, false, false, false, false, false, false, false, false, false, false, false, false, false, false, false, false] rfl rfl (any_of HT_.out (by kernel_rfl)) (fun _ _ _ h => h) (Or.inl ⟨by rfl, ?_⟩) ?_ ?_
                              rotate_left
                              · intro w'
                                go_simp
                                with_reducible rfl
                              rotate_left
                              · simp only [Act.put, List.setIfInBounds_toArray, List.set_cons_zero, List.set_cons_succ, i64_w, i32_w]
                                rfl
                              refine pure_ (i := 2) (N := some 66) (v := ?_) (a' := ?_) #[true, false, true, false, false, false, false, false, false, false, false, false, false, false, false, false, false, false, false, false, false, false, false, false, false] rfl rfl (any_of HT_.out (by kernel_rfl)) (fun _ _ _ h => h) (Or.inl ⟨by rfl, ?_⟩) ?_ ?_
                              rotate_left
                              · intro w'
                                go_simp
                                with_reducible rfl
                              rotate_left
                              · simp only [Act.put, List.setIfInBounds_toArray, List.set_cons_zero, List.set_cons_succ, i64_w, i32_w]
                                rfl
                              refine take_ (i := 1) (N := some 65) (v := ?_) (a' := ?_) #[true, true, true, false, false, false, false, false, false, false, false, false, false, false, false, false, false, false, false, false, false, false, false, false, false] rfl rfl (take_ofW HT_.out HW_.out (by kernel_rfl)) (fun _ _ _ h => h) (Or.inl ⟨by rfl, ?_⟩) hHeld ?_ ?_
                              rotate_left
                              · rintro w' ⟨s0, s1, s2, s3, s4, s5, s6, s7, s8, s9⟩
                                go_simp
                                with_reducible rfl
                              rotate_left
                              · simp only [Act.put, List.setIfInBounds_toArray, List.set_cons_zero, List.set_cons_succ, i64_w, i32_w]
                                rfl
                              refine pure_ (i := 3) (N := some 67) (v := ?_) (a' := ?_) #[true, true, true, true, false, false, false, false, false, false, false, false, false, false, false, false, false, false, false, false, false, false, false, false, false] rfl rfl (any_of HT_.out (by kernel_rfl)) (fun _ _ _ h => h) (Or.inl ⟨by rfl, ?_⟩) ?_ ?_
                              rotate_left
                              · intro w'
                                go_simp
                                with_reducible rfl
                              rotate_left
                              · simp only [Act.put, List.setIfInBounds_toArray, List.set_cons_zero, List.set_cons_succ, i64_w, i32_w]
                                rfl
                              refine pure_ (i := 4) (N := some 68) (v := ?_) (a' := ?_) #[true, true, true, true, true, false, false, false, false, false, false, false, false, false, false, false, false, false, false, false, false, false, false, false, false] rfl rfl (any_of HT_.out (by kernel_rfl)) (fun _ _ _ h => h) (Or.inl ⟨by rfl, ?_⟩) ?_ ?_
                              rotate_left
                              · intro w'
                                go_simp
                                with_reducible rfl
                              rotate_left
                              · simp only [Act.put, List.setIfInBounds_toArray, List.set_cons_zero, List.set_cons_succ, i64_w, i32_w]
                                rfl
                              refine take_ (i := 5) (N := some 69) (v := ?_) (a' := ?_) #[true, true, true, true, true, true, false, false, false, false, false, false, false, false, false, false, false, false, false, false, false, false, false, false, false] rfl rfl (take_ofW HT_.out HW_.out (by kernel_rfl)) (fun _ _ _ h => h) (Or.inl ⟨by rfl, ?_⟩) hHeld ?_ ?_
                              rotate_left
                              · rintro w' ⟨s0, s1, s2, s3, s4, s5, s6, s7, s8, s9⟩
                                go_simp
                                with_reducible rfl
                              rotate_left
                              · simp only [Act.put, List.setIfInBounds_toArray, List.set_cons_zero, List.set_cons_succ, i64_w, i32_w]
                                rfl
                              refine take_ (i := 7) (N := some 71) (v := ?_) (a' := ?_) #[true, true, true, true, true, true, false, true, false, false, false, false, false, false, false, false, false, false, false, false, false, false, false, false, false] rfl rfl (take_ofW HT_.out HW_.out (by kernel_rfl)) (fun _ _ _ h => h) (Or.inl ⟨by rfl, ?_⟩) hHeld ?_ ?_
                              rotate_left
                              · rintro w' ⟨s0, s1, s2, s3, s4, s5, s6, s7, s8, s9⟩
                                go_simp
                                with_reducible rfl
                              rotate_left
                              · simp only [Act.put, List.setIfInBounds_toArray, List.set_cons_zero, List.set_cons_succ, i64_w, i32_w]
                                rfl
                              refine one_ (i := 6) (N := some 70) #[true, true, true, true, true, true, true, true, false, false, false, false, false, false, false, false, false, false, false, false, false, false, false, false, false] rfl rfl (one_of HT_.out (by kernel_rfl)) (by decide) (fun K hK => ?_)
                              refine goes_ Try.func22 (by kernel_rfl) rfl #[.agg #[.int .i64 ((rd_T34 t154 x59_2).f0), .int .i64 ((rd_T34 t154 x59_2).f1), .int .i64 ((rd_T34 t154 x59_2).f2)]] (by rfl) rfl rfl (by (try simp only [List.map_toArray, List.map_cons, List.map_nil]); first | done | rfl | (simp only [List.length_drop, List.length_take]; rfl)) ?_
                              with_reducible refine (tile_Box.calls ((rd_T34 t154 x59_2).f0) ((rd_T34 t154 x59_2).f1) ((rd_T34 t154 x59_2).f2) t160 t161 t162 t163 _ A34.out).mono ?_
                              rintro e w49 ⟨rfl, hb⟩
                              have HS7_ := (hb.cell (World.block_lt_of_cell? _ _ (hHeld.2.2.2.2.2.2.2.1))).trans (hHeld.2.2.2.2.2.2.2.1)
                              have HS8_ := (hb.cell (World.block_lt_of_cell? _ _ (hHeld.2.2.2.2.2.2.2.2.1))).trans (hHeld.2.2.2.2.2.2.2.2.1)
                              have HS9_ := (hb.cell (World.block_lt_of_cell? _ _ (hHeld.2.2.2.2.2.2.2.2.2))).trans (hHeld.2.2.2.2.2.2.2.2.2)
                              refine ⟨_, rfl, ?_⟩
                              have n0_ := Aside0.mk (Kd.R_below (by (with_reducible repeat (first | apply Kd.R_alloc | apply Kd.R_drewN | apply Kd.R_drew)); exact HO_14.out) hb)
                              have n1_ := Aside0.mk (Kd.R_below (by (with_reducible repeat (first | apply Kd.R_alloc | apply Kd.R_drewN | apply Kd.R_drew)); exact HO_57.out) hb)
                              have n2_ := Aside0.mk (blk_below (g := gb149) (o := .cells #[.int .i64 (wrap64 (t147 - 10000)), .int .i64 (wrap64 (t148 - 10000))] 31 (0, 0)) (by (with_reducible repeat (first | refine blk_drewN ?_ _ | refine blk_drew ?_ | refine blk_alloc ?_ _)); exact BK149.out) hb)
                              have n3_ := Aside0.mk (blk_below (g := gb152) (o := .cells #[.int .i64 (wrap64 (t147 - 10000)), .int .i64 (wrap64 (t148 - 10000)), .int .i64 (wrap64 ((wrap64 (t147 - 10000)) + t150)), .int .i64 (wrap64 ((wrap64 (t148 - 10000)) + t151))] 44 (0, 0)) (by (with_reducible repeat (first | refine blk_drewN ?_ _ | refine blk_drew ?_ | refine blk_alloc ?_ _)); exact BK152.out) hb)
                              have n4_ := Aside0.mk (blk_below (g := gb159) (o := .cells #[.int .i64 ((rd_T34 t154 x59_2).f0), .int .i64 ((rd_T34 t154 x59_2).f1), .int .i64 ((rd_T34 t154 x59_2).f2)] 34 (0, 0)) (by (with_reducible repeat (first | refine blk_drewN ?_ _ | refine blk_drew ?_ | refine blk_alloc ?_ _)); exact BK159.out) hb)
                              have n5_ := Aside0.mk (below_step (by repeat (first | (with_reducible first | exact HB.out | apply below_alloc | apply pw_below_drewN | apply below_drew1 | refine below_set ?_ GE149.out | refine below_set ?_ GE152.out | refine below_set ?_ GE159.out) | exact HB.out)) hb)
                              clear HO_14
                              clear HO_57
                              clear BK149
                              clear BK152
                              clear BK159
                              clear HB
                              have HO_14 := n0_
                              have HO_57 := n1_
                              have BK149 := n2_
                              have BK152 := n3_
                              have BK159 := n4_
                              have HB := n5_
                              clear n0_ n1_ n2_ n3_ n4_ n5_
                              (try clear hb)
                              (try clear hb2)
                              (try clear hk)
                              (try clear hi)
                              refine hK.out _ _ ⟨(blk_cell BK159.out 0).trans rfl, (blk_cell BK159.out 1).trans rfl, (blk_cell BK159.out 2).trans rfl, (blk_cell BK152.out 0).trans rfl, (blk_cell BK152.out 1).trans rfl, (blk_cell BK152.out 2).trans rfl, (blk_cell BK152.out 3).trans rfl, HS7_, HS8_, HS9_⟩ (fun hHeld => ?_)
                              clear hK K
                              refine norm_ (a' := ?_) ?_ ?_
                              rotate_left
                              · show Act.put _ (some 70) _ = _
                                simp only [Act.put, List.setIfInBounds_toArray, List.set_cons_zero, List.set_cons_succ, i64_w, i32_w]
                                rfl
                              refine one_ (i := 8) (N := some 72) #[true, true, true, true, true, true, true, true, true, false, false, false, false, false, false, false, false, false, false, false, false, false, false, false, false] rfl rfl (one_of HT_.out (by kernel_rfl)) (by decide) (fun K hK => ?_)
                              refine goes_ Try.func34 (by kernel_rfl) rfl #[.agg #[.int .i64 t160, .int .i64 t161, .int .i64 t162, .int .i64 t163], .agg #[.int .i64 (wrap64 (t147 - 10000)), .int .i64 (wrap64 (t148 - 10000)), .int .i64 (wrap64 ((wrap64 (t147 - 10000)) + t150)), .int .i64 (wrap64 ((wrap64 (t148 - 10000)) + t151))]] (by rfl) rfl rfl (by (try simp only [List.map_toArray, List.map_cons, List.map_nil]); first | done | rfl | (simp only [List.length_drop, List.length_take]; rfl)) ?_
                              with_reducible refine (box_Meet.calls t160 t161 t162 t163 (wrap64 (t147 - 10000)) (wrap64 (t148 - 10000)) (wrap64 ((wrap64 (t147 - 10000)) + t150)) (wrap64 ((wrap64 (t148 - 10000)) + t151)) true _ A35.out).mono ?_
                              rintro e w50 ⟨rfl, hb⟩
                              have HS7_ := (hb.cell (World.block_lt_of_cell? _ _ (hHeld.2.2.2.2.2.2.2.1))).trans (hHeld.2.2.2.2.2.2.2.1)
                              have HS8_ := (hb.cell (World.block_lt_of_cell? _ _ (hHeld.2.2.2.2.2.2.2.2.1))).trans (hHeld.2.2.2.2.2.2.2.2.1)
                              have HS9_ := (hb.cell (World.block_lt_of_cell? _ _ (hHeld.2.2.2.2.2.2.2.2.2))).trans (hHeld.2.2.2.2.2.2.2.2.2)
                              refine ⟨_, rfl, ?_⟩
                              have n0_ := Aside0.mk (Kd.R_below (by (with_reducible repeat (first | apply Kd.R_alloc | apply Kd.R_drewN | apply Kd.R_drew)); exact HO_14.out) hb)
                              have n1_ := Aside0.mk (Kd.R_below (by (with_reducible repeat (first | apply Kd.R_alloc | apply Kd.R_drewN | apply Kd.R_drew)); exact HO_57.out) hb)
                              have n2_ := Aside0.mk (blk_below (g := gb149) (o := .cells #[.int .i64 (wrap64 (t147 - 10000)), .int .i64 (wrap64 (t148 - 10000))] 31 (0, 0)) (by (with_reducible repeat (first | refine blk_drewN ?_ _ | refine blk_drew ?_ | refine blk_alloc ?_ _)); exact BK149.out) hb)
                              have n3_ := Aside0.mk (blk_below (g := gb152) (o := .cells #[.int .i64 (wrap64 (t147 - 10000)), .int .i64 (wrap64 (t148 - 10000)), .int .i64 (wrap64 ((wrap64 (t147 - 10000)) + t150)), .int .i64 (wrap64 ((wrap64 (t148 - 10000)) + t151))] 44 (0, 0)) (by (with_reducible repeat (first | refine blk_drewN ?_ _ | refine blk_drew ?_ | refine blk_alloc ?_ _)); exact BK152.out) hb)
                              have n4_ := Aside0.mk (blk_below (g := gb159) (o := .cells #[.int .i64 ((rd_T34 t154 x59_2).f0), .int .i64 ((rd_T34 t154 x59_2).f1), .int .i64 ((rd_T34 t154 x59_2).f2)] 34 (0, 0)) (by (with_reducible repeat (first | refine blk_drewN ?_ _ | refine blk_drew ?_ | refine blk_alloc ?_ _)); exact BK159.out) hb)
                              have n5_ := Aside0.mk (below_step (by repeat (first | (with_reducible first | exact HB.out | apply below_alloc | apply pw_below_drewN | apply below_drew1 | refine below_set ?_ GE149.out | refine below_set ?_ GE152.out | refine below_set ?_ GE159.out) | exact HB.out)) hb)
                              clear HO_14
                              clear HO_57
                              clear BK149
                              clear BK152
                              clear BK159
                              clear HB
                              have HO_14 := n0_
                              have HO_57 := n1_
                              have BK149 := n2_
                              have BK152 := n3_
                              have BK159 := n4_
                              have HB := n5_
                              clear n0_ n1_ n2_ n3_ n4_ n5_
                              (try clear hb)
                              (try clear hb2)
                              (try clear hk)
                              (try clear hi)
                              refine hK.out _ _ ⟨(blk_cell BK159.out 0).trans rfl, (blk_cell BK159.out 1).trans rfl, (blk_cell BK159.out 2).trans rfl, (blk_cell BK152.out 0).trans rfl, (blk_cell BK152.out 1).trans rfl, (blk_cell BK152.out 2).trans rfl, (blk_cell BK152.out 3).trans rfl, HS7_, HS8_, HS9_⟩ (fun hHeld => ?_)
                              clear hK K
                              refine norm_ (a' := ?_) ?_ ?_
                              rotate_left
                              · show Act.put _ (some 72) _ = _
                                simp only [Act.put, List.setIfInBounds_toArray, List.set_cons_zero, List.set_cons_succ, i64_w, i32_w]
                                rfl
                              refine pure_ (i := 9) (N := some 73) (v := ?_) (a' := ?_) #[true, true, true, true, true, true, true, true, true, true, false, false, false, false, false, false, false, false, false, false, false, false, false, false, false] rfl rfl (any_of HT_.out (by kernel_rfl)) (fun _ _ _ h => h) (Or.inl ⟨by rfl, ?_⟩) ?_ ?_
                              rotate_left
                              · intro w'
                                go_simp
                                with_reducible rfl
                              rotate_left
                              · simp only [Act.put, List.setIfInBounds_toArray, List.set_cons_zero, List.set_cons_succ, i64_w, i32_w]
                                rfl
                              refine pure_ (i := 10) (N := some 74) (v := ?_) (a' := ?_) #[true, true, true, true, true, true, true, true, true, true, true, false, false, false, false, false, false, false, false, false, false, false, false, false, false] rfl rfl (any_of HT_.out (by kernel_rfl)) (fun _ _ _ h => h) (Or.inl ⟨by rfl, ?_⟩) ?_ ?_
                              rotate_left
                              · intro w'
                                go_simp
                                with_reducible rfl
                              rotate_left
                              · simp only [Act.put, List.setIfInBounds_toArray, List.set_cons_zero, List.set_cons_succ, i64_w, i32_w]
                                rfl
                              refine pure_ (i := 11) (N := some 75) (v := ?_) (a' := ?_) #[true, true, true, true, true, true, true, true, true, true, true, true, false, false, false, false, false, false, false, false, false, false, false, false, false] rfl rfl (any_of HT_.out (by kernel_rfl)) (fun _ _ _ h => h) (Or.inl ⟨by rfl, ?_⟩) ?_ ?_
                              rotate_left
                              · intro w'
                                go_simp
                                with_reducible rfl
                              rotate_left
                              · simp only [Act.put, List.setIfInBounds_toArray, List.set_cons_zero, List.set_cons_succ, i64_w, i32_w]
                                rfl
                              refine pure_ (i := 12) (N := some 76) (v := ?_) (a' := ?_) #[true, true, true, true, true, true, true, true, true, true, true, true, true, false, false, false, false, false, false, false, false, false, false, false, false] rfl rfl (any_of HT_.out (by kernel_rfl)) (fun _ _ _ h => h) (Or.inl ⟨by rfl, ?_⟩) ?_ ?_
                              rotate_left
                              · intro w'
                                go_simp
                                with_reducible rfl
                              rotate_left
                              · simp only [Act.put, List.setIfInBounds_toArray, List.set_cons_zero, List.set_cons_succ, i64_w, i32_w]
                                rfl
                              refine pure_ (i := 13) (N := some 77) (v := ?_) (a' := ?_) #[true, true, true, true, true, true, true, true, true, true, true, true, true, true, false, false, false, false, false, false, false, false, false, false, false] rfl rfl (any_of HT_.out (by kernel_rfl)) (fun _ _ _ h => h) (Or.inl ⟨by rfl, ?_⟩) ?_ ?_
                              rotate_left
                              · intro w'
                                go_simp
                                with_reducible rfl
                              rotate_left
                              · simp only [Act.put, List.setIfInBounds_toArray, List.set_cons_zero, List.set_cons_succ, i64_w, i32_w]
                                rfl
                              refine pure_ (i := 14) (N := some 78) (v := ?_) (a' := ?_) #[true, true, true, true, true, true, true, true, true, true, true, true, true, true, true, false, false, false, false, false, false, false, false, false, false] rfl rfl (any_of HT_.out (by kernel_rfl)) (fun _ _ _ h => h) (Or.inl ⟨by rfl, ?_⟩) ?_ ?_
                              rotate_left
                              · intro w'
                                go_simp
                                with_reducible rfl
                              rotate_left
                              · simp only [Act.put, List.setIfInBounds_toArray, List.set_cons_zero, List.set_cons_succ, i64_w, i32_w]
                                rfl
                              refine pure_ (i := 15) (N := some 79) (v := ?_) (a' := ?_) #[true, true, true, true, true, true, true, true, true, true, true, true, true, true, true, true, false, false, false, false, false, false, false, false, false] rfl rfl (any_of HT_.out (by kernel_rfl)) (fun _ _ _ h => h) (Or.inl ⟨by rfl, ?_⟩) ?_ ?_
                              rotate_left
                              · intro w'
                                go_simp
                                with_reducible rfl
                              rotate_left
                              · simp only [Act.put, List.setIfInBounds_toArray, List.set_cons_zero, List.set_cons_succ, i64_w, i32_w]
                                rfl
                              refine pure_ (i := 16) (N := some 80) (v := ?_) (a' := ?_) #[true, true, true, true, true, true, true, true, true, true, true, true, true, true, true, true, true, false, false, false, false, false, false, false, false] rfl rfl (any_of HT_.out (by kernel_rfl)) (fun _ _ _ h => h) (Or.inl ⟨by rfl, ?_⟩) ?_ ?_
                              rotate_left
                              · intro w'
                                go_simp
                                with_reducible rfl
                              rotate_left
                              · simp only [Act.put, List.setIfInBounds_toArray, List.set_cons_zero, List.set_cons_succ, i64_w, i32_w]
                                rfl
                              refine pure_ (i := 17) (N := some 81) (v := ?_) (a' := ?_) #[true, true, true, true, true, true, true, true, true, true, true, true, true, true, true, true, true, true, false, false, false, false, false, false, false] rfl rfl (any_of HT_.out (by kernel_rfl)) (fun _ _ _ h => h) (Or.inl ⟨by rfl, ?_⟩) ?_ ?_
                              rotate_left
                              · intro w'
                                go_simp
                                with_reducible rfl
                              rotate_left
                              · simp only [Act.put, List.setIfInBounds_toArray, List.set_cons_zero, List.set_cons_succ, i64_w, i32_w]
                                rfl
                              refine pure_ (i := 18) (N := some 82) (v := ?_) (a' := ?_) #[true, true, true, true, true, true, true, true, true, true, true, true, true, true, true, true, true, true, true, false, false, false, false, false, false] rfl rfl (any_of HT_.out (by kernel_rfl)) (fun _ _ _ h => h) (Or.inl ⟨by rfl, ?_⟩) ?_ ?_
                              rotate_left
                              · intro w'
                                go_simp
                                with_reducible rfl
                              rotate_left
                              · simp only [Act.put, List.setIfInBounds_toArray, List.set_cons_zero, List.set_cons_succ, i64_w, i32_w]
                                rfl
                              refine take_ (i := 19) (N := some 83) (v := ?_) (a' := ?_) #[true, true, true, true, true, true, true, true, true, true, true, true, true, true, true, true, true, true, true, true, false, false, false, false, false] rfl rfl (take_ofW HT_.out HW_.out (by kernel_rfl)) (fun _ _ _ h => h) (Or.inl ⟨by rfl, ?_⟩) hHeld ?_ ?_
                              rotate_left
                              · rintro w' ⟨s0, s1, s2, s3, s4, s5, s6, s7, s8, s9⟩
                                go_simp
                                with_reducible rfl
                              rotate_left
                              · simp only [Act.put, List.setIfInBounds_toArray, List.set_cons_zero, List.set_cons_succ, i64_w, i32_w]
                                rfl
                              refine take_ (i := 20) (N := some 84) (v := ?_) (a' := ?_) #[true, true, true, true, true, true, true, true, true, true, true, true, true, true, true, true, true, true, true, true, true, false, false, false, false] rfl rfl (take_ofW HT_.out HW_.out (by kernel_rfl)) (fun _ _ _ h => h) (Or.inl ⟨by rfl, ?_⟩) hHeld ?_ ?_
                              rotate_left
                              · rintro w' ⟨s0, s1, s2, s3, s4, s5, s6, s7, s8, s9⟩
                                go_simp
                                with_reducible rfl
                              rotate_left
                              · simp only [Act.put, List.setIfInBounds_toArray, List.set_cons_zero, List.set_cons_succ, i64_w, i32_w]
                                rfl
                              refine one_ (i := 21) (N := some 85) #[true, true, true, true, true, true, true, true, true, true, true, true, true, true, true, true, true, true, true, true, true, true, false, false, false] rfl rfl (one_of HT_.out (by kernel_rfl)) (by decide) (fun K hK => ?_)
                              refine goes_ Try.func35 (by kernel_rfl) rfl #[.agg #[.int .i64 ((rd_T34 t154 (ji38)).f0), .int .i64 ((rd_T34 t154 (ji38)).f1), .int .i64 ((rd_T34 t154 (ji38)).f2)], .agg #[.int .i64 ((rd_T34 t154 x59_2).f0), .int .i64 ((rd_T34 t154 x59_2).f1), .int .i64 ((rd_T34 t154 x59_2).f2)]] (by rfl) rfl rfl (by (try simp only [List.map_toArray, List.map_cons, List.map_nil]); first | done | (simp only [hji38]; rfl) | rfl | (simp only [List.length_drop, List.length_take]; rfl)) ?_
                              with_reducible refine (tile_Less.calls ((rd_T34 t154 (ji38)).f0) ((rd_T34 t154 (ji38)).f1) ((rd_T34 t154 (ji38)).f2) ((rd_T34 t154 x59_2).f0) ((rd_T34 t154 x59_2).f1) ((rd_T34 t154 x59_2).f2) true _ A41.out).mono ?_
                              rintro e w51 ⟨rfl, hb⟩
                              have HS7_ := (hb.cell (World.block_lt_of_cell? _ _ (hHeld.2.2.2.2.2.2.2.1))).trans (hHeld.2.2.2.2.2.2.2.1)
                              have HS8_ := (hb.cell (World.block_lt_of_cell? _ _ (hHeld.2.2.2.2.2.2.2.2.1))).trans (hHeld.2.2.2.2.2.2.2.2.1)
                              have HS9_ := (hb.cell (World.block_lt_of_cell? _ _ (hHeld.2.2.2.2.2.2.2.2.2))).trans (hHeld.2.2.2.2.2.2.2.2.2)
                              refine ⟨_, rfl, ?_⟩
                              have n0_ := Aside0.mk (Kd.R_below (by (with_reducible repeat (first | apply Kd.R_alloc | apply Kd.R_drewN | apply Kd.R_drew)); exact HO_14.out) hb)
                              have n1_ := Aside0.mk (Kd.R_below (by (with_reducible repeat (first | apply Kd.R_alloc | apply Kd.R_drewN | apply Kd.R_drew)); exact HO_57.out) hb)
                              have n2_ := Aside0.mk (blk_below (g := gb149) (o := .cells #[.int .i64 (wrap64 (t147 - 10000)), .int .i64 (wrap64 (t148 - 10000))] 31 (0, 0)) (by (with_reducible repeat (first | refine blk_drewN ?_ _ | refine blk_drew ?_ | refine blk_alloc ?_ _)); exact BK149.out) hb)
                              have n3_ := Aside0.mk (blk_below (g := gb152) (o := .cells #[.int .i64 (wrap64 (t147 - 10000)), .int .i64 (wrap64 (t148 - 10000)), .int .i64 (wrap64 ((wrap64 (t147 - 10000)) + t150)), .int .i64 (wrap64 ((wrap64 (t148 - 10000)) + t151))] 44 (0, 0)) (by (with_reducible repeat (first | refine blk_drewN ?_ _ | refine blk_drew ?_ | refine blk_alloc ?_ _)); exact BK152.out) hb)
                              have n4_ := Aside0.mk (blk_below (g := gb159) (o := .cells #[.int .i64 ((rd_T34 t154 x59_2).f0), .int .i64 ((rd_T34 t154 x59_2).f1), .int .i64 ((rd_T34 t154 x59_2).f2)] 34 (0, 0)) (by (with_reducible repeat (first | refine blk_drewN ?_ _ | refine blk_drew ?_ | refine blk_alloc ?_ _)); exact BK159.out) hb)
                              have n5_ := Aside0.mk (below_step (by repeat (first | (with_reducible first | exact HB.out | apply below_alloc | apply pw_below_drewN | apply below_drew1 | refine below_set ?_ GE149.out | refine below_set ?_ GE152.out | refine below_set ?_ GE159.out) | exact HB.out)) hb)
                              clear HO_14
                              clear HO_57
                              clear BK149
                              clear BK152
                              clear BK159
                              clear HB
                              have HO_14 := n0_
                              have HO_57 := n1_
                              have BK149 := n2_
                              have BK152 := n3_
                              have BK159 := n4_
                              have HB := n5_
                              clear n0_ n1_ n2_ n3_ n4_ n5_
                              (try clear hb)
                              (try clear hb2)
                              (try clear hk)
                              (try clear hi)
                              refine hK.out _ _ ⟨(blk_cell BK159.out 0).trans rfl, (blk_cell BK159.out 1).trans rfl, (blk_cell BK159.out 2).trans rfl, (blk_cell BK152.out 0).trans rfl, (blk_cell BK152.out 1).trans rfl, (blk_cell BK152.out 2).trans rfl, (blk_cell BK152.out 3).trans rfl, HS7_, HS8_, HS9_⟩ (fun hHeld => ?_)
                              clear hK K
                              refine norm_ (a' := ?_) ?_ ?_
                              rotate_left
                              · show Act.put _ (some 85) _ = _
                                simp only [Act.put, List.setIfInBounds_toArray, List.set_cons_zero, List.set_cons_succ, i64_w, i32_w]
                                rfl
                              refine pure_ (i := 22) (N := some 86) (v := ?_) (a' := ?_) #[true, true, true, true, true, true, true, true, true, true, true, true, true, true, true, true, true, true, true, true, true, true, true, false, false] rfl rfl (any_of HT_.out (by kernel_rfl)) (fun _ _ _ h => h) (Or.inl ⟨by rfl, ?_⟩) ?_ ?_
                              rotate_left
                              · intro w'
                                go_simp
                                with_reducible rfl
                              rotate_left
                              · simp only [Act.put, List.setIfInBounds_toArray, List.set_cons_zero, List.set_cons_succ, i64_w, i32_w]
                                rfl
                              refine pure_ (i := 23) (N := some 87) (v := ?_) (a' := ?_) #[true, true, true, true, true, true, true, true, true, true, true, true, true, true, true, true, true, true, true, true, true, true, true, true, false] rfl rfl (any_of HT_.out (by kernel_rfl)) (fun _ _ _ h => h) (Or.inl ⟨by rfl, ?_⟩) ?_ ?_
                              rotate_left
                              · intro w'
                                go_simp
                                with_reducible rfl
                              rotate_left
                              · simp only [Act.put, List.setIfInBounds_toArray, List.set_cons_zero, List.set_cons_succ, i64_w, i32_w]
                                rfl
                              refine pure_ (i := 24) (N := some 88) (v := ?_) (a' := ?_) #[true, true, true, true, true, true, true, true, true, true, true, true, true, true, true, true, true, true, true, true, true, true, true, true, true] rfl rfl (any_of HT_.out (by kernel_rfl)) (fun _ _ _ h => h) (Or.inl ⟨by rfl, ?_⟩) ?_ ?_
                              rotate_left
                              · intro w'
                                go_simp
                                with_reducible rfl
                              rotate_left
                              · simp only [Act.put, List.setIfInBounds_toArray, List.set_cons_zero, List.set_cons_succ, i64_w, i32_w]
                                rfl
                              refine done_ (done_of HT_.out (by kernel_rfl)) ?_
                              try go_wp2
                              go_roundg k2
                              case measure => have := HJ11.out; have := HK2.out; omega
                              case rel => exact ⟨(wrap64 (x59_2 + 1)), (by first | rfl | (simp; done) | (simp [*]; done)), H', ⟨by have := HJ11.out; have := HK2.out; omega⟩, ⟨by (with_reducible repeat (first | apply Kd.R_alloc | apply Kd.R_drewN | apply Kd.R_drew)); exact Kd.R_mono HO_14.out (fun _ hk => trivial)⟩, ⟨by (with_reducible repeat (first | apply Kd.R_alloc | apply Kd.R_drewN | apply Kd.R_drew)); exact Kd.R_mono HO_57.out (fun _ hk => trivial)⟩, ⟨by (with_reducible repeat (first | refine blk_drewN ?_ _ | refine blk_drew ?_ | refine blk_alloc ?_ _)); exact BK149.out⟩, ⟨by (with_reducible repeat (first | refine blk_drewN ?_ _ | refine blk_drew ?_ | refine blk_alloc ?_ _)); exact BK152.out⟩, ⟨by repeat (first | (with_reducible first | exact HB.out | apply below_alloc | apply pw_below_drewN | apply below_drew1 | refine below_set ?_ GE149.out | refine below_set ?_ GE152.out | refine below_set ?_ GE159.out) | exact HB.out)⟩⟩
                            · replace c42 := Bool.eq_false_iff.mpr c42
                              subst c42
                              have H1 : (some false) = some r := by rw [if_neg (show ¬ (false = true) by decide)] at H; exact H
                              clear H
                              have H := H1
                              clear H1
                              exact absurd (H.trans (congrArg some hr)) (by decide)
                          · rw [if_neg c40] at H
                            exact absurd H (by simp)
                        · rw [if_neg c39] at H
                          exact absurd H (by simp)
                      · rw [if_neg c37] at H
                        have c37b0 : decide (0 < x59_2) = false := decide_eq_false c37
                        clear c37
                        have H' := Aside0.mk H
                        clear H
                        have p158 : 0 ≤ (x59_2 : Int) := of_decide_eq_true (by first | (with_reducible assumption) | assumption)
                        have q158 : x59_2 < (t154.length : Int) := of_decide_eq_true (by first | (with_reducible assumption) | assumption)
                        obtain ⟨ad158, e158, hx158_0, hx158_1, hx158_2⟩ := at_T34 (Kd.R_reads' HO_57.out).2.2 x59_2 p158 q158
                        cases e158
                        replace p158 := eq_true p158
                        replace q158 := eq_true q158
                        try go_wp2_with (first | ((with_reducible refine gate_dst (N := 17) rfl ?_); (try (refine gate_guard (by rfl) ?_; dsimp only)); refine box_event ?hg (N := 17) ?hd (cs := #[.int .i64 0, .int .i64 0, .int .i64 0]) (t := 34) ?hr ?_; (case hd => rfl); (case hg => rfl); (case hr => first | (go_simp; done) | (go_simp; rfl)); intro gb159 hg w52 hbox hb; have n0_ := Aside0.mk (Kd.R_below (Kd.R_elderB (by (with_reducible repeat (first | apply Kd.R_alloc | apply Kd.R_drewN | apply Kd.R_drew)); exact HO_14.out) gb159 (Nat.le_of_eq hg.symm)) hb); have n1_ := Aside0.mk (Kd.R_below (Kd.R_elderB (by (with_reducible repeat (first | apply Kd.R_alloc | apply Kd.R_drewN | apply Kd.R_drew)); exact HO_57.out) gb159 (Nat.le_of_eq hg.symm)) hb); have n2_ := Aside0.mk (blk_below (g := gb149) (o := .cells #[.int .i64 (wrap64 (t147 - 10000)), .int .i64 (wrap64 (t148 - 10000))] 31 (0, 0)) (by (with_reducible repeat (first | refine blk_drewN ?_ _ | refine blk_drew ?_ | refine blk_alloc ?_ _)); exact BK149.out) hb); have n3_ := Aside0.mk (blk_below (g := gb152) (o := .cells #[.int .i64 (wrap64 (t147 - 10000)), .int .i64 (wrap64 (t148 - 10000)), .int .i64 (wrap64 ((wrap64 (t147 - 10000)) + t150)), .int .i64 (wrap64 ((wrap64 (t148 - 10000)) + t151))] 44 (0, 0)) (by (with_reducible repeat (first | refine blk_drewN ?_ _ | refine blk_drew ?_ | refine blk_alloc ?_ _)); exact BK152.out) hb); have n4_ := Aside0.mk (below_step (by repeat (first | (with_reducible first | exact HB.out | apply below_alloc | apply pw_below_drewN | apply below_drew1 | refine below_set ?_ GE149.out | refine below_set ?_ GE152.out) | exact HB.out)) hb); have n5_ := Aside0.mk (hbox); have n6_ := Aside0.mk ((by rw [hg]; exact (below_size (by repeat (first | (with_reducible first | exact HB.out | apply below_alloc | apply pw_below_drewN | apply below_drew1 | refine below_set ?_ GE149.out | refine below_set ?_ GE152.out) | exact HB.out))) : w.heap.size ≤ gb159)); have n7_ := Aside0.mk ((by rw [hg]; exact (below_size (by repeat (first | (with_reducible first | exact HB.out | apply below_alloc | apply pw_below_drewN | apply below_drew1 | refine below_set ?_ GE149.out | refine below_set ?_ GE152.out) | exact HB.out))) : w.heap.size ≤ gb159)); have n8_ := Aside0.mk ((by rw [hg]; exact Nat.ne_of_lt (blk_lt (g := gb149) (o := .cells #[.int .i64 (wrap64 (t147 - 10000)), .int .i64 (wrap64 (t148 - 10000))] 31 (0, 0)) (by (with_reducible repeat (first | refine blk_drewN ?_ _ | refine blk_drew ?_ | refine blk_alloc ?_ _)); exact BK149.out)) : gb149 ≠ gb159)); have n9_ := Aside0.mk ((by rw [hg]; exact Nat.ne_of_gt (blk_lt (g := gb149) (o := .cells #[.int .i64 (wrap64 (t147 - 10000)), .int .i64 (wrap64 (t148 - 10000))] 31 (0, 0)) (by (with_reducible repeat (first | refine blk_drewN ?_ _ | refine blk_drew ?_ | refine blk_alloc ?_ _)); exact BK149.out)) : gb159 ≠ gb149)); have n10_ := Aside0.mk ((by rw [hg]; exact Nat.ne_of_lt (blk_lt (g := gb152) (o := .cells #[.int .i64 (wrap64 (t147 - 10000)), .int .i64 (wrap64 (t148 - 10000)), .int .i64 (wrap64 ((wrap64 (t147 - 10000)) + t150)), .int .i64 (wrap64 ((wrap64 (t148 - 10000)) + t151))] 44 (0, 0)) (by (with_reducible repeat (first | refine blk_drewN ?_ _ | refine blk_drew ?_ | refine blk_alloc ?_ _)); exact BK152.out)) : gb152 ≠ gb159)); have n11_ := Aside0.mk ((by rw [hg]; exact Nat.ne_of_gt (blk_lt (g := gb152) (o := .cells #[.int .i64 (wrap64 (t147 - 10000)), .int .i64 (wrap64 (t148 - 10000)), .int .i64 (wrap64 ((wrap64 (t147 - 10000)) + t150)), .int .i64 (wrap64 ((wrap64 (t148 - 10000)) + t151))] 44 (0, 0)) (by (with_reducible repeat (first | refine blk_drewN ?_ _ | refine blk_drew ?_ | refine blk_alloc ?_ _)); exact BK152.out)) : gb159 ≠ gb152)); clear HO_14; clear HO_57; clear BK149; clear BK152; clear HB; have HO_14 := n0_; have HO_57 := n1_; have BK149 := n2_; have BK152 := n3_; have HB := n4_; have BK159 := n5_; have GW159 := n6_; have GE159 := n7_; have NB149_159 := n8_; have NB159_149 := n9_; have NB152_159 := n10_; have NB159_152 := n11_; clear n0_ n1_ n2_ n3_ n4_ n5_ n6_ n7_ n8_ n9_ n10_ n11_; clear hb hbox hg; have hnb53 := NB159_149.out; have hnc53 := NB149_159.out; have hnb54 := NB159_152.out; have hnc54 := NB152_159.out; have hcz55_0 : w52.cell? ⟨gb159, 0, none⟩ = some (.int .i64 0) := (blk_cell BK159.out 0).trans rfl; have hcz55_1 : w52.cell? ⟨gb159, 1, none⟩ = some (.int .i64 0) := (blk_cell BK159.out 1).trans rfl; have hcz55_2 : w52.cell? ⟨gb159, 2, none⟩ = some (.int .i64 0) := (blk_cell BK159.out 2).trans rfl; have hfz55_0 := blk_frozen BK159.out 0; have hfz55_1 := blk_frozen BK159.out 1; have hfz55_2 := blk_frozen BK159.out 2))
                        have n0_ : Aside0 (Kd.R k34 34 (((w52.setCell ⟨gb159, 0, none⟩ (.int .i64 ((rd_T34 t154 x59_2).f0))).setCell ⟨gb159, 1, none⟩ (.int .i64 ((rd_T34 t154 x59_2).f1))).setCell ⟨gb159, 2, none⟩ (.int .i64 ((rd_T34 t154 x59_2).f2))) w.heap.size (fun k_ => k_ ≠ gb159) (.slice (some ad158) t154.length co29) t154) := ⟨by (with_reducible repeat (first | apply Kd.R_alloc | apply Kd.R_drewN | apply Kd.R_drew)); exact Kd.R_mono (Kd.R_far (p := ⟨gb159, 2, none⟩) (Kd.R_far (p := ⟨gb159, 1, none⟩) (Kd.R_far (p := ⟨gb159, 0, none⟩) (Kd.R_mono HO_14.out (fun k_ hk => (⟨hk, hk.2⟩ : _ ∧ k_ ≠ gb159))) (fun _ hk => hk.2) (.int .i64 ((rd_T34 t154 x59_2).f0))) (fun _ hk => hk.2) (.int .i64 ((rd_T34 t154 x59_2).f1))) (fun _ hk => hk.2) (.int .i64 ((rd_T34 t154 x59_2).f2))) (fun _ hk => hk.1.2)⟩
                        have n1_ : Aside0 (Kd.R k34 34 (((w52.setCell ⟨gb159, 0, none⟩ (.int .i64 ((rd_T34 t154 x59_2).f0))).setCell ⟨gb159, 1, none⟩ (.int .i64 ((rd_T34 t154 x59_2).f1))).setCell ⟨gb159, 2, none⟩ (.int .i64 ((rd_T34 t154 x59_2).f2))) w.heap.size (fun k_ => k_ ≠ gb159) (.slice (some ad158) t154.length co29) t154) := ⟨by (with_reducible repeat (first | apply Kd.R_alloc | apply Kd.R_drewN | apply Kd.R_drew)); exact Kd.R_mono (Kd.R_far (p := ⟨gb159, 2, none⟩) (Kd.R_far (p := ⟨gb159, 1, none⟩) (Kd.R_far (p := ⟨gb159, 0, none⟩) (Kd.R_mono HO_57.out (fun k_ hk => (⟨hk, hk.2⟩ : _ ∧ k_ ≠ gb159))) (fun _ hk => hk.2) (.int .i64 ((rd_T34 t154 x59_2).f0))) (fun _ hk => hk.2) (.int .i64 ((rd_T34 t154 x59_2).f1))) (fun _ hk => hk.2) (.int .i64 ((rd_T34 t154 x59_2).f2))) (fun _ hk => hk.1.2)⟩
                        have n2_ : Aside0 ((((w52.setCell ⟨gb159, 0, none⟩ (.int .i64 ((rd_T34 t154 x59_2).f0))).setCell ⟨gb159, 1, none⟩ (.int .i64 ((rd_T34 t154 x59_2).f1))).setCell ⟨gb159, 2, none⟩ (.int .i64 ((rd_T34 t154 x59_2).f2))).heap[gb149]? = some (.cells #[.int .i64 (wrap64 (t147 - 10000)), .int .i64 (wrap64 (t148 - 10000))] 31 (0, 0))) := ⟨by (with_reducible repeat (first | refine blk_drewN ?_ _ | refine blk_drew ?_ | refine blk_alloc ?_ _)); refine blk_far ?_ NB149_159.out _; (with_reducible repeat (first | refine blk_drewN ?_ _ | refine blk_drew ?_ | refine blk_alloc ?_ _)); refine blk_far ?_ NB149_159.out _; (with_reducible repeat (first | refine blk_drewN ?_ _ | refine blk_drew ?_ | refine blk_alloc ?_ _)); refine blk_far ?_ NB149_159.out _; (with_reducible repeat (first | refine blk_drewN ?_ _ | refine blk_drew ?_ | refine blk_alloc ?_ _)); exact BK149.out⟩
                        have n3_ : Aside0 ((((w52.setCell ⟨gb159, 0, none⟩ (.int .i64 ((rd_T34 t154 x59_2).f0))).setCell ⟨gb159, 1, none⟩ (.int .i64 ((rd_T34 t154 x59_2).f1))).setCell ⟨gb159, 2, none⟩ (.int .i64 ((rd_T34 t154 x59_2).f2))).heap[gb152]? = some (.cells #[.int .i64 (wrap64 (t147 - 10000)), .int .i64 (wrap64 (t148 - 10000)), .int .i64 (wrap64 ((wrap64 (t147 - 10000)) + t150)), .int .i64 (wrap64 ((wrap64 (t148 - 10000)) + t151))] 44 (0, 0))) := ⟨by (with_reducible repeat (first | refine blk_drewN ?_ _ | refine blk_drew ?_ | refine blk_alloc ?_ _)); refine blk_far ?_ NB152_159.out _; (with_reducible repeat (first | refine blk_drewN ?_ _ | refine blk_drew ?_ | refine blk_alloc ?_ _)); refine blk_far ?_ NB152_159.out _; (with_reducible repeat (first | refine blk_drewN ?_ _ | refine blk_drew ?_ | refine blk_alloc ?_ _)); refine blk_far ?_ NB152_159.out _; (with_reducible repeat (first | refine blk_drewN ?_ _ | refine blk_drew ?_ | refine blk_alloc ?_ _)); exact BK152.out⟩
                        have n4_ : Aside0 ((((w52.setCell ⟨gb159, 0, none⟩ (.int .i64 ((rd_T34 t154 x59_2).f0))).setCell ⟨gb159, 1, none⟩ (.int .i64 ((rd_T34 t154 x59_2).f1))).setCell ⟨gb159, 2, none⟩ (.int .i64 ((rd_T34 t154 x59_2).f2))).heap[gb159]? = some (.cells #[.int .i64 ((rd_T34 t154 x59_2).f0), .int .i64 ((rd_T34 t154 x59_2).f1), .int .i64 ((rd_T34 t154 x59_2).f2)] 34 (0, 0))) := ⟨by (with_reducible repeat (first | refine blk_drewN ?_ _ | refine blk_drew ?_ | refine blk_alloc ?_ _)); refine blk_put (cs := #[.int .i64 ((rd_T34 t154 x59_2).f0), .int .i64 ((rd_T34 t154 x59_2).f1), .int .i64 0]) ?_ 2 _ rfl; (with_reducible repeat (first | refine blk_drewN ?_ _ | refine blk_drew ?_ | refine blk_alloc ?_ _)); refine blk_put (cs := #[.int .i64 ((rd_T34 t154 x59_2).f0), .int .i64 0, .int .i64 0]) ?_ 1 _ rfl; (with_reducible repeat (first | refine blk_drewN ?_ _ | refine blk_drew ?_ | refine blk_alloc ?_ _)); refine blk_put (cs := #[.int .i64 0, .int .i64 0, .int .i64 0]) ?_ 0 _ rfl; (with_reducible repeat (first | refine blk_drewN ?_ _ | refine blk_drew ?_ | refine blk_alloc ?_ _)); exact BK159.out⟩
                        have n5_ : Aside0 (Below w.heap.size w (((w52.setCell ⟨gb159, 0, none⟩ (.int .i64 ((rd_T34 t154 x59_2).f0))).setCell ⟨gb159, 1, none⟩ (.int .i64 ((rd_T34 t154 x59_2).f1))).setCell ⟨gb159, 2, none⟩ (.int .i64 ((rd_T34 t154 x59_2).f2)))) := ⟨by repeat (first | (with_reducible first | exact HB.out | apply below_alloc | apply pw_below_drewN | apply below_drew1 | refine below_set ?_ GE149.out | refine below_set ?_ GE152.out | refine below_set ?_ GE159.out) | exact HB.out)⟩
                        (try clear HO_14)
                        (try clear HO_57)
                        (try clear BK149)
                        (try clear BK152)
                        (try clear BK159)
                        (try clear HB)
                        generalize (((w52.setCell ⟨gb159, 0, none⟩ (.int .i64 ((rd_T34 t154 x59_2).f0))).setCell ⟨gb159, 1, none⟩ (.int .i64 ((rd_T34 t154 x59_2).f1))).setCell ⟨gb159, 2, none⟩ (.int .i64 ((rd_T34 t154 x59_2).f2))) = w56 at n0_ n1_ n2_ n3_ n4_ n5_ ⊢
                        have HO_14 := n0_
                        have HO_57 := n1_
                        have BK149 := n2_
                        have BK152 := n3_
                        have BK159 := n4_
                        have HB := n5_
                        clear n0_ n1_ n2_ n3_ n4_ n5_
                        have n0_ := Aside0.mk (Kd.R_drew HO_14.out)
                        have n1_ := Aside0.mk (Kd.R_drew HO_57.out)
                        have n2_ := Aside0.mk (blk_drew BK149.out)
                        have n3_ := Aside0.mk (blk_drew BK152.out)
                        have n4_ := Aside0.mk (blk_drew BK159.out)
                        have n5_ := Aside0.mk (below_drew1 HB.out)
                        clear HO_14
                        clear HO_57
                        clear BK149
                        clear BK152
                        clear BK159
                        clear HB
                        have HO_14 := n0_
                        have HO_57 := n1_
                        have BK149 := n2_
                        have BK152 := n3_
                        have BK159 := n4_
                        have HB := n5_
                        clear n0_ n1_ n2_ n3_ n4_ n5_
                        refine start_ (n := 25) (S := fun w' => w'.cell? ⟨gb159, 0, none⟩ = some (.int .i64 ((rd_T34 t154 x59_2).f0)) ∧ w'.cell? ⟨gb159, 1, none⟩ = some (.int .i64 ((rd_T34 t154 x59_2).f1)) ∧ w'.cell? ⟨gb159, 2, none⟩ = some (.int .i64 ((rd_T34 t154 x59_2).f2)) ∧ w'.cell? ⟨gb152, 0, none⟩ = some (.int .i64 (wrap64 (t147 - 10000))) ∧ w'.cell? ⟨gb152, 1, none⟩ = some (.int .i64 (wrap64 (t148 - 10000))) ∧ w'.cell? ⟨gb152, 2, none⟩ = some (.int .i64 (wrap64 ((wrap64 (t147 - 10000)) + t150))) ∧ w'.cell? ⟨gb152, 3, none⟩ = some (.int .i64 (wrap64 ((wrap64 (t148 - 10000)) + t151)))) (ds := []) #[false, false, false, false, false, false, false, false, false, false, false, false, false, false, false, false, false, false, false, false, false, false, false, false, false] (by kernel_rfl) rfl rfl ⟨(blk_cell BK159.out 0).trans rfl, (blk_cell BK159.out 1).trans rfl, (blk_cell BK159.out 2).trans rfl, (blk_cell BK152.out 0).trans rfl, (blk_cell BK152.out 1).trans rfl, (blk_cell BK152.out 2).trans rfl, (blk_cell BK152.out 3).trans rfl⟩ (fun hHeld => ?_); refine with_tabW terrkeep5_TileMeets.tab10 terrkeep5_TileMeets.bits10 (fun HT_ HW_ => ?_)
                        generalize w56.drew = w57 at HO_14 HO_57 BK149 BK152 BK159 HB hHeld ⊢
                        refine pure_ (i := 0) (N := some 64) (v := ?_) (a' := ?_) #[true, false, false, false, false, false, false, false, false, false, false, false, false, false, false, false, false, false, false, false, false, false, false, false, false] rfl rfl (any_of HT_.out (by kernel_rfl)) (fun _ _ _ h => h) (Or.inl ⟨by rfl, ?_⟩) ?_ ?_
                        rotate_left
                        · intro w'
                          go_simp
                          with_reducible rfl
                        rotate_left
                        · simp only [Act.put, List.setIfInBounds_toArray, List.set_cons_zero, List.set_cons_succ, i64_w, i32_w]
                          rfl
                        refine pure_ (i := 2) (N := some 66) (v := ?_) (a' := ?_) #[true, false, true, false, false, false, false, false, false, false, false, false, false, false, false, false, false, false, false, false, false, false, false, false, false] rfl rfl (any_of HT_.out (by kernel_rfl)) (fun _ _ _ h => h) (Or.inl ⟨by rfl, ?_⟩) ?_ ?_
                        rotate_left
                        · intro w'
                          go_simp
                          with_reducible rfl
                        rotate_left
                        · simp only [Act.put, List.setIfInBounds_toArray, List.set_cons_zero, List.set_cons_succ, i64_w, i32_w]
                          rfl
                        refine take_ (i := 1) (N := some 65) (v := ?_) (a' := ?_) #[true, true, true, false, false, false, false, false, false, false, false, false, false, false, false, false, false, false, false, false, false, false, false, false, false] rfl rfl (take_ofW HT_.out HW_.out (by kernel_rfl)) (fun _ _ _ h => h) (Or.inl ⟨by rfl, ?_⟩) hHeld ?_ ?_
                        rotate_left
                        · rintro w' ⟨s0, s1, s2, s3, s4, s5, s6⟩
                          go_simp
                          with_reducible rfl
                        rotate_left
                        · simp only [Act.put, List.setIfInBounds_toArray, List.set_cons_zero, List.set_cons_succ, i64_w, i32_w]
                          rfl
                        refine pure_ (i := 3) (N := some 67) (v := ?_) (a' := ?_) #[true, true, true, true, false, false, false, false, false, false, false, false, false, false, false, false, false, false, false, false, false, false, false, false, false] rfl rfl (any_of HT_.out (by kernel_rfl)) (fun _ _ _ h => h) (Or.inl ⟨by rfl, ?_⟩) ?_ ?_
                        rotate_left
                        · intro w'
                          go_simp
                          with_reducible rfl
                        rotate_left
                        · simp only [Act.put, List.setIfInBounds_toArray, List.set_cons_zero, List.set_cons_succ, i64_w, i32_w]
                          rfl
                        refine pure_ (i := 4) (N := some 68) (v := ?_) (a' := ?_) #[true, true, true, true, true, false, false, false, false, false, false, false, false, false, false, false, false, false, false, false, false, false, false, false, false] rfl rfl (any_of HT_.out (by kernel_rfl)) (fun _ _ _ h => h) (Or.inl ⟨by rfl, ?_⟩) ?_ ?_
                        rotate_left
                        · intro w'
                          go_simp
                          with_reducible rfl
                        rotate_left
                        · simp only [Act.put, List.setIfInBounds_toArray, List.set_cons_zero, List.set_cons_succ, i64_w, i32_w]
                          rfl
                        refine take_ (i := 5) (N := some 69) (v := ?_) (a' := ?_) #[true, true, true, true, true, true, false, false, false, false, false, false, false, false, false, false, false, false, false, false, false, false, false, false, false] rfl rfl (take_ofW HT_.out HW_.out (by kernel_rfl)) (fun _ _ _ h => h) (Or.inl ⟨by rfl, ?_⟩) hHeld ?_ ?_
                        rotate_left
                        · rintro w' ⟨s0, s1, s2, s3, s4, s5, s6⟩
                          go_simp
                          with_reducible rfl
                        rotate_left
                        · simp only [Act.put, List.setIfInBounds_toArray, List.set_cons_zero, List.set_cons_succ, i64_w, i32_w]
                          rfl
                        refine take_ (i := 7) (N := some 71) (v := ?_) (a' := ?_) #[true, true, true, true, true, true, false, true, false, false, false, false, false, false, false, false, false, false, false, false, false, false, false, false, false] rfl rfl (take_ofW HT_.out HW_.out (by kernel_rfl)) (fun _ _ _ h => h) (Or.inl ⟨by rfl, ?_⟩) hHeld ?_ ?_
                        rotate_left
                        · rintro w' ⟨s0, s1, s2, s3, s4, s5, s6⟩
                          go_simp
                          with_reducible rfl
                        rotate_left
                        · simp only [Act.put, List.setIfInBounds_toArray, List.set_cons_zero, List.set_cons_succ, i64_w, i32_w]
                          rfl
                        refine one_ (i := 6) (N := some 70) #[true, true, true, true, true, true, true, true, false, false, false, false, false, false, false, false, false, false, false, false, false, false, false, false, false] rfl rfl (one_of HT_.out (by kernel_rfl)) (by decide) (fun K hK => ?_)
                        refine goes_ Try.func22 (by kernel_rfl) rfl #[.agg #[.int .i64 ((rd_T34 t154 x59_2).f0), .int .i64 ((rd_T34 t154 x59_2).f1), .int .i64 ((rd_T34 t154 x59_2).f2)]] (by rfl) rfl rfl (by (try simp only [List.map_toArray, List.map_cons, List.map_nil]); first | done | rfl | (simp only [List.length_drop, List.length_take]; rfl)) ?_
                        with_reducible refine (tile_Box.calls ((rd_T34 t154 x59_2).f0) ((rd_T34 t154 x59_2).f1) ((rd_T34 t154 x59_2).f2) t160 t161 t162 t163 _ A34.out).mono ?_
                        rintro e w58 ⟨rfl, hb⟩
                        refine ⟨_, rfl, ?_⟩
                        have n0_ := Aside0.mk (Kd.R_below (by (with_reducible repeat (first | apply Kd.R_alloc | apply Kd.R_drewN | apply Kd.R_drew)); exact HO_14.out) hb)
                        have n1_ := Aside0.mk (Kd.R_below (by (with_reducible repeat (first | apply Kd.R_alloc | apply Kd.R_drewN | apply Kd.R_drew)); exact HO_57.out) hb)
                        have n2_ := Aside0.mk (blk_below (g := gb149) (o := .cells #[.int .i64 (wrap64 (t147 - 10000)), .int .i64 (wrap64 (t148 - 10000))] 31 (0, 0)) (by (with_reducible repeat (first | refine blk_drewN ?_ _ | refine blk_drew ?_ | refine blk_alloc ?_ _)); exact BK149.out) hb)
                        have n3_ := Aside0.mk (blk_below (g := gb152) (o := .cells #[.int .i64 (wrap64 (t147 - 10000)), .int .i64 (wrap64 (t148 - 10000)), .int .i64 (wrap64 ((wrap64 (t147 - 10000)) + t150)), .int .i64 (wrap64 ((wrap64 (t148 - 10000)) + t151))] 44 (0, 0)) (by (with_reducible repeat (first | refine blk_drewN ?_ _ | refine blk_drew ?_ | refine blk_alloc ?_ _)); exact BK152.out) hb)
                        have n4_ := Aside0.mk (blk_below (g := gb159) (o := .cells #[.int .i64 ((rd_T34 t154 x59_2).f0), .int .i64 ((rd_T34 t154 x59_2).f1), .int .i64 ((rd_T34 t154 x59_2).f2)] 34 (0, 0)) (by (with_reducible repeat (first | refine blk_drewN ?_ _ | refine blk_drew ?_ | refine blk_alloc ?_ _)); exact BK159.out) hb)
                        have n5_ := Aside0.mk (below_step (by repeat (first | (with_reducible first | exact HB.out | apply below_alloc | apply pw_below_drewN | apply below_drew1 | refine below_set ?_ GE149.out | refine below_set ?_ GE152.out | refine below_set ?_ GE159.out) | exact HB.out)) hb)
                        clear HO_14
                        clear HO_57
                        clear BK149
                        clear BK152
                        clear BK159
                        clear HB
                        have HO_14 := n0_
                        have HO_57 := n1_
                        have BK149 := n2_
                        have BK152 := n3_
                        have BK159 := n4_
                        have HB := n5_
                        clear n0_ n1_ n2_ n3_ n4_ n5_
                        (try clear hb)
                        (try clear hb2)
                        (try clear hk)
                        (try clear hi)
                        refine hK.out _ _ ⟨(blk_cell BK159.out 0).trans rfl, (blk_cell BK159.out 1).trans rfl, (blk_cell BK159.out 2).trans rfl, (blk_cell BK152.out 0).trans rfl, (blk_cell BK152.out 1).trans rfl, (blk_cell BK152.out 2).trans rfl, (blk_cell BK152.out 3).trans rfl⟩ (fun hHeld => ?_)
                        clear hK K
                        refine norm_ (a' := ?_) ?_ ?_
                        rotate_left
                        · show Act.put _ (some 70) _ = _
                          simp only [Act.put, List.setIfInBounds_toArray, List.set_cons_zero, List.set_cons_succ, i64_w, i32_w]
                          rfl
                        refine one_ (i := 8) (N := some 72) #[true, true, true, true, true, true, true, true, true, false, false, false, false, false, false, false, false, false, false, false, false, false, false, false, false] rfl rfl (one_of HT_.out (by kernel_rfl)) (by decide) (fun K hK => ?_)
                        refine goes_ Try.func34 (by kernel_rfl) rfl #[.agg #[.int .i64 t160, .int .i64 t161, .int .i64 t162, .int .i64 t163], .agg #[.int .i64 (wrap64 (t147 - 10000)), .int .i64 (wrap64 (t148 - 10000)), .int .i64 (wrap64 ((wrap64 (t147 - 10000)) + t150)), .int .i64 (wrap64 ((wrap64 (t148 - 10000)) + t151))]] (by rfl) rfl rfl (by (try simp only [List.map_toArray, List.map_cons, List.map_nil]); first | done | rfl | (simp only [List.length_drop, List.length_take]; rfl)) ?_
                        with_reducible refine (box_Meet.calls t160 t161 t162 t163 (wrap64 (t147 - 10000)) (wrap64 (t148 - 10000)) (wrap64 ((wrap64 (t147 - 10000)) + t150)) (wrap64 ((wrap64 (t148 - 10000)) + t151)) true _ A35.out).mono ?_
                        rintro e w59 ⟨rfl, hb⟩
                        refine ⟨_, rfl, ?_⟩
                        have n0_ := Aside0.mk (Kd.R_below (by (with_reducible repeat (first | apply Kd.R_alloc | apply Kd.R_drewN | apply Kd.R_drew)); exact HO_14.out) hb)
                        have n1_ := Aside0.mk (Kd.R_below (by (with_reducible repeat (first | apply Kd.R_alloc | apply Kd.R_drewN | apply Kd.R_drew)); exact HO_57.out) hb)
                        have n2_ := Aside0.mk (blk_below (g := gb149) (o := .cells #[.int .i64 (wrap64 (t147 - 10000)), .int .i64 (wrap64 (t148 - 10000))] 31 (0, 0)) (by (with_reducible repeat (first | refine blk_drewN ?_ _ | refine blk_drew ?_ | refine blk_alloc ?_ _)); exact BK149.out) hb)
                        have n3_ := Aside0.mk (blk_below (g := gb152) (o := .cells #[.int .i64 (wrap64 (t147 - 10000)), .int .i64 (wrap64 (t148 - 10000)), .int .i64 (wrap64 ((wrap64 (t147 - 10000)) + t150)), .int .i64 (wrap64 ((wrap64 (t148 - 10000)) + t151))] 44 (0, 0)) (by (with_reducible repeat (first | refine blk_drewN ?_ _ | refine blk_drew ?_ | refine blk_alloc ?_ _)); exact BK152.out) hb)
                        have n4_ := Aside0.mk (blk_below (g := gb159) (o := .cells #[.int .i64 ((rd_T34 t154 x59_2).f0), .int .i64 ((rd_T34 t154 x59_2).f1), .int .i64 ((rd_T34 t154 x59_2).f2)] 34 (0, 0)) (by (with_reducible repeat (first | refine blk_drewN ?_ _ | refine blk_drew ?_ | refine blk_alloc ?_ _)); exact BK159.out) hb)
                        have n5_ := Aside0.mk (below_step (by repeat (first | (with_reducible first | exact HB.out | apply below_alloc | apply pw_below_drewN | apply below_drew1 | refine below_set ?_ GE149.out | refine below_set ?_ GE152.out | refine below_set ?_ GE159.out) | exact HB.out)) hb)
                        clear HO_14
                        clear HO_57
                        clear BK149
                        clear BK152
                        clear BK159
                        clear HB
                        have HO_14 := n0_
                        have HO_57 := n1_
                        have BK149 := n2_
                        have BK152 := n3_
                        have BK159 := n4_
                        have HB := n5_
                        clear n0_ n1_ n2_ n3_ n4_ n5_
                        (try clear hb)
                        (try clear hb2)
                        (try clear hk)
                        (try clear hi)
                        refine hK.out _ _ ⟨(blk_cell BK159.out 0).trans rfl, (blk_cell BK159.out 1).trans rfl, (blk_cell BK159.out 2).trans rfl, (blk_cell BK152.out 0).trans rfl, (blk_cell BK152.out 1).trans rfl, (blk_cell BK152.out 2).trans rfl, (blk_cell BK152.out 3).trans rfl⟩ (fun hHeld => ?_)
                        clear hK K
                        refine norm_ (a' := ?_) ?_ ?_
                        rotate_left
                        · show Act.put _ (some 72) _ = _
                          simp only [Act.put, List.setIfInBounds_toArray, List.set_cons_zero, List.set_cons_succ, i64_w, i32_w]
                          rfl
                        refine pure_ (i := 9) (N := some 73) (v := ?_) (a' := ?_) #[true, true, true, true, true, true, true, true, true, true, false, false, false, false, false, false, false, false, false, false, false, false, false, false, false] rfl rfl (any_of HT_.out (by kernel_rfl)) (fun _ _ _ h => h) (Or.inl ⟨by rfl, ?_⟩) ?_ ?_
                        rotate_left
                        · intro w'
                          go_simp
                          with_reducible rfl
                        rotate_left
                        · simp only [Act.put, List.setIfInBounds_toArray, List.set_cons_zero, List.set_cons_succ, i64_w, i32_w]
                          rfl
                        refine pure_ (i := 10) (N := some 74) (v := ?_) (a' := ?_) #[true, true, true, true, true, true, true, true, true, true, true, false, false, false, false, false, false, false, false, false, false, false, false, false, false] rfl rfl (any_of HT_.out (by kernel_rfl)) (fun _ _ _ h => h) (Or.inl ⟨by rfl, ?_⟩) ?_ ?_
                        rotate_left
                        · intro w'
                          go_simp
                          with_reducible rfl
                        rotate_left
                        · simp only [Act.put, List.setIfInBounds_toArray, List.set_cons_zero, List.set_cons_succ, i64_w, i32_w]
                          rfl
                        refine pure_ (i := 11) (N := some 75) (v := ?_) (a' := ?_) #[true, true, true, true, true, true, true, true, true, true, true, true, false, false, false, false, false, false, false, false, false, false, false, false, false] rfl rfl (any_of HT_.out (by kernel_rfl)) (fun _ _ _ h => h) (Or.inl ⟨by rfl, ?_⟩) ?_ ?_
                        rotate_left
                        · intro w'
                          go_simp
                          with_reducible rfl
                        rotate_left
                        · simp only [Act.put, List.setIfInBounds_toArray, List.set_cons_zero, List.set_cons_succ, i64_w, i32_w]
                          rfl
                        refine pure_ (i := 12) (N := some 76) (v := ?_) (a' := ?_) #[true, true, true, true, true, true, true, true, true, true, true, true, true, false, false, false, false, false, false, false, false, false, false, false, false] rfl rfl (any_of HT_.out (by kernel_rfl)) (fun _ _ _ h => h) (Or.inl ⟨by rfl, ?_⟩) ?_ ?_
                        rotate_left
                        · intro w'
                          go_simp
                          with_reducible rfl
                        rotate_left
                        · simp only [Act.put, List.setIfInBounds_toArray, List.set_cons_zero, List.set_cons_succ, i64_w, i32_w]
                          rfl
                        refine pure_ (i := 13) (N := some 77) (v := ?_) (a' := ?_) #[true, true, true, true, true, true, true, true, true, true, true, true, true, true, false, false, false, false, false, false, false, false, false, false, false] rfl rfl (any_of HT_.out (by kernel_rfl)) (fun _ _ _ h => h) (Or.inl ⟨by rfl, ?_⟩) ?_ ?_
                        rotate_left
                        · intro w'
                          go_simp
                          with_reducible rfl
                        rotate_left
                        · simp only [Act.put, List.setIfInBounds_toArray, List.set_cons_zero, List.set_cons_succ, i64_w, i32_w]
                          rfl
                        refine pure_ (i := 14) (N := some 78) (v := ?_) (a' := ?_) #[true, true, true, true, true, true, true, true, true, true, true, true, true, true, true, false, false, false, false, false, false, false, false, false, false] rfl rfl (any_of HT_.out (by kernel_rfl)) (fun _ _ _ h => h) (Or.inl ⟨by rfl, ?_⟩) ?_ ?_
                        rotate_left
                        · intro w'
                          go_simp
                          with_reducible rfl
                        rotate_left
                        · simp only [Act.put, List.setIfInBounds_toArray, List.set_cons_zero, List.set_cons_succ, i64_w, i32_w]
                          rfl
                        refine pure_ (i := 15) (N := some 79) (v := undef) (a' := ?_) #[true, true, true, true, true, true, true, true, true, true, true, true, true, true, true, true, false, false, false, false, false, false, false, false, false] rfl rfl (any_of HT_.out (by kernel_rfl)) (fun _ _ _ h => h) (Or.inr ⟨by rfl, rfl⟩) ?_ ?_
                        rotate_left
                        · simp only [Act.put, List.setIfInBounds_toArray, List.set_cons_zero, List.set_cons_succ, i64_w, i32_w]
                          rfl
                        refine pure_ (i := 16) (N := some 80) (v := undef) (a' := ?_) #[true, true, true, true, true, true, true, true, true, true, true, true, true, true, true, true, true, false, false, false, false, false, false, false, false] rfl rfl (any_of HT_.out (by kernel_rfl)) (fun _ _ _ h => h) (Or.inr ⟨by rfl, rfl⟩) ?_ ?_
                        rotate_left
                        · simp only [Act.put, List.setIfInBounds_toArray, List.set_cons_zero, List.set_cons_succ, i64_w, i32_w]
                          rfl
                        refine pure_ (i := 17) (N := some 81) (v := undef) (a' := ?_) #[true, true, true, true, true, true, true, true, true, true, true, true, true, true, true, true, true, true, false, false, false, false, false, false, false] rfl rfl (any_of HT_.out (by kernel_rfl)) (fun _ _ _ h => h) (Or.inr ⟨by rfl, rfl⟩) ?_ ?_
                        rotate_left
                        · simp only [Act.put, List.setIfInBounds_toArray, List.set_cons_zero, List.set_cons_succ, i64_w, i32_w]
                          rfl
                        refine pure_ (i := 18) (N := some 82) (v := undef) (a' := ?_) #[true, true, true, true, true, true, true, true, true, true, true, true, true, true, true, true, true, true, true, false, false, false, false, false, false] rfl rfl (any_of HT_.out (by kernel_rfl)) (fun _ _ _ h => h) (Or.inr ⟨by rfl, rfl⟩) ?_ ?_
                        rotate_left
                        · simp only [Act.put, List.setIfInBounds_toArray, List.set_cons_zero, List.set_cons_succ, i64_w, i32_w]
                          rfl
                        refine pure_ (i := 19) (N := some 83) (v := undef) (a' := ?_) #[true, true, true, true, true, true, true, true, true, true, true, true, true, true, true, true, true, true, true, true, false, false, false, false, false] rfl rfl (any_of HT_.out (by kernel_rfl)) (fun _ _ _ h => h) (Or.inr ⟨by rfl, rfl⟩) ?_ ?_
                        rotate_left
                        · simp only [Act.put, List.setIfInBounds_toArray, List.set_cons_zero, List.set_cons_succ, i64_w, i32_w]
                          rfl
                        refine pure_ (i := 20) (N := some 84) (v := undef) (a' := ?_) #[true, true, true, true, true, true, true, true, true, true, true, true, true, true, true, true, true, true, true, true, true, false, false, false, false] rfl rfl (any_of HT_.out (by kernel_rfl)) (fun _ _ _ h => h) (Or.inr ⟨by rfl, rfl⟩) ?_ ?_
                        rotate_left
                        · simp only [Act.put, List.setIfInBounds_toArray, List.set_cons_zero, List.set_cons_succ, i64_w, i32_w]
                          rfl
                        refine pure_ (i := 21) (N := some 85) (v := undef) (a' := ?_) #[true, true, true, true, true, true, true, true, true, true, true, true, true, true, true, true, true, true, true, true, true, true, false, false, false] rfl rfl (any_of HT_.out (by kernel_rfl)) (fun _ _ _ h => h) (Or.inr ⟨by rfl, rfl⟩) ?_ ?_
                        rotate_left
                        · simp only [Act.put, List.setIfInBounds_toArray, List.set_cons_zero, List.set_cons_succ, i64_w, i32_w]
                          rfl
                        refine pure_ (i := 22) (N := some 86) (v := undef) (a' := ?_) #[true, true, true, true, true, true, true, true, true, true, true, true, true, true, true, true, true, true, true, true, true, true, true, false, false] rfl rfl (any_of HT_.out (by kernel_rfl)) (fun _ _ _ h => h) (Or.inr ⟨by rfl, rfl⟩) ?_ ?_
                        rotate_left
                        · simp only [Act.put, List.setIfInBounds_toArray, List.set_cons_zero, List.set_cons_succ, i64_w, i32_w]
                          rfl
                        refine pure_ (i := 23) (N := some 87) (v := ?_) (a' := ?_) #[true, true, true, true, true, true, true, true, true, true, true, true, true, true, true, true, true, true, true, true, true, true, true, true, false] rfl rfl (any_of HT_.out (by kernel_rfl)) (fun _ _ _ h => h) (Or.inl ⟨by rfl, ?_⟩) ?_ ?_
                        rotate_left
                        · intro w'
                          go_simp
                          with_reducible rfl
                        rotate_left
                        · simp only [Act.put, List.setIfInBounds_toArray, List.set_cons_zero, List.set_cons_succ, i64_w, i32_w]
                          rfl
                        refine pure_ (i := 24) (N := some 88) (v := ?_) (a' := ?_) #[true, true, true, true, true, true, true, true, true, true, true, true, true, true, true, true, true, true, true, true, true, true, true, true, true] rfl rfl (any_of HT_.out (by kernel_rfl)) (fun _ _ _ h => h) (Or.inl ⟨by rfl, ?_⟩) ?_ ?_
                        rotate_left
                        · intro w'
                          go_simp
                          with_reducible rfl
                        rotate_left
                        · simp only [Act.put, List.setIfInBounds_toArray, List.set_cons_zero, List.set_cons_succ, i64_w, i32_w]
                          rfl
                        refine done_ (done_of HT_.out (by kernel_rfl)) ?_
                        try go_wp2
                        go_roundg k2
                        case measure => have := HJ11.out; have := HK2.out; omega
                        case rel => exact ⟨(wrap64 (x59_2 + 1)), (by first | rfl | (simp; done) | (simp [*]; done)), H', ⟨by have := HJ11.out; have := HK2.out; omega⟩, ⟨by (with_reducible repeat (first | apply Kd.R_alloc | apply Kd.R_drewN | apply Kd.R_drew)); exact Kd.R_mono HO_14.out (fun _ hk => trivial)⟩, ⟨by (with_reducible repeat (first | apply Kd.R_alloc | apply Kd.R_drewN | apply Kd.R_drew)); exact Kd.R_mono HO_57.out (fun _ hk => trivial)⟩, ⟨by (with_reducible repeat (first | refine blk_drewN ?_ _ | refine blk_drew ?_ | refine blk_alloc ?_ _)); exact BK149.out⟩, ⟨by (with_reducible repeat (first | refine blk_drewN ?_ _ | refine blk_drew ?_ | refine blk_alloc ?_ _)); exact BK152.out⟩, ⟨by repeat (first | (with_reducible first | exact HB.out | apply below_alloc | apply pw_below_drewN | apply below_drew1 | refine below_set ?_ GE149.out | refine below_set ?_ GE152.out | refine below_set ?_ GE159.out) | exact HB.out)⟩⟩
                    · replace c36 := Bool.eq_false_iff.mpr c36
                      subst c36
                      have H1 : (some false) = some r := by rw [if_neg (show ¬ (false = true) by decide)] at H; exact H
                      clear H
                      have H := H1
                      clear H1
                      exact absurd (H.trans (congrArg some hr)) (by decide)
                  · rw [if_neg c33] at H
                    have c33b0 : (((rd_T34 t154 x59_2).f0) == t153) = false := beq_eq_false_iff_ne.mpr c33
                    have c33b1 : (((rd_T34 t154 x59_2).f0) != t153) = true := bne_iff_ne.mpr c33
                    exact absurd (H.trans (congrArg some hr)) (by decide)
                · rw [if_neg c32] at H
                  exact absurd H (by simp)
              · rw [if_neg c31] at H
                exact absurd H (by simp)
            · rw [if_neg c30] at H
              have c30b0 : decide (x59_2 < (t154.length : Int)) = false := decide_eq_false c30
              clear c30
              obtain ⟨y167, hy167⟩ : ∃ y_ : List (S31), y_ = (([(⟨(wrap64 (t147 - 10000)), (wrap64 (t148 - 10000))⟩ : S31), (⟨(wrap64 ((wrap64 (t147 - 10000)) + t150)), (wrap64 ((wrap64 (t148 - 10000)) + t151))⟩ : S31), (⟨(wrap64 (t147 - 10000)), (wrap64 ((wrap64 (t148 - 10000)) + t151))⟩ : S31), (⟨wrap64 (Int.tdiv (wrap64 ((wrap64 (t147 - 10000)) + (wrap64 ((wrap64 (t147 - 10000)) + t150)))) 2), (wrap64 (t148 - 10000))⟩ : S31)] : List (S31))) := ⟨_, rfl⟩
              replace H : (terrkeep5_TileMeets.l1 k2 t153 t154 y167 (y167.length : Int) 0) = some r := by first | (rw [hy167]; with_reducible exact H) | (have H2_ := (Option.bind_some _ _).symm.trans H; rw [hy167]; with_reducible exact H2_) | (have H2_ := (Option.bind_some _ _).symm.trans H; with_reducible exact H2_) | with_reducible exact H | (rw [hy167]; exact H) | exact H
              have Ny167 := Aside0.mk hy167
              clear hy167
              have H' := Aside0.mk H
              clear H
              have hnb60 := NB152_149.out
              have hnc60 := NB149_152.out
              have hcz61_0 : wr.cell? ⟨gb152, 0, none⟩ = some (.int .i64 (wrap64 (t147 - 10000))) := (blk_cell BK152.out 0).trans rfl
              have hcz61_1 : wr.cell? ⟨gb152, 1, none⟩ = some (.int .i64 (wrap64 (t148 - 10000))) := (blk_cell BK152.out 1).trans rfl
              have hcz61_2 : wr.cell? ⟨gb152, 2, none⟩ = some (.int .i64 (wrap64 ((wrap64 (t147 - 10000)) + t150))) := (blk_cell BK152.out 2).trans rfl
              have hcz61_3 : wr.cell? ⟨gb152, 3, none⟩ = some (.int .i64 (wrap64 ((wrap64 (t148 - 10000)) + t151))) := (blk_cell BK152.out 3).trans rfl
              have hfz61_0 := blk_frozen BK152.out 0
              have hfz61_1 := blk_frozen BK152.out 1
              have hfz61_2 := blk_frozen BK152.out 2
              have hfz61_3 := blk_frozen BK152.out 3
              go_wp2_with (first | ((with_reducible refine gate_dst (N := 113) rfl ?_); (try (refine gate_guard (by rfl) ?_; dsimp only)); refine Kd.R_lit k31 _ 31 ?hg (N := 113) ?hd (xs := ([(⟨(wrap64 (t147 - 10000)), (wrap64 (t148 - 10000))⟩ : S31), (⟨(wrap64 ((wrap64 (t147 - 10000)) + t150)), (wrap64 ((wrap64 (t148 - 10000)) + t151))⟩ : S31), (⟨(wrap64 (t147 - 10000)), (wrap64 ((wrap64 (t148 - 10000)) + t151))⟩ : S31), (⟨wrap64 (Int.tdiv (wrap64 ((wrap64 (t147 - 10000)) + (wrap64 ((wrap64 (t147 - 10000)) + t150)))) 2), (wrap64 (t148 - 10000))⟩ : S31)] : List (S31))) (inner := [.int .i64 (wrap64 (t147 - 10000)), .int .i64 (wrap64 (t148 - 10000)), .int .i64 (wrap64 ((wrap64 (t147 - 10000)) + t150)), .int .i64 (wrap64 ((wrap64 (t148 - 10000)) + t151)), .int .i64 (wrap64 (t147 - 10000)), .int .i64 (wrap64 ((wrap64 (t148 - 10000)) + t151)), .int .i64 (wrap64 (Int.tdiv (wrap64 ((wrap64 (t147 - 10000)) + (wrap64 ((wrap64 (t147 - 10000)) + t150)))) 2)), .int .i64 (wrap64 (t148 - 10000))]) (ok := fun _ => True) (okp := fun _ => True) ?hr ?hp (fun _ hk => hk) trivial (Below.refl _ _) (Nat.le_refl _) (by simp) ?_; (case hd => rfl); (case hg => rfl); (case hr => first | (go_simp; done) | (go_simp; rfl)); (case hp => exact (Reps.c2 (show Kd.M k31 _ _ _ (⟨(wrap64 (t147 - 10000)), (wrap64 (t148 - 10000))⟩ : S31) [.int .i64 (wrap64 (t147 - 10000)), .int .i64 (wrap64 (t148 - 10000))] from (k31_mkM _ _ _ (⟨(wrap64 (t147 - 10000)), (wrap64 (t148 - 10000))⟩ : S31) )) (Reps.c2 (show Kd.M k31 _ _ _ (⟨(wrap64 ((wrap64 (t147 - 10000)) + t150)), (wrap64 ((wrap64 (t148 - 10000)) + t151))⟩ : S31) [.int .i64 (wrap64 ((wrap64 (t147 - 10000)) + t150)), .int .i64 (wrap64 ((wrap64 (t148 - 10000)) + t151))] from (k31_mkM _ _ _ (⟨(wrap64 ((wrap64 (t147 - 10000)) + t150)), (wrap64 ((wrap64 (t148 - 10000)) + t151))⟩ : S31) )) (Reps.c2 (show Kd.M k31 _ _ _ (⟨(wrap64 (t147 - 10000)), (wrap64 ((wrap64 (t148 - 10000)) + t151))⟩ : S31) [.int .i64 (wrap64 (t147 - 10000)), .int .i64 (wrap64 ((wrap64 (t148 - 10000)) + t151))] from (k31_mkM _ _ _ (⟨(wrap64 (t147 - 10000)), (wrap64 ((wrap64 (t148 - 10000)) + t151))⟩ : S31) )) (Reps.c2 (show Kd.M k31 _ _ _ (⟨wrap64 (Int.tdiv (wrap64 ((wrap64 (t147 - 10000)) + (wrap64 ((wrap64 (t147 - 10000)) + t150)))) 2), (wrap64 (t148 - 10000))⟩ : S31) [.int .i64 (wrap64 (Int.tdiv (wrap64 ((wrap64 (t147 - 10000)) + (wrap64 ((wrap64 (t147 - 10000)) + t150)))) 2)), .int .i64 (wrap64 (t148 - 10000))] from (k31_mkM _ _ _ (⟨wrap64 (Int.tdiv (wrap64 ((wrap64 (t147 - 10000)) + (wrap64 ((wrap64 (t147 - 10000)) + t150)))) 2), (wrap64 (t148 - 10000))⟩ : S31) )) (Reps.none _ _)))))); intro v168 w62 ho63 hb hg_ hnew_; clear hg_ hnew_; (first | rw [← Ny167.out] at ho63 | (simp only [Int.reduceToNat] at ho63; rw [← Ny167.out] at ho63)); have n0_ := Aside0.mk (Kd.R_below (by (with_reducible repeat (first | apply Kd.R_alloc | apply Kd.R_drewN | apply Kd.R_drew)); exact HO_14.out) hb); have n1_ := Aside0.mk (Kd.R_below (by (with_reducible repeat (first | apply Kd.R_alloc | apply Kd.R_drewN | apply Kd.R_drew)); exact HO_57.out) hb); have n2_ := Aside0.mk (Kd.R_lower (Kd.R_newB ho63 (g := gb149) (o := .cells #[.int .i64 (wrap64 (t147 - 10000)), .int .i64 (wrap64 (t148 - 10000))] 31 (0, 0)) (by (with_reducible repeat (first | refine blk_drewN ?_ _ | refine blk_drew ?_ | refine blk_alloc ?_ _)); exact BK149.out)) (below_size (by repeat (first | (with_reducible first | exact HB.out | apply below_alloc | apply pw_below_drewN | apply below_drew1 | refine below_set ?_ GE149.out | refine below_set ?_ GE152.out) | exact HB.out)))); have n3_ := Aside0.mk (blk_below (g := gb149) (o := .cells #[.int .i64 (wrap64 (t147 - 10000)), .int .i64 (wrap64 (t148 - 10000))] 31 (0, 0)) (by (with_reducible repeat (first | refine blk_drewN ?_ _ | refine blk_drew ?_ | refine blk_alloc ?_ _)); exact BK149.out) hb); have n4_ := Aside0.mk (blk_below (g := gb152) (o := .cells #[.int .i64 (wrap64 (t147 - 10000)), .int .i64 (wrap64 (t148 - 10000)), .int .i64 (wrap64 ((wrap64 (t147 - 10000)) + t150)), .int .i64 (wrap64 ((wrap64 (t148 - 10000)) + t151))] 44 (0, 0)) (by (with_reducible repeat (first | refine blk_drewN ?_ _ | refine blk_drew ?_ | refine blk_alloc ?_ _)); exact BK152.out) hb); have n5_ := Aside0.mk (below_step (by repeat (first | (with_reducible first | exact HB.out | apply below_alloc | apply pw_below_drewN | apply below_drew1 | refine below_set ?_ GE149.out | refine below_set ?_ GE152.out) | exact HB.out)) hb); clear HO_14; clear HO_57; clear BK149; clear BK152; clear HB; have HO_14 := n0_; have HO_57 := n1_; have HO169 := n2_; have BK149 := n3_; have BK152 := n4_; have HB := n5_; clear n0_ n1_ n2_ n3_ n4_ n5_; clear hb ho63; obtain ⟨Ao64, co64, eo64⟩ := Kd.R_slice HO169.out; subst eo64))
              go_loopg [115] k2 (fun kq v115 w' => ∃ (x115_3 : Int), v115 = .int .i64 x115_3 ∧ Aside0 (terrkeep5_TileMeets.l1 kq t153 t154 y167 (y167.length : Int) x115_3 = some r) ∧ Aside0 (kq ≤ k2) ∧ Aside0 (Kd.R k34 34 w' w.heap.size (fun _ => True) (.slice Ao29 t154.length co29) t154) ∧ Aside0 (Kd.R k31 31 w' w.heap.size (fun k_ => k_ ≠ gb149) (.slice Ao64 y167.length co64) y167) ∧ Aside0 (w'.heap[gb149]? = some (.cells #[.int .i64 (wrap64 (t147 - 10000)), .int .i64 (wrap64 (t148 - 10000))] 31 (0, 0))) ∧ Aside0 (w'.heap[gb152]? = some (.cells #[.int .i64 (wrap64 (t147 - 10000)), .int .i64 (wrap64 (t148 - 10000)), .int .i64 (wrap64 ((wrap64 (t147 - 10000)) + t150)), .int .i64 (wrap64 ((wrap64 (t148 - 10000)) + t151))] 44 (0, 0))) ∧ Aside0 (Below w.heap.size w w'))
              case atStart => exact ⟨(0), (by first | rfl | (simp; done) | (simp [*]; done)), H', ⟨Nat.le_refl _⟩, ⟨by (with_reducible repeat (first | apply Kd.R_alloc | apply Kd.R_drewN | apply Kd.R_drew)); exact HO_14.out⟩, ⟨by (with_reducible repeat (first | apply Kd.R_alloc | apply Kd.R_drewN | apply Kd.R_drew)); exact Kd.R_mono HO169.out (fun _ hk => hk.2)⟩, ⟨by (with_reducible repeat (first | refine blk_drewN ?_ _ | refine blk_drew ?_ | refine blk_alloc ?_ _)); exact BK149.out⟩, ⟨by (with_reducible repeat (first | refine blk_drewN ?_ _ | refine blk_drew ?_ | refine blk_alloc ?_ _)); exact BK152.out⟩, ⟨by repeat (first | (with_reducible first | exact HB.out | apply below_alloc | apply pw_below_drewN | apply below_drew1 | refine below_set ?_ GE149.out | refine below_set ?_ GE152.out) | exact HB.out)⟩⟩
              case round =>
                clear H'
                try clear p1
                try clear q1
                try clear hx1
                try clear c2
                try clear p2
                try clear c3
                try clear c4
                try clear c5
                try clear p5
                try clear c6
                try clear p6
                try clear p15
                try clear q15
                try clear hx15
                try clear c22
                try clear c30
                try clear c30b0
                try clear c31
                try clear c32
                try clear c33
                try clear c33b0
                try clear c33b1
                try clear c34
                try clear c35
                try clear c36
                try clear c37
                try clear c37b0
                try clear c39
                try clear c40
                try clear c42
                try clear c53
                try clear c54
                try clear c60
                try clear p64
                try clear hcz55_0
                try clear hcz55_1
                try clear hcz55_2
                try clear hcz61_0
                try clear hcz61_1
                try clear hcz61_2
                try clear hcz61_3
                try clear hfz55_0
                try clear hfz55_1
                try clear hfz55_2
                try clear hfz61_0
                try clear hfz61_1
                try clear hfz61_2
                try clear hfz61_3
                try clear hx158_0
                try clear hx158_1
                try clear hx158_2
                try clear p158
                try clear q158
                obtain ⟨x115_3, rfl, HA, HK3, HO_14, HO_113, BK149, BK152, HB⟩ := hrel
                cases gk with
                | zero => exact absurd HA.out (by simp [terrkeep5_TileMeets.l1])
                | succ k3 =>
                  have H := HA.out
                  clear HA
                  simp only [terrkeep5_TileMeets.l1] at H
                  by_cases c65 : x115_3 < (y167.length : Int)
                  · rw [if_pos c65] at H
                    have c65b0 : decide (x115_3 < (y167.length : Int)) = true := decide_eq_true c65
                    clear c65
                    by_cases c66 : 0 ≤ x115_3
                    · rw [if_pos c66] at H
                      have c66b0 : decide (0 ≤ x115_3) = true := decide_eq_true c66
                      clear c66
                      by_cases c67 : x115_3 < (y167.length : Int)
                      · rw [if_pos c67] at H
                        have c67b0 : decide (x115_3 < (y167.length : Int)) = true := decide_eq_true c67
                        clear c67
                        replace H := Option.bind_eq_some_iff.mp H
                        obtain ⟨⟨t172, t173, t174, t175⟩, A680, H⟩ := H
                        replace H : (if t175 = 0 then ((api_TileID_31.f k3 t154 t172 t173 t174).bind fun t177 => (if t177 = true then (terrkeep5_TileMeets.l1 k3 t153 t154 y167 (y167.length : Int) (wrap64 (x115_3 + 1))) else (some false))) else (some false)) = some r := H
                        have A68 := Aside0.mk A680
                        clear A680
                        by_cases c69 : t175 = 0
                        · rw [if_pos c69] at H
                          have c69b0 : (t175 == 0) = true := beq_iff_eq.mpr c69
                          have c69b1 : (t175 != 0) = false := bne_eq_false_iff_eq.mpr c69
                          clear c69
                          replace H := Option.bind_eq_some_iff.mp H
                          obtain ⟨t177, A700, H⟩ := H
                          replace H : (if t177 = true then (terrkeep5_TileMeets.l1 k3 t153 t154 y167 (y167.length : Int) (wrap64 (x115_3 + 1))) else (some false)) = some r := H
                          have A70 := Aside0.mk A700
                          clear A700
                          by_cases c71 : t177 = true
                          · subst c71
                            have H1 : (terrkeep5_TileMeets.l1 k3 t153 t154 y167 (y167.length : Int) (wrap64 (x115_3 + 1))) = some r := by rw [if_pos rfl] at H; exact H
                            clear H
                            have H := H1
                            clear H1
                            have H' := Aside0.mk H
                            clear H
                            have p170 : 0 ≤ (x115_3 : Int) := of_decide_eq_true (by first | (with_reducible assumption) | assumption)
                            have q170 : x115_3 < (y167.length : Int) := of_decide_eq_true (by first | (with_reducible assumption) | assumption)
                            obtain ⟨ad170, e170, hx170_0, hx170_1⟩ := at_T31 (Kd.R_reads' HO_113.out).2.2 x115_3 p170 q170
                            cases e170
                            replace p170 := eq_true p170
                            replace q170 := eq_true q170
                            go_wp2_with (first | ((with_reducible refine gate_dst (N := 19) rfl ?_); (try (refine gate_guard (by rfl) ?_; dsimp only)); refine box_event ?hg (N := 19) ?hd (cs := #[.int .i64 0, .int .i64 0]) (t := 31) ?hr ?_; (case hd => rfl); (case hg => rfl); (case hr => first | (go_simp; done) | (go_simp; rfl)); intro gb171 hg w72 hbox hb; have n0_ := Aside0.mk (Kd.R_below (by (with_reducible repeat (first | apply Kd.R_alloc | apply Kd.R_drewN | apply Kd.R_drew)); exact HO_14.out) hb); have n1_ := Aside0.mk (Kd.R_below (Kd.R_elderB (by (with_reducible repeat (first | apply Kd.R_alloc | apply Kd.R_drewN | apply Kd.R_drew)); exact HO_113.out) gb171 (Nat.le_of_eq hg.symm)) hb); have n2_ := Aside0.mk (blk_below (g := gb149) (o := .cells #[.int .i64 (wrap64 (t147 - 10000)), .int .i64 (wrap64 (t148 - 10000))] 31 (0, 0)) (by (with_reducible repeat (first | refine blk_drewN ?_ _ | refine blk_drew ?_ | refine blk_alloc ?_ _)); exact BK149.out) hb); have n3_ := Aside0.mk (blk_below (g := gb152) (o := .cells #[.int .i64 (wrap64 (t147 - 10000)), .int .i64 (wrap64 (t148 - 10000)), .int .i64 (wrap64 ((wrap64 (t147 - 10000)) + t150)), .int .i64 (wrap64 ((wrap64 (t148 - 10000)) + t151))] 44 (0, 0)) (by (with_reducible repeat (first | refine blk_drewN ?_ _ | refine blk_drew ?_ | refine blk_alloc ?_ _)); exact BK152.out) hb); have n4_ := Aside0.mk (below_step (by repeat (first | (with_reducible first | exact HB.out | apply below_alloc | apply pw_below_drewN | apply below_drew1 | refine below_set ?_ GE149.out | refine below_set ?_ GE152.out) | exact HB.out)) hb); have n5_ := Aside0.mk (hbox); have n6_ := Aside0.mk ((by rw [hg]; exact (below_size (by repeat (first | (with_reducible first | exact HB.out | apply below_alloc | apply pw_below_drewN | apply below_drew1 | refine below_set ?_ GE149.out | refine below_set ?_ GE152.out) | exact HB.out))) : w.heap.size ≤ gb171)); have n7_ := Aside0.mk ((by rw [hg]; exact (below_size (by repeat (first | (with_reducible first | exact HB.out | apply below_alloc | apply pw_below_drewN | apply below_drew1 | refine below_set ?_ GE149.out | refine below_set ?_ GE152.out) | exact HB.out))) : w.heap.size ≤ gb171)); have n8_ := Aside0.mk ((by rw [hg]; exact Nat.ne_of_lt (blk_lt (g := gb149) (o := .cells #[.int .i64 (wrap64 (t147 - 10000)), .int .i64 (wrap64 (t148 - 10000))] 31 (0, 0)) (by (with_reducible repeat (first | refine blk_drewN ?_ _ | refine blk_drew ?_ | refine blk_alloc ?_ _)); exact BK149.out)) : gb149 ≠ gb171)); have n9_ := Aside0.mk ((by rw [hg]; exact Nat.ne_of_gt (blk_lt (g := gb149) (o := .cells #[.int .i64 (wrap64 (t147 - 10000)), .int .i64 (wrap64 (t148 - 10000))] 31 (0, 0)) (by (with_reducible repeat (first | refine blk_drewN ?_ _ | refine blk_drew ?_ | refine blk_alloc ?_ _)); exact BK149.out)) : gb171 ≠ gb149)); have n10_ := Aside0.mk ((by rw [hg]; exact Nat.ne_of_lt (blk_lt (g := gb152) (o := .cells #[.int .i64 (wrap64 (t147 - 10000)), .int .i64 (wrap64 (t148 - 10000)), .int .i64 (wrap64 ((wrap64 (t147 - 10000)) + t150)), .int .i64 (wrap64 ((wrap64 (t148 - 10000)) + t151))] 44 (0, 0)) (by (with_reducible repeat (first | refine blk_drewN ?_ _ | refine blk_drew ?_ | refine blk_alloc ?_ _)); exact BK152.out)) : gb152 ≠ gb171)); have n11_ := Aside0.mk ((by rw [hg]; exact Nat.ne_of_gt (blk_lt (g := gb152) (o := .cells #[.int .i64 (wrap64 (t147 - 10000)), .int .i64 (wrap64 (t148 - 10000)), .int .i64 (wrap64 ((wrap64 (t147 - 10000)) + t150)), .int .i64 (wrap64 ((wrap64 (t148 - 10000)) + t151))] 44 (0, 0)) (by (with_reducible repeat (first | refine blk_drewN ?_ _ | refine blk_drew ?_ | refine blk_alloc ?_ _)); exact BK152.out)) : gb171 ≠ gb152)); clear HO_14; clear HO_113; clear BK149; clear BK152; clear HB; have HO_14 := n0_; have HO_113 := n1_; have BK149 := n2_; have BK152 := n3_; have HB := n4_; have BK171 := n5_; have GW171 := n6_; have GE171 := n7_; have NB149_171 := n8_; have NB171_149 := n9_; have NB152_171 := n10_; have NB171_152 := n11_; clear n0_ n1_ n2_ n3_ n4_ n5_ n6_ n7_ n8_ n9_ n10_ n11_; clear hb hbox hg; have hnb73 := NB171_149.out; have hnc73 := NB149_171.out; have hnb74 := NB171_152.out; have hnc74 := NB152_171.out; have hcz75_0 : w72.cell? ⟨gb171, 0, none⟩ = some (.int .i64 0) := (blk_cell BK171.out 0).trans rfl; have hcz75_1 : w72.cell? ⟨gb171, 1, none⟩ = some (.int .i64 0) := (blk_cell BK171.out 1).trans rfl; have hfz75_0 := blk_frozen BK171.out 0; have hfz75_1 := blk_frozen BK171.out 1) | ((with_reducible refine gate_callee (f := 20) rfl ?_); refine goesL_ (some 122) rfl rfl Try.func20 (by kernel_rfl) rfl #[.agg #[.int .i64 ((rd_T31 y167 x115_3).f0), .int .i64 ((rd_T31 y167 x115_3).f1)], .int .i64 t153] rfl (by (try simp only [List.map_toArray, List.map_cons, List.map_nil]); first | done | rfl | (simp only [List.length_drop, List.length_take]; rfl)) ?_; (with_reducible refine (tile_Of.calls ((rd_T31 y167 x115_3).f0) ((rd_T31 y167 x115_3).f1) t153 t172 t173 t174 t175 _ A68.out).mono ?_); rintro e w76 ⟨rfl, hb⟩; refine ⟨_, rfl, ?_⟩; have n0_ := Aside0.mk (Kd.R_below (by (with_reducible repeat (first | apply Kd.R_alloc | apply Kd.R_drewN | apply Kd.R_drew)); exact (Kd.R_mono (Kd.R_far (p := ⟨gb171, 1, none⟩) (Kd.R_far (p := ⟨gb171, 0, none⟩) (Kd.R_types HO_14.out BK171.out (by decide)) (fun _ hk => hk.2) (.int .i64 ((rd_T31 y167 x115_3).f0))) (fun _ hk => hk.2) (.int .i64 ((rd_T31 y167 x115_3).f1))) (fun _ h_ => h_.1))) hb); have n1_ := Aside0.mk (Kd.R_below (by (with_reducible repeat (first | apply Kd.R_alloc | apply Kd.R_drewN | apply Kd.R_drew)); exact (Kd.R_mono (Kd.R_far (p := ⟨gb171, 1, none⟩) (Kd.R_far (p := ⟨gb171, 0, none⟩) (Kd.R_mono HO_113.out (fun k_ hk => (⟨hk, hk.2⟩ : _ ∧ k_ ≠ gb171))) (fun _ hk => hk.2) (.int .i64 ((rd_T31 y167 x115_3).f0))) (fun _ hk => hk.2) (.int .i64 ((rd_T31 y167 x115_3).f1))) (fun _ h_ => h_.1))) hb); have n2_ := Aside0.mk (blk_below (g := gb149) (o := .cells #[.int .i64 (wrap64 (t147 - 10000)), .int .i64 (wrap64 (t148 - 10000))] 31 (0, 0)) (by (with_reducible repeat (first | refine blk_drewN ?_ _ | refine blk_drew ?_ | refine blk_alloc ?_ _)); refine blk_far ?_ NB149_171.out _; (with_reducible repeat (first | refine blk_drewN ?_ _ | refine blk_drew ?_ | refine blk_alloc ?_ _)); refine blk_far ?_ NB149_171.out _; (with_reducible repeat (first | refine blk_drewN ?_ _ | refine blk_drew ?_ | refine blk_alloc ?_ _)); exact BK149.out) hb); have n3_ := Aside0.mk (blk_below (g := gb152) (o := .cells #[.int .i64 (wrap64 (t147 - 10000)), .int .i64 (wrap64 (t148 - 10000)), .int .i64 (wrap64 ((wrap64 (t147 - 10000)) + t150)), .int .i64 (wrap64 ((wrap64 (t148 - 10000)) + t151))] 44 (0, 0)) (by (with_reducible repeat (first | refine blk_drewN ?_ _ | refine blk_drew ?_ | refine blk_alloc ?_ _)); refine blk_far ?_ NB152_171.out _; (with_reducible repeat (first | refine blk_drewN ?_ _ | refine blk_drew ?_ | refine blk_alloc ?_ _)); refine blk_far ?_ NB152_171.out _; (with_reducible repeat (first | refine blk_drewN ?_ _ | refine blk_drew ?_ | refine blk_alloc ?_ _)); exact BK152.out) hb); have n4_ := Aside0.mk (blk_below (g := gb171) (o := .cells #[.int .i64 ((rd_T31 y167 x115_3).f0), .int .i64 ((rd_T31 y167 x115_3).f1)] 31 (0, 0)) (by (with_reducible repeat (first | refine blk_drewN ?_ _ | refine blk_drew ?_ | refine blk_alloc ?_ _)); refine blk_put (cs := #[.int .i64 ((rd_T31 y167 x115_3).f0), .int .i64 0]) ?_ 1 _ rfl; (with_reducible repeat (first | refine blk_drewN ?_ _ | refine blk_drew ?_ | refine blk_alloc ?_ _)); refine blk_put (cs := #[.int .i64 0, .int .i64 0]) ?_ 0 _ rfl; (with_reducible repeat (first | refine blk_drewN ?_ _ | refine blk_drew ?_ | refine blk_alloc ?_ _)); exact BK171.out) hb); have n5_ := Aside0.mk (below_step (by repeat (first | (with_reducible first | exact HB.out | apply below_alloc | apply pw_below_drewN | apply below_drew1 | refine below_set ?_ GE149.out | refine below_set ?_ GE152.out | refine below_set ?_ GE171.out) | exact HB.out)) hb); clear HO_14; clear HO_113; clear BK149; clear BK152; clear BK171; clear HB; have HO_14 := n0_; have HO_113 := n1_; have BK149 := n2_; have BK152 := n3_; have BK171 := n4_; have HB := n5_; clear n0_ n1_ n2_ n3_ n4_ n5_; (try clear hb); (try clear hb2); (try clear hk); (try clear hi)) | ((with_reducible refine gate_dst (N := 20) rfl ?_); (try (refine gate_guard (by rfl) ?_; dsimp only)); refine box_event ?hg (N := 20) ?hd (cs := #[.int .i64 0, .int .i64 0, .int .i64 0]) (t := 34) ?hr ?_; (case hd => rfl); (case hg => rfl); (case hr => first | (go_simp; done) | (go_simp; rfl)); intro gb176 hg w77 hbox hb; have n0_ := Aside0.mk (Kd.R_below (Kd.R_elderB (by (with_reducible repeat (first | apply Kd.R_alloc | apply Kd.R_drewN | apply Kd.R_drew)); exact HO_14.out) gb176 (Nat.le_of_eq hg.symm)) hb); have n1_ := Aside0.mk (Kd.R_below (by (with_reducible repeat (first | apply Kd.R_alloc | apply Kd.R_drewN | apply Kd.R_drew)); exact HO_113.out) hb); have n2_ := Aside0.mk (blk_below (g := gb149) (o := .cells #[.int .i64 (wrap64 (t147 - 10000)), .int .i64 (wrap64 (t148 - 10000))] 31 (0, 0)) (by (with_reducible repeat (first | refine blk_drewN ?_ _ | refine blk_drew ?_ | refine blk_alloc ?_ _)); exact BK149.out) hb); have n3_ := Aside0.mk (blk_below (g := gb152) (o := .cells #[.int .i64 (wrap64 (t147 - 10000)), .int .i64 (wrap64 (t148 - 10000)), .int .i64 (wrap64 ((wrap64 (t147 - 10000)) + t150)), .int .i64 (wrap64 ((wrap64 (t148 - 10000)) + t151))] 44 (0, 0)) (by (with_reducible repeat (first | refine blk_drewN ?_ _ | refine blk_drew ?_ | refine blk_alloc ?_ _)); exact BK152.out) hb); have n4_ := Aside0.mk (blk_below (g := gb171) (o := .cells #[.int .i64 ((rd_T31 y167 x115_3).f0), .int .i64 ((rd_T31 y167 x115_3).f1)] 31 (0, 0)) (by (with_reducible repeat (first | refine blk_drewN ?_ _ | refine blk_drew ?_ | refine blk_alloc ?_ _)); exact BK171.out) hb); have n5_ := Aside0.mk (below_step (by repeat (first | (with_reducible first | exact HB.out | apply below_alloc | apply pw_below_drewN | apply below_drew1 | refine below_set ?_ GE149.out | refine below_set ?_ GE152.out | refine below_set ?_ GE171.out) | exact HB.out)) hb); have n6_ := Aside0.mk (hbox); have n7_ := Aside0.mk ((by rw [hg]; exact (below_size (by repeat (first | (with_reducible first | exact HB.out | apply below_alloc | apply pw_below_drewN | apply below_drew1 | refine below_set ?_ GE149.out | refine below_set ?_ GE152.out | refine below_set ?_ GE171.out) | exact HB.out))) : w.heap.size ≤ gb176)); have n8_ := Aside0.mk ((by rw [hg]; exact (below_size (by repeat (first | (with_reducible first | exact HB.out | apply below_alloc | apply pw_below_drewN | apply below_drew1 | refine below_set ?_ GE149.out | refine below_set ?_ GE152.out | refine below_set ?_ GE171.out) | exact HB.out))) : w.heap.size ≤ gb176)); have n9_ := Aside0.mk ((by rw [hg]; exact Nat.ne_of_lt (blk_lt (g := gb149) (o := .cells #[.int .i64 (wrap64 (t147 - 10000)), .int .i64 (wrap64 (t148 - 10000))] 31 (0, 0)) (by (with_reducible repeat (first | refine blk_drewN ?_ _ | refine blk_drew ?_ | refine blk_alloc ?_ _)); exact BK149.out)) : gb149 ≠ gb176)); have n10_ := Aside0.mk ((by rw [hg]; exact Nat.ne_of_gt (blk_lt (g := gb149) (o := .cells #[.int .i64 (wrap64 (t147 - 10000)), .int .i64 (wrap64 (t148 - 10000))] 31 (0, 0)) (by (with_reducible repeat (first | refine blk_drewN ?_ _ | refine blk_drew ?_ | refine blk_alloc ?_ _)); exact BK149.out)) : gb176 ≠ gb149)); have n11_ := Aside0.mk ((by rw [hg]; exact Nat.ne_of_lt (blk_lt (g := gb152) (o := .cells #[.int .i64 (wrap64 (t147 - 10000)), .int .i64 (wrap64 (t148 - 10000)), .int .i64 (wrap64 ((wrap64 (t147 - 10000)) + t150)), .int .i64 (wrap64 ((wrap64 (t148 - 10000)) + t151))] 44 (0, 0)) (by (with_reducible repeat (first | refine blk_drewN ?_ _ | refine blk_drew ?_ | refine blk_alloc ?_ _)); exact BK152.out)) : gb152 ≠ gb176)); have n12_ := Aside0.mk ((by rw [hg]; exact Nat.ne_of_gt (blk_lt (g := gb152) (o := .cells #[.int .i64 (wrap64 (t147 - 10000)), .int .i64 (wrap64 (t148 - 10000)), .int .i64 (wrap64 ((wrap64 (t147 - 10000)) + t150)), .int .i64 (wrap64 ((wrap64 (t148 - 10000)) + t151))] 44 (0, 0)) (by (with_reducible repeat (first | refine blk_drewN ?_ _ | refine blk_drew ?_ | refine blk_alloc ?_ _)); exact BK152.out)) : gb176 ≠ gb152)); have n13_ := Aside0.mk ((by rw [hg]; exact Nat.ne_of_lt (blk_lt (g := gb171) (o := .cells #[.int .i64 ((rd_T31 y167 x115_3).f0), .int .i64 ((rd_T31 y167 x115_3).f1)] 31 (0, 0)) (by (with_reducible repeat (first | refine blk_drewN ?_ _ | refine blk_drew ?_ | refine blk_alloc ?_ _)); exact BK171.out)) : gb171 ≠ gb176)); have n14_ := Aside0.mk ((by rw [hg]; exact Nat.ne_of_gt (blk_lt (g := gb171) (o := .cells #[.int .i64 ((rd_T31 y167 x115_3).f0), .int .i64 ((rd_T31 y167 x115_3).f1)] 31 (0, 0)) (by (with_reducible repeat (first | refine blk_drewN ?_ _ | refine blk_drew ?_ | refine blk_alloc ?_ _)); exact BK171.out)) : gb176 ≠ gb171)); clear HO_14; clear HO_113; clear BK149; clear BK152; clear BK171; clear HB; have HO_14 := n0_; have HO_113 := n1_; have BK149 := n2_; have BK152 := n3_; have BK171 := n4_; have HB := n5_; have BK176 := n6_; have GW176 := n7_; have GE176 := n8_; have NB149_176 := n9_; have NB176_149 := n10_; have NB152_176 := n11_; have NB176_152 := n12_; have NB171_176 := n13_; have NB176_171 := n14_; clear n0_ n1_ n2_ n3_ n4_ n5_ n6_ n7_ n8_ n9_ n10_ n11_ n12_ n13_ n14_; clear hb hbox hg; have hnb78 := NB176_149.out; have hnc78 := NB149_176.out; have hnb79 := NB176_152.out; have hnc79 := NB152_176.out; have hnb80 := NB176_171.out; have hnc80 := NB171_176.out; have hcz81_0 : w77.cell? ⟨gb176, 0, none⟩ = some (.int .i64 0) := (blk_cell BK176.out 0).trans rfl; have hcz81_1 : w77.cell? ⟨gb176, 1, none⟩ = some (.int .i64 0) := (blk_cell BK176.out 1).trans rfl; have hcz81_2 : w77.cell? ⟨gb176, 2, none⟩ = some (.int .i64 0) := (blk_cell BK176.out 2).trans rfl; have hfz81_0 := blk_frozen BK176.out 0; have hfz81_1 := blk_frozen BK176.out 1; have hfz81_2 := blk_frozen BK176.out 2) | (go_at_call 31; (with_reducible refine (api_TileID_31.calls k3 _ _ t154 t172 t173 t174 true _ ?side1 ?side2 A70.out).mono ?_); (case side1 => refine (Kd.R_reads' (e := 34) (base := w.heap.size) (ok := fun k_ => (True ∧ k_ ≠ gb176)) (n := t154.length) (c := co29) ?_).2.2; exact (by (with_reducible repeat (first | apply Kd.R_alloc | apply Kd.R_drewN | apply Kd.R_drew)); exact (Kd.R_mono (Kd.R_far (p := ⟨gb176, 2, none⟩) (Kd.R_far (p := ⟨gb176, 1, none⟩) (Kd.R_far (p := ⟨gb176, 0, none⟩) (Kd.R_mono HO_14.out (fun k_ hk => (⟨hk, hk.2⟩ : _ ∧ k_ ≠ gb176))) (fun _ hk => hk.2) (.int .i64 t172)) (fun _ hk => hk.2) (.int .i64 t173)) (fun _ hk => hk.2) (.int .i64 t174)) (fun _ h_ => h_.1)))); (case side2 => exact (Kd.R_reads' HO_14.out).2.1); rintro e w82 ⟨rfl, hb⟩; have n0_ := Aside0.mk (Kd.R_below (by (with_reducible repeat (first | apply Kd.R_alloc | apply Kd.R_drewN | apply Kd.R_drew)); exact (Kd.R_mono (Kd.R_far (p := ⟨gb176, 2, none⟩) (Kd.R_far (p := ⟨gb176, 1, none⟩) (Kd.R_far (p := ⟨gb176, 0, none⟩) (Kd.R_mono HO_14.out (fun k_ hk => (⟨hk, hk.2⟩ : _ ∧ k_ ≠ gb176))) (fun _ hk => hk.2) (.int .i64 t172)) (fun _ hk => hk.2) (.int .i64 t173)) (fun _ hk => hk.2) (.int .i64 t174)) (fun _ h_ => h_.1))) hb); have n1_ := Aside0.mk (Kd.R_below (by (with_reducible repeat (first | apply Kd.R_alloc | apply Kd.R_drewN | apply Kd.R_drew)); exact (Kd.R_mono (Kd.R_far (p := ⟨gb176, 2, none⟩) (Kd.R_far (p := ⟨gb176, 1, none⟩) (Kd.R_far (p := ⟨gb176, 0, none⟩) (Kd.R_types HO_113.out BK176.out (by decide)) (fun _ hk => hk.2) (.int .i64 t172)) (fun _ hk => hk.2) (.int .i64 t173)) (fun _ hk => hk.2) (.int .i64 t174)) (fun _ h_ => h_.1))) hb); have n2_ := Aside0.mk (blk_below (g := gb149) (o := .cells #[.int .i64 (wrap64 (t147 - 10000)), .int .i64 (wrap64 (t148 - 10000))] 31 (0, 0)) (by (with_reducible repeat (first | refine blk_drewN ?_ _ | refine blk_drew ?_ | refine blk_alloc ?_ _)); refine blk_far ?_ NB149_176.out _; (with_reducible repeat (first | refine blk_drewN ?_ _ | refine blk_drew ?_ | refine blk_alloc ?_ _)); refine blk_far ?_ NB149_176.out _; (with_reducible repeat (first | refine blk_drewN ?_ _ | refine blk_drew ?_ | refine blk_alloc ?_ _)); refine blk_far ?_ NB149_176.out _; (with_reducible repeat (first | refine blk_drewN ?_ _ | refine blk_drew ?_ | refine blk_alloc ?_ _)); exact BK149.out) hb); have n3_ := Aside0.mk (blk_below (g := gb152) (o := .cells #[.int .i64 (wrap64 (t147 - 10000)), .int .i64 (wrap64 (t148 - 10000)), .int .i64 (wrap64 ((wrap64 (t147 - 10000)) + t150)), .int .i64 (wrap64 ((wrap64 (t148 - 10000)) + t151))] 44 (0, 0)) (by (with_reducible repeat (first | refine blk_drewN ?_ _ | refine blk_drew ?_ | refine blk_alloc ?_ _)); refine blk_far ?_ NB152_176.out _; (with_reducible repeat (first | refine blk_drewN ?_ _ | refine blk_drew ?_ | refine blk_alloc ?_ _)); refine blk_far ?_ NB152_176.out _; (with_reducible repeat (first | refine blk_drewN ?_ _ | refine blk_drew ?_ | refine blk_alloc ?_ _)); refine blk_far ?_ NB152_176.out _; (with_reducible repeat (first | refine blk_drewN ?_ _ | refine blk_drew ?_ | refine blk_alloc ?_ _)); exact BK152.out) hb); have n4_ := Aside0.mk (blk_below (g := gb171) (o := .cells #[.int .i64 ((rd_T31 y167 x115_3).f0), .int .i64 ((rd_T31 y167 x115_3).f1)] 31 (0, 0)) (by (with_reducible repeat (first | refine blk_drewN ?_ _ | refine blk_drew ?_ | refine blk_alloc ?_ _)); refine blk_far ?_ NB171_176.out _; (with_reducible repeat (first | refine blk_drewN ?_ _ | refine blk_drew ?_ | refine blk_alloc ?_ _)); refine blk_far ?_ NB171_176.out _; (with_reducible repeat (first | refine blk_drewN ?_ _ | refine blk_drew ?_ | refine blk_alloc ?_ _)); refine blk_far ?_ NB171_176.out _; (with_reducible repeat (first | refine blk_drewN ?_ _ | refine blk_drew ?_ | refine blk_alloc ?_ _)); exact BK171.out) hb); have n5_ := Aside0.mk (blk_below (g := gb176) (o := .cells #[.int .i64 t172, .int .i64 t173, .int .i64 t174] 34 (0, 0)) (by (with_reducible repeat (first | refine blk_drewN ?_ _ | refine blk_drew ?_ | refine blk_alloc ?_ _)); refine blk_put (cs := #[.int .i64 t172, .int .i64 t173, .int .i64 0]) ?_ 2 _ rfl; (with_reducible repeat (first | refine blk_drewN ?_ _ | refine blk_drew ?_ | refine blk_alloc ?_ _)); refine blk_put (cs := #[.int .i64 t172, .int .i64 0, .int .i64 0]) ?_ 1 _ rfl; (with_reducible repeat (first | refine blk_drewN ?_ _ | refine blk_drew ?_ | refine blk_alloc ?_ _)); refine blk_put (cs := #[.int .i64 0, .int .i64 0, .int .i64 0]) ?_ 0 _ rfl; (with_reducible repeat (first | refine blk_drewN ?_ _ | refine blk_drew ?_ | refine blk_alloc ?_ _)); exact BK176.out) hb); have n6_ := Aside0.mk (below_step (by repeat (first | (with_reducible first | exact HB.out | apply below_alloc | apply pw_below_drewN | apply below_drew1 | refine below_set ?_ GE149.out | refine below_set ?_ GE152.out | refine below_set ?_ GE171.out | refine below_set ?_ GE176.out) | exact HB.out)) hb); clear HO_14; clear HO_113; clear BK149; clear BK152; clear BK171; clear BK176; clear HB; have HO_14 := n0_; have HO_113 := n1_; have BK149 := n2_; have BK152 := n3_; have BK171 := n4_; have BK176 := n5_; have HB := n6_; clear n0_ n1_ n2_ n3_ n4_ n5_ n6_; (try clear hb); (try clear hb2); (try clear hk); (try clear hi)))
                            go_roundg k3
                            case measure => have := HJ11.out; have := HK2.out; have := HK3.out; omega
                            case rel => exact ⟨(wrap64 (x115_3 + 1)), (by first | rfl | (simp; done) | (simp [*]; done)), H', ⟨by have := HJ11.out; have := HK2.out; have := HK3.out; omega⟩, ⟨by (with_reducible repeat (first | apply Kd.R_alloc | apply Kd.R_drewN | apply Kd.R_drew)); exact Kd.R_mono HO_14.out (fun _ hk => trivial)⟩, ⟨by (with_reducible repeat (first | apply Kd.R_alloc | apply Kd.R_drewN | apply Kd.R_drew)); exact Kd.R_mono HO_113.out (fun _ hk => hk.1)⟩, ⟨by (with_reducible repeat (first | refine blk_drewN ?_ _ | refine blk_drew ?_ | refine blk_alloc ?_ _)); exact BK149.out⟩, ⟨by (with_reducible repeat (first | refine blk_drewN ?_ _ | refine blk_drew ?_ | refine blk_alloc ?_ _)); exact BK152.out⟩, ⟨by repeat (first | (with_reducible first | exact HB.out | apply below_alloc | apply pw_below_drewN | apply below_drew1 | refine below_set ?_ GE149.out | refine below_set ?_ GE152.out | refine below_set ?_ GE171.out | refine below_set ?_ GE176.out) | exact HB.out)⟩⟩
                          · replace c71 := Bool.eq_false_iff.mpr c71
                            subst c71
                            have H1 : (some false) = some r := by rw [if_neg (show ¬ (false = true) by decide)] at H; exact H
                            clear H
                            have H := H1
                            clear H1
                            exact absurd (H.trans (congrArg some hr)) (by decide)
                        · rw [if_neg c69] at H
                          have c69b0 : (t175 == 0) = false := beq_eq_false_iff_ne.mpr c69
                          have c69b1 : (t175 != 0) = true := bne_iff_ne.mpr c69
                          exact absurd (H.trans (congrArg some hr)) (by decide)
                      · rw [if_neg c67] at H
                        exact absurd H (by simp)
                    · rw [if_neg c66] at H
                      exact absurd H (by simp)
                  · rw [if_neg c65] at H
                    have c65b0 : decide (x115_3 < (y167.length : Int)) = false := decide_eq_false c65
                    clear c65
                    clear hr
                    obtain rfl := Option.some.inj H
                    go_wp2
                    go_ret
                    exact ⟨by first | rfl | (simp [errW_none, errW_some] <;> rfl) | (simp [*, errW_none, errW_some] <;> rfl), by repeat (first | (with_reducible first | exact HB.out | apply below_alloc | apply pw_below_drewN | apply below_drew1 | refine below_set ?_ GE149.out | refine below_set ?_ GE152.out) | exact HB.out)⟩

/-- THE ONE PURE STATEMENT of terrkeep5_TileMeets: yours. -/
def terrkeep5_TileMeets.Pure : Prop := ∀ (a0 : Int) (a1 : Int) (a2 : Int) (a3 : Int) (a4 : Int), (Lit.int .i64 a0).wf = true → (Lit.int .i64 a1).wf = true → (Lit.int .i64 a2).wf = true → (Lit.int .i64 a3).wf = true → (Lit.int .i64 a4).wf = true → ∃ k, terrkeep5_TileMeets.f k a0 a1 a2 a3 a4 = some true
theorem terrkeep5_TileMeets.walk (P : terrkeep5_TileMeets.Pure) (a0 : Int) (a1 : Int) (a2 : Int) (a3 : Int) (a4 : Int) (w : World) (w0 : (Lit.int .i64 a0).wf = true) (w1 : (Lit.int .i64 a1).wf = true) (w2 : (Lit.int .i64 a2).wf = true) (w3 : (Lit.int .i64 a3).wf = true) (w4 : (Lit.int .i64 a4).wf = true) :
    Calls Try.prog 9 #[.int .i64 a0, .int .i64 a1, .int .i64 a2, .int .i64 a3, .int .i64 a4] w fun e w' => e = .returned (.bool true) ∧ Below w.heap.size w w' := by
  obtain ⟨k, h⟩ := P a0 a1 a2 a3 a4 w0 w1 w2 w3 w4
  refine (terrkeep5_TileMeets.calls k a0 a1 a2 a3 a4 true w h rfl).mono ?_
  rintro e w' ⟨rfl, hd⟩
  exact ⟨rfl, hd⟩
end Go.Proofs.Ytojehbkadlmbjaa.Q
