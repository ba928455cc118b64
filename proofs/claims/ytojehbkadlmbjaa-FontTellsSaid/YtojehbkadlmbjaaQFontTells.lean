/- What the Go function terrlaw5_FontTells comes to, and its contract. Condition: its printed twin gives an answer, which is true. -/
import Derived.Test.YtojehbkadlmbjaaQf24
import Derived.Test.YtojehbkadlmbjaaQf14
import Derived.Test.YtojehbkadlmbjaaQf27
import Derived.Test.YtojehbkadlmbjaaQf25
import Derived.Test.YtojehbkadlmbjaaQf26
import Derived.Test.YtojehbkadlmbjaaQf28
namespace Go.Proofs.Ytojehbkadlmbjaa.Q
open Go.RowKit Go.Proofs.YtojehbkadlmbjaaW.PrintWords Go.Proofs.YtojehbkadlmbjaaW.PrintLast Go.Proofs.YtojehbkadlmbjaaW.PrintMore
attribute [local go_sem] max2_int min2_int max_two min_two max_three min_three max_four min_four
set_option linter.unusedVariables false
set_option linter.unusedSimpArgs false
attribute [local go_sem high] eqA44
/-! ### terrlaw5_FontTells: function 6 -/
mutual
def terrlaw5_FontTells.j0 : Nat → Int → Int → Int → List (S44) → Int → Bool → Int → Int → Option (Bool)
  | 0, _, _, _, _, _, _, _, _ => none
  | k + 1, x9, x10, x14, x15, x16, x62, x124000, x124001 => if x62 = true then (some false) else (if x14 = 0 then ((terrref5_Valid.f x124000 x124001).bind fun t137 => (terrlaw5_FontTells.j1 k x9 x10 x14 x15 x16 (!t137) x124000 x124001)) else (terrlaw5_FontTells.j1 k x9 x10 x14 x15 x16 false x124000 x124001))
def terrlaw5_FontTells.j1 : Nat → Int → Int → Int → List (S44) → Int → Bool → Int → Int → Option (Bool)
  | 0, _, _, _, _, _, _, _, _ => none
  | k + 1, x9, x10, x14, x15, x16, x69, x124000, x124001 => if x69 = true then (terrlaw5_FontTells.j2 k x9 x10 1 x15 x16 x124000 x124001) else (terrlaw5_FontTells.j2 k x9 x10 x14 x15 x16 x124000 x124001)
def terrlaw5_FontTells.j2 : Nat → Int → Int → Int → List (S44) → Int → Int → Int → Option (Bool)
  | 0, _, _, _, _, _, _, _ => none
  | k + 1, x9, x10, x14, x15, x16, x124000, x124001 => if x14 = 0 then (if x16 = 0 then (terrlaw5_FontTells.j3 k x9 x10 x15 ((x15.length : Int) != 5) x124000 x124001) else (terrlaw5_FontTells.j3 k x9 x10 x15 true x124000 x124001)) else (if x16 = x14 then (some ((x15.length : Int) == 0)) else (some false))
def terrlaw5_FontTells.j3 : Nat → Int → Int → List (S44) → Bool → Int → Int → Option (Bool)
  | 0, _, _, _, _, _, _ => none
  | k + 1, x9, x10, x15, x86, x124000, x124001 => if x86 = true then (some false) else ((some (([(⟨2, 2⟩ : S31), (⟨2, wrap64 ((-2) - x10)⟩ : S31), (⟨wrap64 ((-2) - x9), 2⟩ : S31), (⟨wrap64 ((-2) - x9), wrap64 ((-2) - x10)⟩ : S31), (⟨wrap64 (-(wrap64 (Int.tdiv x9 2))), 2⟩ : S31)] : List (S31)) : List (S31))).bind fun y138 => (terrlaw5_FontTells.l0 k x9 x10 x15 y138 (y138.length : Int) 0 x124000 x124001))
def terrlaw5_FontTells.l0 : Nat → Int → Int → List (S44) → List (S31) → Int → Int → Int → Int → Option (Bool)
  | 0, _, _, _, _, _, _, _, _ => none
  | k + 1, x9, x10, x15, x103, x104, x105, x124000, x124001 => if x105 < x104 then (if 0 ≤ x105 then (if x105 < (x103.length : Int) then (if x105 < (x15.length : Int) then (if ((!(((rd_T44 x15 x105).f0.f0) == (wrap64 (x124000 + ((rd_T31 x103 x105).f0)))) || (!(((rd_T44 x15 x105).f0.f1) == (wrap64 (x124001 + ((rd_T31 x103 x105).f1)))))) || ((!(((rd_T44 x15 x105).f1.f0) == (wrap64 ((wrap64 (x124000 + ((rd_T31 x103 x105).f0))) + x9))) || (!(((rd_T44 x15 x105).f1.f1) == (wrap64 ((wrap64 (x124001 + ((rd_T31 x103 x105).f1))) + x10))))))) = true then (some false) else (terrlaw5_FontTells.l0 k x9 x10 x15 x103 x104 (wrap64 (x105 + 1)) x124000 x124001)) else (none)) else (none)) else (none)) else (some true)
end
def terrlaw5_FontTells.f (k : Nat) (a0 : Int) (a1 : ByteArray) (a2 : Int) (a3_0 : Int) (a3_1 : Int) : Option (Bool) := (font_Width.f k 109).bind fun t124 => (if t124 = 6 then ((font_Size.f k a1 a2).bind fun bt125 => ((terrref5_TextSize.f k a1 a2).bind fun bt128 => ((font_Boxes.f k a3_0 a3_1 a1 a2).bind fun bt131 => ((font_Width.f k a0).bind fun t135 => ((terrref5_Wide.f k a0).bind fun t136 => (if t135 = t136 then (if bt125.1 = bt128.1 then (if bt125.2.1 = bt128.2.1 then (terrlaw5_FontTells.j0 k bt125.1 bt125.2.1 bt128.2.2 bt131.1 bt131.2 (bt125.2.2 != bt128.2.2) a3_0 a3_1) else (terrlaw5_FontTells.j0 k bt125.1 bt125.2.1 bt128.2.2 bt131.1 bt131.2 true a3_0 a3_1)) else (terrlaw5_FontTells.j0 k bt125.1 bt125.2.1 bt128.2.2 bt131.1 bt131.2 true a3_0 a3_1)) else (terrlaw5_FontTells.j0 k bt125.1 bt125.2.1 bt128.2.2 bt131.1 bt131.2 true a3_0 a3_1))))))) else (some false))
theorem terrlaw5_FontTells.mono_l : ∀ k, (∀ y0 y1 y2 y3 y4 y5 y6 y7, LeO (terrlaw5_FontTells.j0 k y0 y1 y2 y3 y4 y5 y6 y7) (terrlaw5_FontTells.j0 (k + 1) y0 y1 y2 y3 y4 y5 y6 y7)) ∧ (∀ y0 y1 y2 y3 y4 y5 y6 y7, LeO (terrlaw5_FontTells.j1 k y0 y1 y2 y3 y4 y5 y6 y7) (terrlaw5_FontTells.j1 (k + 1) y0 y1 y2 y3 y4 y5 y6 y7)) ∧ (∀ y0 y1 y2 y3 y4 y5 y6, LeO (terrlaw5_FontTells.j2 k y0 y1 y2 y3 y4 y5 y6) (terrlaw5_FontTells.j2 (k + 1) y0 y1 y2 y3 y4 y5 y6)) ∧ (∀ y0 y1 y2 y3 y4 y5, LeO (terrlaw5_FontTells.j3 k y0 y1 y2 y3 y4 y5) (terrlaw5_FontTells.j3 (k + 1) y0 y1 y2 y3 y4 y5)) ∧ (∀ y0 y1 y2 y3 y4 y5 y6 y7, LeO (terrlaw5_FontTells.l0 k y0 y1 y2 y3 y4 y5 y6 y7) (terrlaw5_FontTells.l0 (k + 1) y0 y1 y2 y3 y4 y5 y6 y7))
  | 0 => ⟨fun _ _ _ _ _ _ _ _ r h => by simp [terrlaw5_FontTells.j0] at h, fun _ _ _ _ _ _ _ _ r h => by simp [terrlaw5_FontTells.j1] at h, fun _ _ _ _ _ _ _ r h => by simp [terrlaw5_FontTells.j2] at h, fun _ _ _ _ _ _ r h => by simp [terrlaw5_FontTells.j3] at h, fun _ _ _ _ _ _ _ _ r h => by simp [terrlaw5_FontTells.l0] at h⟩
  | k + 1 => by
    obtain ⟨ih0, ih1, ih2, ih3, ih4⟩ := terrlaw5_FontTells.mono_l k
    refine ⟨?_, ?_, ?_, ?_, ?_⟩
    · intro y0 y1 y2 y3 y4 y5 y6 y7
      unfold terrlaw5_FontTells.j0
      repeat' first
      | (with_reducible exact ih0 _ _ _ _ _ _ _ _)
      | (with_reducible exact ih1 _ _ _ _ _ _ _ _)
      | (with_reducible exact ih2 _ _ _ _ _ _ _)
      | (with_reducible exact ih3 _ _ _ _ _ _)
      | (with_reducible exact ih4 _ _ _ _ _ _ _ _)
      | (with_reducible exact font_Boxes.mono _ _ _ _ _)
      | (with_reducible exact font_Size.mono _ _ _)
      | (with_reducible exact font_Width.mono _ _)
      | (with_reducible exact terrref5_TextSize.mono _ _ _)
      | (with_reducible exact terrref5_Wide.mono _ _)
      | (with_reducible exact LeO.refl _)
      | (with_reducible exact LeO.none _)
      | (with_reducible refine LeO.ite ?_ ?_)
      | (with_reducible refine LeO.bind ?_ (fun _ => ?_))
      | exact ih0 _ _ _ _ _ _ _ _
      | exact ih1 _ _ _ _ _ _ _ _
      | exact ih2 _ _ _ _ _ _ _
      | exact ih3 _ _ _ _ _ _
      | exact ih4 _ _ _ _ _ _ _ _
      | exact font_Boxes.mono _ _ _ _ _
      | exact font_Size.mono _ _ _
      | exact font_Width.mono _ _
      | exact terrref5_TextSize.mono _ _ _
      | exact terrref5_Wide.mono _ _
      | exact LeO.none _
      | refine LeO.ite ?_ ?_
      | refine LeO.bind ?_ (fun _ => ?_)
    · intro y0 y1 y2 y3 y4 y5 y6 y7
      unfold terrlaw5_FontTells.j1
      repeat' first
      | (with_reducible exact ih0 _ _ _ _ _ _ _ _)
      | (with_reducible exact ih1 _ _ _ _ _ _ _ _)
      | (with_reducible exact ih2 _ _ _ _ _ _ _)
      | (with_reducible exact ih3 _ _ _ _ _ _)
      | (with_reducible exact ih4 _ _ _ _ _ _ _ _)
      | (with_reducible exact font_Boxes.mono _ _ _ _ _)
      | (with_reducible exact font_Size.mono _ _ _)
      | (with_reducible exact font_Width.mono _ _)
      | (with_reducible exact terrref5_TextSize.mono _ _ _)
      | (with_reducible exact terrref5_Wide.mono _ _)
      | (with_reducible exact LeO.refl _)
      | (with_reducible exact LeO.none _)
      | (with_reducible refine LeO.ite ?_ ?_)
      | (with_reducible refine LeO.bind ?_ (fun _ => ?_))
      | exact ih0 _ _ _ _ _ _ _ _
      | exact ih1 _ _ _ _ _ _ _ _
      | exact ih2 _ _ _ _ _ _ _
      | exact ih3 _ _ _ _ _ _
      | exact ih4 _ _ _ _ _ _ _ _
      | exact font_Boxes.mono _ _ _ _ _
      | exact font_Size.mono _ _ _
      | exact font_Width.mono _ _
      | exact terrref5_TextSize.mono _ _ _
      | exact terrref5_Wide.mono _ _
      | exact LeO.none _
      | refine LeO.ite ?_ ?_
      | refine LeO.bind ?_ (fun _ => ?_)
    · intro y0 y1 y2 y3 y4 y5 y6
      unfold terrlaw5_FontTells.j2
      repeat' first
      | (with_reducible exact ih0 _ _ _ _ _ _ _ _)
      | (with_reducible exact ih1 _ _ _ _ _ _ _ _)
      | (with_reducible exact ih2 _ _ _ _ _ _ _)
      | (with_reducible exact ih3 _ _ _ _ _ _)
      | (with_reducible exact ih4 _ _ _ _ _ _ _ _)
      | (with_reducible exact font_Boxes.mono _ _ _ _ _)
      | (with_reducible exact font_Size.mono _ _ _)
      | (with_reducible exact font_Width.mono _ _)
      | (with_reducible exact terrref5_TextSize.mono _ _ _)
      | (with_reducible exact terrref5_Wide.mono _ _)
      | (with_reducible exact LeO.refl _)
      | (with_reducible exact LeO.none _)
      | (with_reducible refine LeO.ite ?_ ?_)
      | (with_reducible refine LeO.bind ?_ (fun _ => ?_))
      | exact ih0 _ _ _ _ _ _ _ _
      | exact ih1 _ _ _ _ _ _ _ _
      | exact ih2 _ _ _ _ _ _ _
      | exact ih3 _ _ _ _ _ _
      | exact ih4 _ _ _ _ _ _ _ _
      | exact font_Boxes.mono _ _ _ _ _
      | exact font_Size.mono _ _ _
      | exact font_Width.mono _ _
      | exact terrref5_TextSize.mono _ _ _
      | exact terrref5_Wide.mono _ _
      | exact LeO.none _
      | refine LeO.ite ?_ ?_
      | refine LeO.bind ?_ (fun _ => ?_)
    · intro y0 y1 y2 y3 y4 y5
      unfold terrlaw5_FontTells.j3
      repeat' first
      | (with_reducible exact ih0 _ _ _ _ _ _ _ _)
      | (with_reducible exact ih1 _ _ _ _ _ _ _ _)
      | (with_reducible exact ih2 _ _ _ _ _ _ _)
      | (with_reducible exact ih3 _ _ _ _ _ _)
      | (with_reducible exact ih4 _ _ _ _ _ _ _ _)
      | (with_reducible exact font_Boxes.mono _ _ _ _ _)
      | (with_reducible exact font_Size.mono _ _ _)
      | (with_reducible exact font_Width.mono _ _)
      | (with_reducible exact terrref5_TextSize.mono _ _ _)
      | (with_reducible exact terrref5_Wide.mono _ _)
      | (with_reducible exact LeO.refl _)
      | (with_reducible exact LeO.none _)
      | (with_reducible refine LeO.ite ?_ ?_)
      | (with_reducible refine LeO.bind ?_ (fun _ => ?_))
      | exact ih0 _ _ _ _ _ _ _ _
      | exact ih1 _ _ _ _ _ _ _ _
      | exact ih2 _ _ _ _ _ _ _
      | exact ih3 _ _ _ _ _ _
      | exact ih4 _ _ _ _ _ _ _ _
      | exact font_Boxes.mono _ _ _ _ _
      | exact font_Size.mono _ _ _
      | exact font_Width.mono _ _
      | exact terrref5_TextSize.mono _ _ _
      | exact terrref5_Wide.mono _ _
      | exact LeO.none _
      | refine LeO.ite ?_ ?_
      | refine LeO.bind ?_ (fun _ => ?_)
    · intro y0 y1 y2 y3 y4 y5 y6 y7
      unfold terrlaw5_FontTells.l0
      repeat' first
      | (with_reducible exact ih0 _ _ _ _ _ _ _ _)
      | (with_reducible exact ih1 _ _ _ _ _ _ _ _)
      | (with_reducible exact ih2 _ _ _ _ _ _ _)
      | (with_reducible exact ih3 _ _ _ _ _ _)
      | (with_reducible exact ih4 _ _ _ _ _ _ _ _)
      | (with_reducible exact font_Boxes.mono _ _ _ _ _)
      | (with_reducible exact font_Size.mono _ _ _)
      | (with_reducible exact font_Width.mono _ _)
      | (with_reducible exact terrref5_TextSize.mono _ _ _)
      | (with_reducible exact terrref5_Wide.mono _ _)
      | (with_reducible exact LeO.refl _)
      | (with_reducible exact LeO.none _)
      | (with_reducible refine LeO.ite ?_ ?_)
      | (with_reducible refine LeO.bind ?_ (fun _ => ?_))
      | exact ih0 _ _ _ _ _ _ _ _
      | exact ih1 _ _ _ _ _ _ _ _
      | exact ih2 _ _ _ _ _ _ _
      | exact ih3 _ _ _ _ _ _
      | exact ih4 _ _ _ _ _ _ _ _
      | exact font_Boxes.mono _ _ _ _ _
      | exact font_Size.mono _ _ _
      | exact font_Width.mono _ _
      | exact terrref5_TextSize.mono _ _ _
      | exact terrref5_Wide.mono _ _
      | exact LeO.none _
      | refine LeO.ite ?_ ?_
      | refine LeO.bind ?_ (fun _ => ?_)
theorem terrlaw5_FontTells.mono : ∀ a0 a1 a2 a3 a4 k, LeO (terrlaw5_FontTells.f k a0 a1 a2 a3 a4) (terrlaw5_FontTells.f (k + 1) a0 a1 a2 a3 a4) := by
  intro a0 a1 a2 a3 a4 k
  obtain ⟨ih0, ih1, ih2, ih3, ih4⟩ := terrlaw5_FontTells.mono_l k
  unfold terrlaw5_FontTells.f
  repeat' first
      | (with_reducible exact ih0 _ _ _ _ _ _ _ _)
      | (with_reducible exact ih1 _ _ _ _ _ _ _ _)
      | (with_reducible exact ih2 _ _ _ _ _ _ _)
      | (with_reducible exact ih3 _ _ _ _ _ _)
      | (with_reducible exact ih4 _ _ _ _ _ _ _ _)
      | (with_reducible exact font_Boxes.mono _ _ _ _ _)
      | (with_reducible exact font_Size.mono _ _ _)
      | (with_reducible exact font_Width.mono _ _)
      | (with_reducible exact terrref5_TextSize.mono _ _ _)
      | (with_reducible exact terrref5_Wide.mono _ _)
      | (with_reducible exact LeO.refl _)
      | (with_reducible exact LeO.none _)
      | (with_reducible refine LeO.ite ?_ ?_)
      | (with_reducible refine LeO.bind ?_ (fun _ => ?_))
      | exact ih0 _ _ _ _ _ _ _ _
      | exact ih1 _ _ _ _ _ _ _ _
      | exact ih2 _ _ _ _ _ _ _
      | exact ih3 _ _ _ _ _ _
      | exact ih4 _ _ _ _ _ _ _ _
      | exact font_Boxes.mono _ _ _ _ _
      | exact font_Size.mono _ _ _
      | exact font_Width.mono _ _
      | exact terrref5_TextSize.mono _ _ _
      | exact terrref5_Wide.mono _ _
      | exact LeO.none _
      | refine LeO.ite ?_ ?_
      | refine LeO.bind ?_ (fun _ => ?_)
set_option maxHeartbeats 8000000 in
set_option maxRecDepth 100000 in
theorem terrlaw5_FontTells.calls (k : Nat) (a0 : Int) (a1 : ByteArray) (a2 : Int) (a3_0 : Int) (a3_1 : Int) (r : Bool) (w : World) (h : terrlaw5_FontTells.f k a0 a1 a2 a3_0 a3_1 = some r) (hr : r = true) :
    Calls Try.prog 6 #[.int .u8 a0, .string a1, .int .i64 a2, .agg #[.int .i64 a3_0, .int .i64 a3_1]] w fun e w' => e = .returned (.bool r) ∧ Below w.heap.size w w' := by
  have hu31 := Try.underlying31
  have hu44 := Try.underlying44
  have HB := Aside0.mk (Below.refl w.heap.size w)
  have H : ((font_Width.f k 109).bind fun t124 => (if t124 = 6 then ((font_Size.f k a1 a2).bind fun bt125 => ((terrref5_TextSize.f k a1 a2).bind fun bt128 => ((font_Boxes.f k a3_0 a3_1 a1 a2).bind fun bt131 => ((font_Width.f k a0).bind fun t135 => ((terrref5_Wide.f k a0).bind fun t136 => (if t135 = t136 then (if bt125.1 = bt128.1 then (if bt125.2.1 = bt128.2.1 then (terrlaw5_FontTells.j0 k bt125.1 bt125.2.1 bt128.2.2 bt131.1 bt131.2 (bt125.2.2 != bt128.2.2) a3_0 a3_1) else (terrlaw5_FontTells.j0 k bt125.1 bt125.2.1 bt128.2.2 bt131.1 bt131.2 true a3_0 a3_1)) else (terrlaw5_FontTells.j0 k bt125.1 bt125.2.1 bt128.2.2 bt131.1 bt131.2 true a3_0 a3_1)) else (terrlaw5_FontTells.j0 k bt125.1 bt125.2.1 bt128.2.2 bt131.1 bt131.2 true a3_0 a3_1))))))) else (some false))) = some r := h
  clear h
  replace H := Option.bind_eq_some_iff.mp H
  obtain ⟨t124, A50, H⟩ := H
  replace H : (if t124 = 6 then ((font_Size.f k a1 a2).bind fun bt125 => ((terrref5_TextSize.f k a1 a2).bind fun bt128 => ((font_Boxes.f k a3_0 a3_1 a1 a2).bind fun bt131 => ((font_Width.f k a0).bind fun t135 => ((terrref5_Wide.f k a0).bind fun t136 => (if t135 = t136 then (if bt125.1 = bt128.1 then (if bt125.2.1 = bt128.2.1 then (terrlaw5_FontTells.j0 k bt125.1 bt125.2.1 bt128.2.2 bt131.1 bt131.2 (bt125.2.2 != bt128.2.2) a3_0 a3_1) else (terrlaw5_FontTells.j0 k bt125.1 bt125.2.1 bt128.2.2 bt131.1 bt131.2 true a3_0 a3_1)) else (terrlaw5_FontTells.j0 k bt125.1 bt125.2.1 bt128.2.2 bt131.1 bt131.2 true a3_0 a3_1)) else (terrlaw5_FontTells.j0 k bt125.1 bt125.2.1 bt128.2.2 bt131.1 bt131.2 true a3_0 a3_1))))))) else (some false)) = some r := H
  have A5 := Aside0.mk A50
  clear A50
  by_cases c6 : t124 = 6
  · rw [if_pos c6] at H
    have c6b0 : (t124 == 6) = true := beq_iff_eq.mpr c6
    have c6b1 : (t124 != 6) = false := bne_eq_false_iff_eq.mpr c6
    clear c6
    replace H := Option.bind_eq_some_iff.mp H
    obtain ⟨⟨t125, t126, t127⟩, A70, H⟩ := H
    replace H : ((terrref5_TextSize.f k a1 a2).bind fun bt128 => ((font_Boxes.f k a3_0 a3_1 a1 a2).bind fun bt131 => ((font_Width.f k a0).bind fun t135 => ((terrref5_Wide.f k a0).bind fun t136 => (if t135 = t136 then (if t125 = bt128.1 then (if t126 = bt128.2.1 then (terrlaw5_FontTells.j0 k t125 t126 bt128.2.2 bt131.1 bt131.2 (t127 != bt128.2.2) a3_0 a3_1) else (terrlaw5_FontTells.j0 k t125 t126 bt128.2.2 bt131.1 bt131.2 true a3_0 a3_1)) else (terrlaw5_FontTells.j0 k t125 t126 bt128.2.2 bt131.1 bt131.2 true a3_0 a3_1)) else (terrlaw5_FontTells.j0 k t125 t126 bt128.2.2 bt131.1 bt131.2 true a3_0 a3_1)))))) = some r := H
    have A7 := Aside0.mk A70
    clear A70
    replace H := Option.bind_eq_some_iff.mp H
    obtain ⟨⟨t128, t129, t130⟩, A80, H⟩ := H
    replace H : ((font_Boxes.f k a3_0 a3_1 a1 a2).bind fun bt131 => ((font_Width.f k a0).bind fun t135 => ((terrref5_Wide.f k a0).bind fun t136 => (if t135 = t136 then (if t125 = t128 then (if t126 = t129 then (terrlaw5_FontTells.j0 k t125 t126 t130 bt131.1 bt131.2 (t127 != t130) a3_0 a3_1) else (terrlaw5_FontTells.j0 k t125 t126 t130 bt131.1 bt131.2 true a3_0 a3_1)) else (terrlaw5_FontTells.j0 k t125 t126 t130 bt131.1 bt131.2 true a3_0 a3_1)) else (terrlaw5_FontTells.j0 k t125 t126 t130 bt131.1 bt131.2 true a3_0 a3_1))))) = some r := H
    have A8 := Aside0.mk A80
    clear A80
    replace H := Option.bind_eq_some_iff.mp H
    obtain ⟨⟨t131, t134⟩, A90, H⟩ := H
    replace H : ((font_Width.f k a0).bind fun t135 => ((terrref5_Wide.f k a0).bind fun t136 => (if t135 = t136 then (if t125 = t128 then (if t126 = t129 then (terrlaw5_FontTells.j0 k t125 t126 t130 t131 t134 (t127 != t130) a3_0 a3_1) else (terrlaw5_FontTells.j0 k t125 t126 t130 t131 t134 true a3_0 a3_1)) else (terrlaw5_FontTells.j0 k t125 t126 t130 t131 t134 true a3_0 a3_1)) else (terrlaw5_FontTells.j0 k t125 t126 t130 t131 t134 true a3_0 a3_1)))) = some r := H
    have A9 := Aside0.mk A90
    clear A90
    have HC10 := Aside0.mk H
    clear H
    go_enter Try.func6, Try.ntmps6
    go_upto_region 6 with (first | ((with_reducible refine gate_dst (N := 7) rfl ?_); (try (refine gate_guard (by rfl) ?_; dsimp only)); refine box_event ?hg (N := 7) ?hd (cs := #[.int .i64 a3_0, .int .i64 a3_1]) (t := 31) ?hr ?_; (case hd => rfl); (case hg => rfl); (case hr => first | (go_simp; done) | (go_simp; rfl)); intro gb123 hg w11 hbox hb; have n0_ := Aside0.mk (below_step (by repeat (first | (with_reducible first | exact HB.out | apply below_alloc | apply pw_below_drewN | apply below_drew1) | exact HB.out)) hb); have n1_ := Aside0.mk (hbox); have n2_ := Aside0.mk ((by rw [hg]; exact (below_size (by repeat (first | (with_reducible first | exact HB.out | apply below_alloc | apply pw_below_drewN | apply below_drew1) | exact HB.out))) : w.heap.size ≤ gb123)); have n3_ := Aside0.mk ((by rw [hg]; exact (below_size (by repeat (first | (with_reducible first | exact HB.out | apply below_alloc | apply pw_below_drewN | apply below_drew1) | exact HB.out))) : w.heap.size ≤ gb123)); clear HB; have HB := n0_; have BK123 := n1_; have GW123 := n2_; have GE123 := n3_; clear n0_ n1_ n2_ n3_; clear hb hbox hg) | (go_at_call 24; (with_reducible refine (font_Width.calls k 109 t124 _ A5.out).mono ?_); rintro e w' ⟨rfl, ⟨nd, rfl⟩⟩; (try first | exact ⟨rfl, _, World.drewN_drewN _ _ _⟩ | exact ⟨rfl, _, Eq.trans (World.drewN_drewN _ _ _) (congrArg (World.drewN _) (Nat.add_assoc _ _ _))⟩)) | (go_at_call 14; (with_reducible refine (font_Size.calls k a1 a2 t125 t126 t127 _ A7.out).mono ?_); rintro e w' ⟨rfl, ⟨nd, rfl⟩⟩; (try first | exact ⟨rfl, _, World.drewN_drewN _ _ _⟩ | exact ⟨rfl, _, Eq.trans (World.drewN_drewN _ _ _) (congrArg (World.drewN _) (Nat.add_assoc _ _ _))⟩)) | (go_at_call 25; (with_reducible refine (terrref5_TextSize.calls k a1 a2 t128 t129 t130 _ A8.out).mono ?_); rintro e w12 ⟨rfl, hb⟩; have n0_ := Aside0.mk (blk_below (g := gb123) (o := .cells #[.int .i64 a3_0, .int .i64 a3_1] 31 (0, 0)) (by (with_reducible repeat (first | refine blk_drewN ?_ _ | refine blk_drew ?_ | refine blk_alloc ?_ _)); exact BK123.out) hb); have n1_ := Aside0.mk (below_step (by repeat (first | (with_reducible first | exact HB.out | apply below_alloc | apply pw_below_drewN | apply below_drew1 | refine below_set ?_ GE123.out) | exact HB.out)) hb); clear BK123; clear HB; have BK123 := n0_; have HB := n1_; clear n0_ n1_; (try clear hb); (try clear hb2); (try clear hk); (try clear hi); have hcz13_0 : w12.cell? ⟨gb123, 0, none⟩ = some (.int .i64 a3_0) := (blk_cell BK123.out 0).trans rfl; have hcz13_1 : w12.cell? ⟨gb123, 1, none⟩ = some (.int .i64 a3_1) := (blk_cell BK123.out 1).trans rfl; have hfz13_0 := blk_frozen BK123.out 0; have hfz13_1 := blk_frozen BK123.out 1) | (go_at_call 26; (with_reducible refine (font_Boxes.calls k a3_0 a3_1 a1 a2 t131 t134 _ A9.out).mono ?_); rintro e w14 ⟨v132, rfl, ho0, hb⟩; have n0_ := Aside0.mk (Kd.R_lower ho0 (below_size (by repeat (first | (with_reducible first | exact HB.out | apply below_alloc | apply pw_below_drewN | apply below_drew1 | refine below_set ?_ GE123.out) | exact HB.out)))); have n1_ := Aside0.mk (blk_below (g := gb123) (o := .cells #[.int .i64 a3_0, .int .i64 a3_1] 31 (0, 0)) (by (with_reducible repeat (first | refine blk_drewN ?_ _ | refine blk_drew ?_ | refine blk_alloc ?_ _)); exact BK123.out) hb); have n2_ := Aside0.mk (below_step (by repeat (first | (with_reducible first | exact HB.out | apply below_alloc | apply pw_below_drewN | apply below_drew1 | refine below_set ?_ GE123.out) | exact HB.out)) hb); clear BK123; clear HB; have HO133 := n0_; have BK123 := n1_; have HB := n2_; clear n0_ n1_ n2_; (try clear hb); (try clear hb2); (try clear hk); (try clear hi); (try clear ho0)))
    repeat (go_quiet (first | ((with_reducible refine gate_dst (N := 7) rfl ?_); (try (refine gate_guard (by rfl) ?_; dsimp only)); refine box_event ?hg (N := 7) ?hd (cs := #[.int .i64 a3_0, .int .i64 a3_1]) (t := 31) ?hr ?_; (case hd => rfl); (case hg => rfl); (case hr => first | (go_simp; done) | (go_simp; rfl)); intro gb123 hg w11 hbox hb; have n0_ := Aside0.mk (below_step (by repeat (first | (with_reducible first | exact HB.out | apply below_alloc | apply pw_below_drewN | apply below_drew1) | exact HB.out)) hb); have n1_ := Aside0.mk (hbox); have n2_ := Aside0.mk ((by rw [hg]; exact (below_size (by repeat (first | (with_reducible first | exact HB.out | apply below_alloc | apply pw_below_drewN | apply below_drew1) | exact HB.out))) : w.heap.size ≤ gb123)); have n3_ := Aside0.mk ((by rw [hg]; exact (below_size (by repeat (first | (with_reducible first | exact HB.out | apply below_alloc | apply pw_below_drewN | apply below_drew1) | exact HB.out))) : w.heap.size ≤ gb123)); clear HB; have HB := n0_; have BK123 := n1_; have GW123 := n2_; have GE123 := n3_; clear n0_ n1_ n2_ n3_; clear hb hbox hg) | (go_at_call 24; (with_reducible refine (font_Width.calls k 109 t124 _ A5.out).mono ?_); rintro e w' ⟨rfl, ⟨nd, rfl⟩⟩; (try first | exact ⟨rfl, _, World.drewN_drewN _ _ _⟩ | exact ⟨rfl, _, Eq.trans (World.drewN_drewN _ _ _) (congrArg (World.drewN _) (Nat.add_assoc _ _ _))⟩)) | (go_at_call 14; (with_reducible refine (font_Size.calls k a1 a2 t125 t126 t127 _ A7.out).mono ?_); rintro e w' ⟨rfl, ⟨nd, rfl⟩⟩; (try first | exact ⟨rfl, _, World.drewN_drewN _ _ _⟩ | exact ⟨rfl, _, Eq.trans (World.drewN_drewN _ _ _) (congrArg (World.drewN _) (Nat.add_assoc _ _ _))⟩)) | (go_at_call 25; (with_reducible refine (terrref5_TextSize.calls k a1 a2 t128 t129 t130 _ A8.out).mono ?_); rintro e w12 ⟨rfl, hb⟩; have n0_ := Aside0.mk (blk_below (g := gb123) (o := .cells #[.int .i64 a3_0, .int .i64 a3_1] 31 (0, 0)) (by (with_reducible repeat (first | refine blk_drewN ?_ _ | refine blk_drew ?_ | refine blk_alloc ?_ _)); exact BK123.out) hb); have n1_ := Aside0.mk (below_step (by repeat (first | (with_reducible first | exact HB.out | apply below_alloc | apply pw_below_drewN | apply below_drew1 | refine below_set ?_ GE123.out) | exact HB.out)) hb); clear BK123; clear HB; have BK123 := n0_; have HB := n1_; clear n0_ n1_; (try clear hb); (try clear hb2); (try clear hk); (try clear hi); have hcz13_0 : w12.cell? ⟨gb123, 0, none⟩ = some (.int .i64 a3_0) := (blk_cell BK123.out 0).trans rfl; have hcz13_1 : w12.cell? ⟨gb123, 1, none⟩ = some (.int .i64 a3_1) := (blk_cell BK123.out 1).trans rfl; have hfz13_0 := blk_frozen BK123.out 0; have hfz13_1 := blk_frozen BK123.out 1) | (go_at_call 26; (with_reducible refine (font_Boxes.calls k a3_0 a3_1 a1 a2 t131 t134 _ A9.out).mono ?_); rintro e w14 ⟨v132, rfl, ho0, hb⟩; have n0_ := Aside0.mk (Kd.R_lower ho0 (below_size (by repeat (first | (with_reducible first | exact HB.out | apply below_alloc | apply pw_below_drewN | apply below_drew1 | refine below_set ?_ GE123.out) | exact HB.out)))); have n1_ := Aside0.mk (blk_below (g := gb123) (o := .cells #[.int .i64 a3_0, .int .i64 a3_1] 31 (0, 0)) (by (with_reducible repeat (first | refine blk_drewN ?_ _ | refine blk_drew ?_ | refine blk_alloc ?_ _)); exact BK123.out) hb); have n2_ := Aside0.mk (below_step (by repeat (first | (with_reducible first | exact HB.out | apply below_alloc | apply pw_below_drewN | apply below_drew1 | refine below_set ?_ GE123.out) | exact HB.out)) hb); clear BK123; clear HB; have HO133 := n0_; have BK123 := n1_; have HB := n2_; clear n0_ n1_ n2_; (try clear hb); (try clear hb2); (try clear hk); (try clear hi); (try clear ho0))); go_upto_region 6 with (first | ((with_reducible refine gate_dst (N := 7) rfl ?_); (try (refine gate_guard (by rfl) ?_; dsimp only)); refine box_event ?hg (N := 7) ?hd (cs := #[.int .i64 a3_0, .int .i64 a3_1]) (t := 31) ?hr ?_; (case hd => rfl); (case hg => rfl); (case hr => first | (go_simp; done) | (go_simp; rfl)); intro gb123 hg w11 hbox hb; have n0_ := Aside0.mk (below_step (by repeat (first | (with_reducible first | exact HB.out | apply below_alloc | apply pw_below_drewN | apply below_drew1) | exact HB.out)) hb); have n1_ := Aside0.mk (hbox); have n2_ := Aside0.mk ((by rw [hg]; exact (below_size (by repeat (first | (with_reducible first | exact HB.out | apply below_alloc | apply pw_below_drewN | apply below_drew1) | exact HB.out))) : w.heap.size ≤ gb123)); have n3_ := Aside0.mk ((by rw [hg]; exact (below_size (by repeat (first | (with_reducible first | exact HB.out | apply below_alloc | apply pw_below_drewN | apply below_drew1) | exact HB.out))) : w.heap.size ≤ gb123)); clear HB; have HB := n0_; have BK123 := n1_; have GW123 := n2_; have GE123 := n3_; clear n0_ n1_ n2_ n3_; clear hb hbox hg) | (go_at_call 24; (with_reducible refine (font_Width.calls k 109 t124 _ A5.out).mono ?_); rintro e w' ⟨rfl, ⟨nd, rfl⟩⟩; (try first | exact ⟨rfl, _, World.drewN_drewN _ _ _⟩ | exact ⟨rfl, _, Eq.trans (World.drewN_drewN _ _ _) (congrArg (World.drewN _) (Nat.add_assoc _ _ _))⟩)) | (go_at_call 14; (with_reducible refine (font_Size.calls k a1 a2 t125 t126 t127 _ A7.out).mono ?_); rintro e w' ⟨rfl, ⟨nd, rfl⟩⟩; (try first | exact ⟨rfl, _, World.drewN_drewN _ _ _⟩ | exact ⟨rfl, _, Eq.trans (World.drewN_drewN _ _ _) (congrArg (World.drewN _) (Nat.add_assoc _ _ _))⟩)) | (go_at_call 25; (with_reducible refine (terrref5_TextSize.calls k a1 a2 t128 t129 t130 _ A8.out).mono ?_); rintro e w12 ⟨rfl, hb⟩; have n0_ := Aside0.mk (blk_below (g := gb123) (o := .cells #[.int .i64 a3_0, .int .i64 a3_1] 31 (0, 0)) (by (with_reducible repeat (first | refine blk_drewN ?_ _ | refine blk_drew ?_ | refine blk_alloc ?_ _)); exact BK123.out) hb); have n1_ := Aside0.mk (below_step (by repeat (first | (with_reducible first | exact HB.out | apply below_alloc | apply pw_below_drewN | apply below_drew1 | refine below_set ?_ GE123.out) | exact HB.out)) hb); clear BK123; clear HB; have BK123 := n0_; have HB := n1_; clear n0_ n1_; (try clear hb); (try clear hb2); (try clear hk); (try clear hi); have hcz13_0 : w12.cell? ⟨gb123, 0, none⟩ = some (.int .i64 a3_0) := (blk_cell BK123.out 0).trans rfl; have hcz13_1 : w12.cell? ⟨gb123, 1, none⟩ = some (.int .i64 a3_1) := (blk_cell BK123.out 1).trans rfl; have hfz13_0 := blk_frozen BK123.out 0; have hfz13_1 := blk_frozen BK123.out 1) | (go_at_call 26; (with_reducible refine (font_Boxes.calls k a3_0 a3_1 a1 a2 t131 t134 _ A9.out).mono ?_); rintro e w14 ⟨v132, rfl, ho0, hb⟩; have n0_ := Aside0.mk (Kd.R_lower ho0 (below_size (by repeat (first | (with_reducible first | exact HB.out | apply below_alloc | apply pw_below_drewN | apply below_drew1 | refine below_set ?_ GE123.out) | exact HB.out)))); have n1_ := Aside0.mk (blk_below (g := gb123) (o := .cells #[.int .i64 a3_0, .int .i64 a3_1] 31 (0, 0)) (by (with_reducible repeat (first | refine blk_drewN ?_ _ | refine blk_drew ?_ | refine blk_alloc ?_ _)); exact BK123.out) hb); have n2_ := Aside0.mk (below_step (by repeat (first | (with_reducible first | exact HB.out | apply below_alloc | apply pw_below_drewN | apply below_drew1 | refine below_set ?_ GE123.out) | exact HB.out)) hb); clear BK123; clear HB; have HO133 := n0_; have BK123 := n1_; have HB := n2_; clear n0_ n1_ n2_; (try clear hb); (try clear hb2); (try clear hk); (try clear hi); (try clear ho0))))
    (try simp only [Act.put, List.setIfInBounds_toArray, List.set_cons_zero, List.set_cons_succ])
    go_cut [62] (fun v62 wc => ∃ (kq : Nat) (x62_9 : Bool), v62 = .bool x62_9 ∧ Aside0 (terrlaw5_FontTells.j0 kq t125 t126 t130 t131 t134 x62_9 a3_0 a3_1 = some r) ∧ Aside0 (kq ≤ k) ∧ Aside0 (Kd.R k44 44 wc w.heap.size (fun _ => True) v132 t131) ∧ Aside0 (wc.heap[gb123]? = some (.cells #[.int .i64 a3_0, .int .i64 a3_1] 31 (0, 0))) ∧ Aside0 (Below w.heap.size w wc))
    case first =>
      have H := HC10.out
      clear HC10
      replace H := Option.bind_eq_some_iff.mp H
      obtain ⟨t135, A150, H⟩ := H
      replace H : ((terrref5_Wide.f k a0).bind fun t136 => (if t135 = t136 then (if t125 = t128 then (if t126 = t129 then (terrlaw5_FontTells.j0 k t125 t126 t130 t131 t134 (t127 != t130) a3_0 a3_1) else (terrlaw5_FontTells.j0 k t125 t126 t130 t131 t134 true a3_0 a3_1)) else (terrlaw5_FontTells.j0 k t125 t126 t130 t131 t134 true a3_0 a3_1)) else (terrlaw5_FontTells.j0 k t125 t126 t130 t131 t134 true a3_0 a3_1))) = some r := H
      have A15 := Aside0.mk A150
      clear A150
      replace H := Option.bind_eq_some_iff.mp H
      obtain ⟨t136, A160, H⟩ := H
      replace H : (if t135 = t136 then (if t125 = t128 then (if t126 = t129 then (terrlaw5_FontTells.j0 k t125 t126 t130 t131 t134 (t127 != t130) a3_0 a3_1) else (terrlaw5_FontTells.j0 k t125 t126 t130 t131 t134 true a3_0 a3_1)) else (terrlaw5_FontTells.j0 k t125 t126 t130 t131 t134 true a3_0 a3_1)) else (terrlaw5_FontTells.j0 k t125 t126 t130 t131 t134 true a3_0 a3_1)) = some r := H
      have A16 := Aside0.mk A160
      clear A160
      by_cases c17 : t135 = t136
      · rw [if_pos c17] at H
        have c17b0 : (t135 == t136) = true := beq_iff_eq.mpr c17
        have c17b1 : (t135 != t136) = false := bne_eq_false_iff_eq.mpr c17
        clear c17
        (first | rw [c17b0] | (simp only [i64_w, i32_w]; rw [c17b0]) | skip)
        by_cases c18 : t125 = t128
        · rw [if_pos c18] at H
          have c18b0 : (t125 == t128) = true := beq_iff_eq.mpr c18
          have c18b1 : (t125 != t128) = false := bne_eq_false_iff_eq.mpr c18
          clear c18
          by_cases c19 : t126 = t129
          · rw [if_pos c19] at H
            have c19b0 : (t126 == t129) = true := beq_iff_eq.mpr c19
            have c19b1 : (t126 != t129) = false := bne_eq_false_iff_eq.mpr c19
            clear c19
            have H' := Aside0.mk H
            clear H
            go_wp2_with (first | (go_at_call 24; (with_reducible refine (font_Width.calls k a0 t135 _ A15.out).mono ?_); rintro e w' ⟨rfl, ⟨nd, rfl⟩⟩; (try first | exact ⟨rfl, _, World.drewN_drewN _ _ _⟩ | exact ⟨rfl, _, Eq.trans (World.drewN_drewN _ _ _) (congrArg (World.drewN _) (Nat.add_assoc _ _ _))⟩)) | (go_at_call 27; (with_reducible refine (terrref5_Wide.calls k a0 t136 _ A16.out).mono ?_); rintro e w20 ⟨rfl, hb⟩; have n0_ := Aside0.mk (Kd.R_below (by (with_reducible repeat (first | apply Kd.R_alloc | apply Kd.R_drewN | apply Kd.R_drew)); exact HO133.out) hb); have n1_ := Aside0.mk (blk_below (g := gb123) (o := .cells #[.int .i64 a3_0, .int .i64 a3_1] 31 (0, 0)) (by (with_reducible repeat (first | refine blk_drewN ?_ _ | refine blk_drew ?_ | refine blk_alloc ?_ _)); exact BK123.out) hb); have n2_ := Aside0.mk (below_step (by repeat (first | (with_reducible first | exact HB.out | apply below_alloc | apply pw_below_drewN | apply below_drew1 | refine below_set ?_ GE123.out) | exact HB.out)) hb); clear HO133; clear BK123; clear HB; have HO133 := n0_; have BK123 := n1_; have HB := n2_; clear n0_ n1_ n2_; (try clear hb); (try clear hb2); (try clear hk); (try clear hi)))
            repeat (go_quiet (first | (go_at_call 24; (with_reducible refine (font_Width.calls k a0 t135 _ A15.out).mono ?_); rintro e w' ⟨rfl, ⟨nd, rfl⟩⟩; (try first | exact ⟨rfl, _, World.drewN_drewN _ _ _⟩ | exact ⟨rfl, _, Eq.trans (World.drewN_drewN _ _ _) (congrArg (World.drewN _) (Nat.add_assoc _ _ _))⟩)) | (go_at_call 27; (with_reducible refine (terrref5_Wide.calls k a0 t136 _ A16.out).mono ?_); rintro e w20 ⟨rfl, hb⟩; have n0_ := Aside0.mk (Kd.R_below (by (with_reducible repeat (first | apply Kd.R_alloc | apply Kd.R_drewN | apply Kd.R_drew)); exact HO133.out) hb); have n1_ := Aside0.mk (blk_below (g := gb123) (o := .cells #[.int .i64 a3_0, .int .i64 a3_1] 31 (0, 0)) (by (with_reducible repeat (first | refine blk_drewN ?_ _ | refine blk_drew ?_ | refine blk_alloc ?_ _)); exact BK123.out) hb); have n2_ := Aside0.mk (below_step (by repeat (first | (with_reducible first | exact HB.out | apply below_alloc | apply pw_below_drewN | apply below_drew1 | refine below_set ?_ GE123.out) | exact HB.out)) hb); clear HO133; clear BK123; clear HB; have HO133 := n0_; have BK123 := n1_; have HB := n2_; clear n0_ n1_ n2_; (try clear hb); (try clear hb2); (try clear hk); (try clear hi))); try go_wp2_with (first | (go_at_call 24; (with_reducible refine (font_Width.calls k a0 t135 _ A15.out).mono ?_); rintro e w' ⟨rfl, ⟨nd, rfl⟩⟩; (try first | exact ⟨rfl, _, World.drewN_drewN _ _ _⟩ | exact ⟨rfl, _, Eq.trans (World.drewN_drewN _ _ _) (congrArg (World.drewN _) (Nat.add_assoc _ _ _))⟩)) | (go_at_call 27; (with_reducible refine (terrref5_Wide.calls k a0 t136 _ A16.out).mono ?_); rintro e w20 ⟨rfl, hb⟩; have n0_ := Aside0.mk (Kd.R_below (by (with_reducible repeat (first | apply Kd.R_alloc | apply Kd.R_drewN | apply Kd.R_drew)); exact HO133.out) hb); have n1_ := Aside0.mk (blk_below (g := gb123) (o := .cells #[.int .i64 a3_0, .int .i64 a3_1] 31 (0, 0)) (by (with_reducible repeat (first | refine blk_drewN ?_ _ | refine blk_drew ?_ | refine blk_alloc ?_ _)); exact BK123.out) hb); have n2_ := Aside0.mk (below_step (by repeat (first | (with_reducible first | exact HB.out | apply below_alloc | apply pw_below_drewN | apply below_drew1 | refine below_set ?_ GE123.out) | exact HB.out)) hb); clear HO133; clear BK123; clear HB; have HO133 := n0_; have BK123 := n1_; have HB := n2_; clear n0_ n1_ n2_; (try clear hb); (try clear hb2); (try clear hk); (try clear hi))))
            go_meet
            case rel => exact ⟨_, ((t127 != t130)), (by first | rfl | (simp; done) | (simp [*]; done)), H', ⟨by first | omega | exact Nat.le_refl _⟩, ⟨by (with_reducible repeat (first | apply Kd.R_alloc | apply Kd.R_drewN | apply Kd.R_drew)); exact HO133.out⟩, ⟨by (with_reducible repeat (first | refine blk_drewN ?_ _ | refine blk_drew ?_ | refine blk_alloc ?_ _)); exact BK123.out⟩, ⟨by repeat (first | (with_reducible first | exact HB.out | apply below_alloc | apply pw_below_drewN | apply below_drew1 | refine below_set ?_ GE123.out) | exact HB.out)⟩⟩
          · rw [if_neg c19] at H
            have c19b0 : (t126 == t129) = false := beq_eq_false_iff_ne.mpr c19
            have c19b1 : (t126 != t129) = true := bne_iff_ne.mpr c19
            have H' := Aside0.mk H
            clear H
            go_wp2_with (first | (go_at_call 24; (with_reducible refine (font_Width.calls k a0 t135 _ A15.out).mono ?_); rintro e w' ⟨rfl, ⟨nd, rfl⟩⟩; (try first | exact ⟨rfl, _, World.drewN_drewN _ _ _⟩ | exact ⟨rfl, _, Eq.trans (World.drewN_drewN _ _ _) (congrArg (World.drewN _) (Nat.add_assoc _ _ _))⟩)) | (go_at_call 27; (with_reducible refine (terrref5_Wide.calls k a0 t136 _ A16.out).mono ?_); rintro e w21 ⟨rfl, hb⟩; have n0_ := Aside0.mk (Kd.R_below (by (with_reducible repeat (first | apply Kd.R_alloc | apply Kd.R_drewN | apply Kd.R_drew)); exact HO133.out) hb); have n1_ := Aside0.mk (blk_below (g := gb123) (o := .cells #[.int .i64 a3_0, .int .i64 a3_1] 31 (0, 0)) (by (with_reducible repeat (first | refine blk_drewN ?_ _ | refine blk_drew ?_ | refine blk_alloc ?_ _)); exact BK123.out) hb); have n2_ := Aside0.mk (below_step (by repeat (first | (with_reducible first | exact HB.out | apply below_alloc | apply pw_below_drewN | apply below_drew1 | refine below_set ?_ GE123.out) | exact HB.out)) hb); clear HO133; clear BK123; clear HB; have HO133 := n0_; have BK123 := n1_; have HB := n2_; clear n0_ n1_ n2_; (try clear hb); (try clear hb2); (try clear hk); (try clear hi)))
            repeat (go_quiet (first | (go_at_call 24; (with_reducible refine (font_Width.calls k a0 t135 _ A15.out).mono ?_); rintro e w' ⟨rfl, ⟨nd, rfl⟩⟩; (try first | exact ⟨rfl, _, World.drewN_drewN _ _ _⟩ | exact ⟨rfl, _, Eq.trans (World.drewN_drewN _ _ _) (congrArg (World.drewN _) (Nat.add_assoc _ _ _))⟩)) | (go_at_call 27; (with_reducible refine (terrref5_Wide.calls k a0 t136 _ A16.out).mono ?_); rintro e w21 ⟨rfl, hb⟩; have n0_ := Aside0.mk (Kd.R_below (by (with_reducible repeat (first | apply Kd.R_alloc | apply Kd.R_drewN | apply Kd.R_drew)); exact HO133.out) hb); have n1_ := Aside0.mk (blk_below (g := gb123) (o := .cells #[.int .i64 a3_0, .int .i64 a3_1] 31 (0, 0)) (by (with_reducible repeat (first | refine blk_drewN ?_ _ | refine blk_drew ?_ | refine blk_alloc ?_ _)); exact BK123.out) hb); have n2_ := Aside0.mk (below_step (by repeat (first | (with_reducible first | exact HB.out | apply below_alloc | apply pw_below_drewN | apply below_drew1 | refine below_set ?_ GE123.out) | exact HB.out)) hb); clear HO133; clear BK123; clear HB; have HO133 := n0_; have BK123 := n1_; have HB := n2_; clear n0_ n1_ n2_; (try clear hb); (try clear hb2); (try clear hk); (try clear hi))); try go_wp2_with (first | (go_at_call 24; (with_reducible refine (font_Width.calls k a0 t135 _ A15.out).mono ?_); rintro e w' ⟨rfl, ⟨nd, rfl⟩⟩; (try first | exact ⟨rfl, _, World.drewN_drewN _ _ _⟩ | exact ⟨rfl, _, Eq.trans (World.drewN_drewN _ _ _) (congrArg (World.drewN _) (Nat.add_assoc _ _ _))⟩)) | (go_at_call 27; (with_reducible refine (terrref5_Wide.calls k a0 t136 _ A16.out).mono ?_); rintro e w21 ⟨rfl, hb⟩; have n0_ := Aside0.mk (Kd.R_below (by (with_reducible repeat (first | apply Kd.R_alloc | apply Kd.R_drewN | apply Kd.R_drew)); exact HO133.out) hb); have n1_ := Aside0.mk (blk_below (g := gb123) (o := .cells #[.int .i64 a3_0, .int .i64 a3_1] 31 (0, 0)) (by (with_reducible repeat (first | refine blk_drewN ?_ _ | refine blk_drew ?_ | refine blk_alloc ?_ _)); exact BK123.out) hb); have n2_ := Aside0.mk (below_step (by repeat (first | (with_reducible first | exact HB.out | apply below_alloc | apply pw_below_drewN | apply below_drew1 | refine below_set ?_ GE123.out) | exact HB.out)) hb); clear HO133; clear BK123; clear HB; have HO133 := n0_; have BK123 := n1_; have HB := n2_; clear n0_ n1_ n2_; (try clear hb); (try clear hb2); (try clear hk); (try clear hi))))
            go_meet
            case rel => exact ⟨_, (true), (by first | rfl | (simp; done) | (simp [*]; done)), H', ⟨by first | omega | exact Nat.le_refl _⟩, ⟨by (with_reducible repeat (first | apply Kd.R_alloc | apply Kd.R_drewN | apply Kd.R_drew)); exact HO133.out⟩, ⟨by (with_reducible repeat (first | refine blk_drewN ?_ _ | refine blk_drew ?_ | refine blk_alloc ?_ _)); exact BK123.out⟩, ⟨by repeat (first | (with_reducible first | exact HB.out | apply below_alloc | apply pw_below_drewN | apply below_drew1 | refine below_set ?_ GE123.out) | exact HB.out)⟩⟩
        · rw [if_neg c18] at H
          have c18b0 : (t125 == t128) = false := beq_eq_false_iff_ne.mpr c18
          have c18b1 : (t125 != t128) = true := bne_iff_ne.mpr c18
          have H' := Aside0.mk H
          clear H
          go_wp2_with (first | (go_at_call 24; (with_reducible refine (font_Width.calls k a0 t135 _ A15.out).mono ?_); rintro e w' ⟨rfl, ⟨nd, rfl⟩⟩; (try first | exact ⟨rfl, _, World.drewN_drewN _ _ _⟩ | exact ⟨rfl, _, Eq.trans (World.drewN_drewN _ _ _) (congrArg (World.drewN _) (Nat.add_assoc _ _ _))⟩)) | (go_at_call 27; (with_reducible refine (terrref5_Wide.calls k a0 t136 _ A16.out).mono ?_); rintro e w22 ⟨rfl, hb⟩; have n0_ := Aside0.mk (Kd.R_below (by (with_reducible repeat (first | apply Kd.R_alloc | apply Kd.R_drewN | apply Kd.R_drew)); exact HO133.out) hb); have n1_ := Aside0.mk (blk_below (g := gb123) (o := .cells #[.int .i64 a3_0, .int .i64 a3_1] 31 (0, 0)) (by (with_reducible repeat (first | refine blk_drewN ?_ _ | refine blk_drew ?_ | refine blk_alloc ?_ _)); exact BK123.out) hb); have n2_ := Aside0.mk (below_step (by repeat (first | (with_reducible first | exact HB.out | apply below_alloc | apply pw_below_drewN | apply below_drew1 | refine below_set ?_ GE123.out) | exact HB.out)) hb); clear HO133; clear BK123; clear HB; have HO133 := n0_; have BK123 := n1_; have HB := n2_; clear n0_ n1_ n2_; (try clear hb); (try clear hb2); (try clear hk); (try clear hi)))
          repeat (go_quiet (first | (go_at_call 24; (with_reducible refine (font_Width.calls k a0 t135 _ A15.out).mono ?_); rintro e w' ⟨rfl, ⟨nd, rfl⟩⟩; (try first | exact ⟨rfl, _, World.drewN_drewN _ _ _⟩ | exact ⟨rfl, _, Eq.trans (World.drewN_drewN _ _ _) (congrArg (World.drewN _) (Nat.add_assoc _ _ _))⟩)) | (go_at_call 27; (with_reducible refine (terrref5_Wide.calls k a0 t136 _ A16.out).mono ?_); rintro e w22 ⟨rfl, hb⟩; have n0_ := Aside0.mk (Kd.R_below (by (with_reducible repeat (first | apply Kd.R_alloc | apply Kd.R_drewN | apply Kd.R_drew)); exact HO133.out) hb); have n1_ := Aside0.mk (blk_below (g := gb123) (o := .cells #[.int .i64 a3_0, .int .i64 a3_1] 31 (0, 0)) (by (with_reducible repeat (first | refine blk_drewN ?_ _ | refine blk_drew ?_ | refine blk_alloc ?_ _)); exact BK123.out) hb); have n2_ := Aside0.mk (below_step (by repeat (first | (with_reducible first | exact HB.out | apply below_alloc | apply pw_below_drewN | apply below_drew1 | refine below_set ?_ GE123.out) | exact HB.out)) hb); clear HO133; clear BK123; clear HB; have HO133 := n0_; have BK123 := n1_; have HB := n2_; clear n0_ n1_ n2_; (try clear hb); (try clear hb2); (try clear hk); (try clear hi))); try go_wp2_with (first | (go_at_call 24; (with_reducible refine (font_Width.calls k a0 t135 _ A15.out).mono ?_); rintro e w' ⟨rfl, ⟨nd, rfl⟩⟩; (try first | exact ⟨rfl, _, World.drewN_drewN _ _ _⟩ | exact ⟨rfl, _, Eq.trans (World.drewN_drewN _ _ _) (congrArg (World.drewN _) (Nat.add_assoc _ _ _))⟩)) | (go_at_call 27; (with_reducible refine (terrref5_Wide.calls k a0 t136 _ A16.out).mono ?_); rintro e w22 ⟨rfl, hb⟩; have n0_ := Aside0.mk (Kd.R_below (by (with_reducible repeat (first | apply Kd.R_alloc | apply Kd.R_drewN | apply Kd.R_drew)); exact HO133.out) hb); have n1_ := Aside0.mk (blk_below (g := gb123) (o := .cells #[.int .i64 a3_0, .int .i64 a3_1] 31 (0, 0)) (by (with_reducible repeat (first | refine blk_drewN ?_ _ | refine blk_drew ?_ | refine blk_alloc ?_ _)); exact BK123.out) hb); have n2_ := Aside0.mk (below_step (by repeat (first | (with_reducible first | exact HB.out | apply below_alloc | apply pw_below_drewN | apply below_drew1 | refine below_set ?_ GE123.out) | exact HB.out)) hb); clear HO133; clear BK123; clear HB; have HO133 := n0_; have BK123 := n1_; have HB := n2_; clear n0_ n1_ n2_; (try clear hb); (try clear hb2); (try clear hk); (try clear hi))))
          go_meet
          case rel => exact ⟨_, (true), (by first | rfl | (simp; done) | (simp [*]; done)), H', ⟨by first | omega | exact Nat.le_refl _⟩, ⟨by (with_reducible repeat (first | apply Kd.R_alloc | apply Kd.R_drewN | apply Kd.R_drew)); exact HO133.out⟩, ⟨by (with_reducible repeat (first | refine blk_drewN ?_ _ | refine blk_drew ?_ | refine blk_alloc ?_ _)); exact BK123.out⟩, ⟨by repeat (first | (with_reducible first | exact HB.out | apply below_alloc | apply pw_below_drewN | apply below_drew1 | refine below_set ?_ GE123.out) | exact HB.out)⟩⟩
      · rw [if_neg c17] at H
        have c17b0 : (t135 == t136) = false := beq_eq_false_iff_ne.mpr c17
        have c17b1 : (t135 != t136) = true := bne_iff_ne.mpr c17
        (first | rw [c17b0] | (simp only [i64_w, i32_w]; rw [c17b0]) | skip)
        have H' := Aside0.mk H
        clear H
        go_wp2_with (first | (go_at_call 24; (with_reducible refine (font_Width.calls k a0 t135 _ A15.out).mono ?_); rintro e w' ⟨rfl, ⟨nd, rfl⟩⟩; (try first | exact ⟨rfl, _, World.drewN_drewN _ _ _⟩ | exact ⟨rfl, _, Eq.trans (World.drewN_drewN _ _ _) (congrArg (World.drewN _) (Nat.add_assoc _ _ _))⟩)) | (go_at_call 27; (with_reducible refine (terrref5_Wide.calls k a0 t136 _ A16.out).mono ?_); rintro e w23 ⟨rfl, hb⟩; have n0_ := Aside0.mk (Kd.R_below (by (with_reducible repeat (first | apply Kd.R_alloc | apply Kd.R_drewN | apply Kd.R_drew)); exact HO133.out) hb); have n1_ := Aside0.mk (blk_below (g := gb123) (o := .cells #[.int .i64 a3_0, .int .i64 a3_1] 31 (0, 0)) (by (with_reducible repeat (first | refine blk_drewN ?_ _ | refine blk_drew ?_ | refine blk_alloc ?_ _)); exact BK123.out) hb); have n2_ := Aside0.mk (below_step (by repeat (first | (with_reducible first | exact HB.out | apply below_alloc | apply pw_below_drewN | apply below_drew1 | refine below_set ?_ GE123.out) | exact HB.out)) hb); clear HO133; clear BK123; clear HB; have HO133 := n0_; have BK123 := n1_; have HB := n2_; clear n0_ n1_ n2_; (try clear hb); (try clear hb2); (try clear hk); (try clear hi)))
        repeat (go_quiet (first | (go_at_call 24; (with_reducible refine (font_Width.calls k a0 t135 _ A15.out).mono ?_); rintro e w' ⟨rfl, ⟨nd, rfl⟩⟩; (try first | exact ⟨rfl, _, World.drewN_drewN _ _ _⟩ | exact ⟨rfl, _, Eq.trans (World.drewN_drewN _ _ _) (congrArg (World.drewN _) (Nat.add_assoc _ _ _))⟩)) | (go_at_call 27; (with_reducible refine (terrref5_Wide.calls k a0 t136 _ A16.out).mono ?_); rintro e w23 ⟨rfl, hb⟩; have n0_ := Aside0.mk (Kd.R_below (by (with_reducible repeat (first | apply Kd.R_alloc | apply Kd.R_drewN | apply Kd.R_drew)); exact HO133.out) hb); have n1_ := Aside0.mk (blk_below (g := gb123) (o := .cells #[.int .i64 a3_0, .int .i64 a3_1] 31 (0, 0)) (by (with_reducible repeat (first | refine blk_drewN ?_ _ | refine blk_drew ?_ | refine blk_alloc ?_ _)); exact BK123.out) hb); have n2_ := Aside0.mk (below_step (by repeat (first | (with_reducible first | exact HB.out | apply below_alloc | apply pw_below_drewN | apply below_drew1 | refine below_set ?_ GE123.out) | exact HB.out)) hb); clear HO133; clear BK123; clear HB; have HO133 := n0_; have BK123 := n1_; have HB := n2_; clear n0_ n1_ n2_; (try clear hb); (try clear hb2); (try clear hk); (try clear hi))); try go_wp2_with (first | (go_at_call 24; (with_reducible refine (font_Width.calls k a0 t135 _ A15.out).mono ?_); rintro e w' ⟨rfl, ⟨nd, rfl⟩⟩; (try first | exact ⟨rfl, _, World.drewN_drewN _ _ _⟩ | exact ⟨rfl, _, Eq.trans (World.drewN_drewN _ _ _) (congrArg (World.drewN _) (Nat.add_assoc _ _ _))⟩)) | (go_at_call 27; (with_reducible refine (terrref5_Wide.calls k a0 t136 _ A16.out).mono ?_); rintro e w23 ⟨rfl, hb⟩; have n0_ := Aside0.mk (Kd.R_below (by (with_reducible repeat (first | apply Kd.R_alloc | apply Kd.R_drewN | apply Kd.R_drew)); exact HO133.out) hb); have n1_ := Aside0.mk (blk_below (g := gb123) (o := .cells #[.int .i64 a3_0, .int .i64 a3_1] 31 (0, 0)) (by (with_reducible repeat (first | refine blk_drewN ?_ _ | refine blk_drew ?_ | refine blk_alloc ?_ _)); exact BK123.out) hb); have n2_ := Aside0.mk (below_step (by repeat (first | (with_reducible first | exact HB.out | apply below_alloc | apply pw_below_drewN | apply below_drew1 | refine below_set ?_ GE123.out) | exact HB.out)) hb); clear HO133; clear BK123; clear HB; have HO133 := n0_; have BK123 := n1_; have HB := n2_; clear n0_ n1_ n2_; (try clear hb); (try clear hb2); (try clear hk); (try clear hi))))
        go_meet
        case rel => exact ⟨_, (true), (by first | rfl | (simp; done) | (simp [*]; done)), H', ⟨by first | omega | exact Nat.le_refl _⟩, ⟨by (with_reducible repeat (first | apply Kd.R_alloc | apply Kd.R_drewN | apply Kd.R_drew)); exact HO133.out⟩, ⟨by (with_reducible repeat (first | refine blk_drewN ?_ _ | refine blk_drew ?_ | refine blk_alloc ?_ _)); exact BK123.out⟩, ⟨by repeat (first | (with_reducible first | exact HB.out | apply below_alloc | apply pw_below_drewN | apply below_drew1 | refine below_set ?_ GE123.out) | exact HB.out)⟩⟩
    case rest =>
      clear HC10
      try clear c1
      try clear p2
      try clear c6
      try clear c6b0
      try clear c6b1
      try clear c17
      try clear c17b0
      try clear c17b1
      try clear c18
      try clear c18b0
      try clear c18b1
      try clear c19
      try clear c19b0
      try clear c19b1
      try clear hcz13_0
      try clear hcz13_1
      try clear hfz13_0
      try clear hfz13_1
      obtain ⟨kq, x62_9, rfl, HA, HJ9, HO_15, BK123, HB⟩ := hcut
      cases kq with
      | zero => exact absurd HA.out (by simp [terrlaw5_FontTells.j0])
      | succ kj9 =>
        have H := HA.out
        clear HA
        simp only [terrlaw5_FontTells.j0] at H
        by_cases c24 : x62_9 = true
        · subst c24
          have H1 : (some false) = some r := by rw [if_pos rfl] at H; exact H
          clear H
          have H := H1
          clear H1
          exact absurd (H.trans (congrArg some hr)) (by decide)
        · replace c24 := Bool.eq_false_iff.mpr c24
          subst c24
          have H1 : (if t130 = 0 then ((terrref5_Valid.f a3_0 a3_1).bind fun t137 => (terrlaw5_FontTells.j1 kj9 t125 t126 t130 t131 t134 (!t137) a3_0 a3_1)) else (terrlaw5_FontTells.j1 kj9 t125 t126 t130 t131 t134 false a3_0 a3_1)) = some r := by rw [if_neg (show ¬ (false = true) by decide)] at H; exact H
          clear H
          have H := H1
          clear H1
          have HC25 := Aside0.mk H
          clear H
          go_upto_region 8 with (fail)
          repeat (go_quiet (fail); go_upto_region 8 with (fail))
          go_cut [69] (fun v69 wc => ∃ (kq : Nat) (x69_24 : Bool), v69 = .bool x69_24 ∧ Aside0 (terrlaw5_FontTells.j1 kq t125 t126 t130 t131 t134 x69_24 a3_0 a3_1 = some r) ∧ Aside0 (kq ≤ kj9) ∧ Aside0 (Kd.R k44 44 wc w.heap.size (fun _ => True) v132 t131) ∧ Aside0 (wc.heap[gb123]? = some (.cells #[.int .i64 a3_0, .int .i64 a3_1] 31 (0, 0))) ∧ Aside0 (Below w.heap.size w wc))
          case first =>
            have H := HC25.out
            clear HC25
            by_cases c26 : t130 = 0
            · rw [if_pos c26] at H
              have c26b0 : (t130 == 0) = true := beq_iff_eq.mpr c26
              have c26b1 : (t130 != 0) = false := bne_eq_false_iff_eq.mpr c26
              clear c26
              (first | rw [c26b0] | (simp only [i64_w, i32_w]; rw [c26b0]) | skip)
              replace H := Option.bind_eq_some_iff.mp H
              obtain ⟨t137, A270, H⟩ := H
              replace H : (terrlaw5_FontTells.j1 kj9 t125 t126 t130 t131 t134 (!t137) a3_0 a3_1) = some r := H
              have A27 := Aside0.mk A270
              clear A270
              have H' := Aside0.mk H
              clear H
              have hcz28_0 : wc.cell? ⟨gb123, 0, none⟩ = some (.int .i64 a3_0) := (blk_cell BK123.out 0).trans rfl
              have hcz28_1 : wc.cell? ⟨gb123, 1, none⟩ = some (.int .i64 a3_1) := (blk_cell BK123.out 1).trans rfl
              have hfz28_0 := blk_frozen BK123.out 0
              have hfz28_1 := blk_frozen BK123.out 1
              go_wp2_with (first | (go_at_call 28; (with_reducible refine (terrref5_Valid.calls a3_0 a3_1 t137 _ A27.out).mono ?_); rintro e w29 ⟨rfl, hb⟩; have n0_ := Aside0.mk (Kd.R_below (by (with_reducible repeat (first | apply Kd.R_alloc | apply Kd.R_drewN | apply Kd.R_drew)); exact HO_15.out) hb); have n1_ := Aside0.mk (blk_below (g := gb123) (o := .cells #[.int .i64 a3_0, .int .i64 a3_1] 31 (0, 0)) (by (with_reducible repeat (first | refine blk_drewN ?_ _ | refine blk_drew ?_ | refine blk_alloc ?_ _)); exact BK123.out) hb); have n2_ := Aside0.mk (below_step (by repeat (first | (with_reducible first | exact HB.out | apply below_alloc | apply pw_below_drewN | apply below_drew1 | refine below_set ?_ GE123.out) | exact HB.out)) hb); clear HO_15; clear BK123; clear HB; have HO_15 := n0_; have BK123 := n1_; have HB := n2_; clear n0_ n1_ n2_; (try clear hb); (try clear hb2); (try clear hk); (try clear hi)))
              repeat (go_quiet (first | (go_at_call 28; (with_reducible refine (terrref5_Valid.calls a3_0 a3_1 t137 _ A27.out).mono ?_); rintro e w29 ⟨rfl, hb⟩; have n0_ := Aside0.mk (Kd.R_below (by (with_reducible repeat (first | apply Kd.R_alloc | apply Kd.R_drewN | apply Kd.R_drew)); exact HO_15.out) hb); have n1_ := Aside0.mk (blk_below (g := gb123) (o := .cells #[.int .i64 a3_0, .int .i64 a3_1] 31 (0, 0)) (by (with_reducible repeat (first | refine blk_drewN ?_ _ | refine blk_drew ?_ | refine blk_alloc ?_ _)); exact BK123.out) hb); have n2_ := Aside0.mk (below_step (by repeat (first | (with_reducible first | exact HB.out | apply below_alloc | apply pw_below_drewN | apply below_drew1 | refine below_set ?_ GE123.out) | exact HB.out)) hb); clear HO_15; clear BK123; clear HB; have HO_15 := n0_; have BK123 := n1_; have HB := n2_; clear n0_ n1_ n2_; (try clear hb); (try clear hb2); (try clear hk); (try clear hi))); try go_wp2_with (first | (go_at_call 28; (with_reducible refine (terrref5_Valid.calls a3_0 a3_1 t137 _ A27.out).mono ?_); rintro e w29 ⟨rfl, hb⟩; have n0_ := Aside0.mk (Kd.R_below (by (with_reducible repeat (first | apply Kd.R_alloc | apply Kd.R_drewN | apply Kd.R_drew)); exact HO_15.out) hb); have n1_ := Aside0.mk (blk_below (g := gb123) (o := .cells #[.int .i64 a3_0, .int .i64 a3_1] 31 (0, 0)) (by (with_reducible repeat (first | refine blk_drewN ?_ _ | refine blk_drew ?_ | refine blk_alloc ?_ _)); exact BK123.out) hb); have n2_ := Aside0.mk (below_step (by repeat (first | (with_reducible first | exact HB.out | apply below_alloc | apply pw_below_drewN | apply below_drew1 | refine below_set ?_ GE123.out) | exact HB.out)) hb); clear HO_15; clear BK123; clear HB; have HO_15 := n0_; have BK123 := n1_; have HB := n2_; clear n0_ n1_ n2_; (try clear hb); (try clear hb2); (try clear hk); (try clear hi))))
              go_meet
              case rel => exact ⟨_, (!t137), (by first | rfl | (simp; done) | (simp [*]; done)), H', ⟨by have := HJ9.out; first | omega | exact Nat.le_refl _⟩, ⟨by (with_reducible repeat (first | apply Kd.R_alloc | apply Kd.R_drewN | apply Kd.R_drew)); exact HO_15.out⟩, ⟨by (with_reducible repeat (first | refine blk_drewN ?_ _ | refine blk_drew ?_ | refine blk_alloc ?_ _)); exact BK123.out⟩, ⟨by repeat (first | (with_reducible first | exact HB.out | apply below_alloc | apply pw_below_drewN | apply below_drew1 | refine below_set ?_ GE123.out) | exact HB.out)⟩⟩
            · rw [if_neg c26] at H
              have c26b0 : (t130 == 0) = false := beq_eq_false_iff_ne.mpr c26
              have c26b1 : (t130 != 0) = true := bne_iff_ne.mpr c26
              (first | rw [c26b0] | (simp only [i64_w, i32_w]; rw [c26b0]) | skip)
              have H' := Aside0.mk H
              clear H
              go_wp2
              repeat (go_quiet (fail); try go_wp2)
              go_meet
              case rel => exact ⟨_, (false), (by first | rfl | (simp; done) | (simp [*]; done)), H', ⟨by have := HJ9.out; first | omega | exact Nat.le_refl _⟩, ⟨by (with_reducible repeat (first | apply Kd.R_alloc | apply Kd.R_drewN | apply Kd.R_drew)); exact HO_15.out⟩, ⟨by (with_reducible repeat (first | refine blk_drewN ?_ _ | refine blk_drew ?_ | refine blk_alloc ?_ _)); exact BK123.out⟩, ⟨by repeat (first | (with_reducible first | exact HB.out | apply below_alloc | apply pw_below_drewN | apply below_drew1 | refine below_set ?_ GE123.out) | exact HB.out)⟩⟩
          case rest =>
            clear HC25
            try clear c1
            try clear c2
            try clear p2
            try clear c6
            try clear c6b0
            try clear c6b1
            try clear c17
            try clear c17b0
            try clear c17b1
            try clear c18
            try clear c18b0
            try clear c18b1
            try clear c19
            try clear c19b0
            try clear c19b1
            try clear c24
            try clear c26
            try clear c26b0
            try clear c26b1
            try clear hcz13_0
            try clear hcz13_1
            try clear hcz28_0
            try clear hcz28_1
            try clear hfz13_0
            try clear hfz13_1
            try clear hfz28_0
            try clear hfz28_1
            try clear p2
            obtain ⟨kq, x69_24, rfl, HA, HJ24, HO_15, BK123, HB⟩ := hcut
            cases kq with
            | zero => exact absurd HA.out (by simp [terrlaw5_FontTells.j1])
            | succ kj24 =>
              have H := HA.out
              clear HA
              simp only [terrlaw5_FontTells.j1] at H
              have HC30 := Aside0.mk H
              clear H
              go_upto_if 69 with (fail)
              repeat (go_quiet (fail); go_upto_if 69 with (fail))
              go_cut [14] (fun v14 wc => ∃ (kq : Nat) (x14_29 : Int), v14 = .int .i64 x14_29 ∧ Aside0 (terrlaw5_FontTells.j2 kq t125 t126 x14_29 t131 t134 a3_0 a3_1 = some r) ∧ Aside0 (kq ≤ kj24) ∧ Aside0 (Kd.R k44 44 wc w.heap.size (fun _ => True) v132 t131) ∧ Aside0 (wc.heap[gb123]? = some (.cells #[.int .i64 a3_0, .int .i64 a3_1] 31 (0, 0))) ∧ Aside0 (Below w.heap.size w wc))
              case first =>
                have H := HC30.out
                clear HC30
                by_cases c31 : x69_24 = true
                · subst c31
                  have H1 : (terrlaw5_FontTells.j2 kj24 t125 t126 1 t131 t134 a3_0 a3_1) = some r := by rw [if_pos rfl] at H; exact H
                  clear H
                  have H := H1
                  clear H1
                  have H' := Aside0.mk H
                  clear H
                  go_wp2
                  repeat (go_quiet (fail); try go_wp2)
                  go_meet
                  case rel => exact ⟨_, (1), (by first | rfl | (simp; done) | (simp [*]; done)), H', ⟨by have := HJ9.out; have := HJ24.out; first | omega | exact Nat.le_refl _⟩, ⟨by (with_reducible repeat (first | apply Kd.R_alloc | apply Kd.R_drewN | apply Kd.R_drew)); exact HO_15.out⟩, ⟨by (with_reducible repeat (first | refine blk_drewN ?_ _ | refine blk_drew ?_ | refine blk_alloc ?_ _)); exact BK123.out⟩, ⟨by repeat (first | (with_reducible first | exact HB.out | apply below_alloc | apply pw_below_drewN | apply below_drew1 | refine below_set ?_ GE123.out) | exact HB.out)⟩⟩
                · replace c31 := Bool.eq_false_iff.mpr c31
                  subst c31
                  have H1 : (terrlaw5_FontTells.j2 kj24 t125 t126 t130 t131 t134 a3_0 a3_1) = some r := by rw [if_neg (show ¬ (false = true) by decide)] at H; exact H
                  clear H
                  have H := H1
                  clear H1
                  have H' := Aside0.mk H
                  clear H
                  go_wp2
                  repeat (go_quiet (fail); try go_wp2)
                  go_meet
                  case rel => exact ⟨_, (t130), (by first | rfl | (simp; done) | (simp [*]; done)), H', ⟨by have := HJ9.out; have := HJ24.out; first | omega | exact Nat.le_refl _⟩, ⟨by (with_reducible repeat (first | apply Kd.R_alloc | apply Kd.R_drewN | apply Kd.R_drew)); exact HO_15.out⟩, ⟨by (with_reducible repeat (first | refine blk_drewN ?_ _ | refine blk_drew ?_ | refine blk_alloc ?_ _)); exact BK123.out⟩, ⟨by repeat (first | (with_reducible first | exact HB.out | apply below_alloc | apply pw_below_drewN | apply below_drew1 | refine below_set ?_ GE123.out) | exact HB.out)⟩⟩
              case rest =>
                clear HC30
                try clear c1
                try clear c2
                try clear p2
                try clear c3
                try clear c6
                try clear c6b0
                try clear c6b1
                try clear c17
                try clear c17b0
                try clear c17b1
                try clear c18
                try clear c18b0
                try clear c18b1
                try clear c19
                try clear c19b0
                try clear c19b1
                try clear c24
                try clear c26
                try clear c26b0
                try clear c26b1
                try clear c31
                try clear hcz13_0
                try clear hcz13_1
                try clear hcz28_0
                try clear hcz28_1
                try clear hfz13_0
                try clear hfz13_1
                try clear hfz28_0
                try clear hfz28_1
                try clear p2
                obtain ⟨kq, x14_29, rfl, HA, HJ29, HO_15, BK123, HB⟩ := hcut
                cases kq with
                | zero => exact absurd HA.out (by simp [terrlaw5_FontTells.j2])
                | succ kj29 =>
                  have H := HA.out
                  clear HA
                  simp only [terrlaw5_FontTells.j2] at H
                  by_cases c32 : x14_29 = 0
                  · rw [if_pos c32] at H
                    have c32b0 : (x14_29 == 0) = true := beq_iff_eq.mpr c32
                    have c32b1 : (x14_29 != 0) = false := bne_eq_false_iff_eq.mpr c32
                    clear c32
                    have HC33 := Aside0.mk H
                    clear H
                    go_upto_region 12 with (fail)
                    repeat (go_quiet (fail); go_upto_region 12 with (fail))
                    go_cut [86] (fun v86 wc => ∃ (kq : Nat) (x86_32 : Bool), v86 = .bool x86_32 ∧ Aside0 (terrlaw5_FontTells.j3 kq t125 t126 t131 x86_32 a3_0 a3_1 = some r) ∧ Aside0 (kq ≤ kj29) ∧ Aside0 (Kd.R k44 44 wc w.heap.size (fun _ => True) v132 t131) ∧ Aside0 (wc.heap[gb123]? = some (.cells #[.int .i64 a3_0, .int .i64 a3_1] 31 (0, 0))) ∧ Aside0 (Below w.heap.size w wc))
                    case first =>
                      have H := HC33.out
                      clear HC33
                      by_cases c34 : t134 = 0
                      · rw [if_pos c34] at H
                        have c34b0 : (t134 == 0) = true := beq_iff_eq.mpr c34
                        have c34b1 : (t134 != 0) = false := bne_eq_false_iff_eq.mpr c34
                        clear c34
                        (first | rw [c34b0] | (simp only [i64_w, i32_w]; rw [c34b0]) | skip)
                        have H' := Aside0.mk H
                        clear H
                        obtain ⟨Ao35, co35, eo35⟩ := Kd.R_slice HO_15.out
                        subst eo35
                        go_wp2
                        repeat (go_quiet (fail); try go_wp2)
                        go_meet
                        case rel => exact ⟨_, (((t131.length : Int) != 5)), (by first | rfl | (simp; done) | (simp [*]; done)), H', ⟨by have := HJ9.out; have := HJ24.out; have := HJ29.out; first | omega | exact Nat.le_refl _⟩, ⟨by (with_reducible repeat (first | apply Kd.R_alloc | apply Kd.R_drewN | apply Kd.R_drew)); exact HO_15.out⟩, ⟨by (with_reducible repeat (first | refine blk_drewN ?_ _ | refine blk_drew ?_ | refine blk_alloc ?_ _)); exact BK123.out⟩, ⟨by repeat (first | (with_reducible first | exact HB.out | apply below_alloc | apply pw_below_drewN | apply below_drew1 | refine below_set ?_ GE123.out) | exact HB.out)⟩⟩
                      · rw [if_neg c34] at H
                        have c34b0 : (t134 == 0) = false := beq_eq_false_iff_ne.mpr c34
                        have c34b1 : (t134 != 0) = true := bne_iff_ne.mpr c34
                        (first | rw [c34b0] | (simp only [i64_w, i32_w]; rw [c34b0]) | skip)
                        have H' := Aside0.mk H
                        clear H
                        go_wp2
                        repeat (go_quiet (fail); try go_wp2)
                        go_meet
                        case rel => exact ⟨_, (true), (by first | rfl | (simp; done) | (simp [*]; done)), H', ⟨by have := HJ9.out; have := HJ24.out; have := HJ29.out; first | omega | exact Nat.le_refl _⟩, ⟨by (with_reducible repeat (first | apply Kd.R_alloc | apply Kd.R_drewN | apply Kd.R_drew)); exact HO_15.out⟩, ⟨by (with_reducible repeat (first | refine blk_drewN ?_ _ | refine blk_drew ?_ | refine blk_alloc ?_ _)); exact BK123.out⟩, ⟨by repeat (first | (with_reducible first | exact HB.out | apply below_alloc | apply pw_below_drewN | apply below_drew1 | refine below_set ?_ GE123.out) | exact HB.out)⟩⟩
                    case rest =>
                      clear HC33
                      try clear c1
                      try clear c2
                      try clear p2
                      try clear c3
                      try clear c6
                      try clear c6b0
                      try clear c6b1
                      try clear c17
                      try clear c17b0
                      try clear c17b1
                      try clear c18
                      try clear c18b0
                      try clear c18b1
                      try clear c19
                      try clear c19b0
                      try clear c19b1
                      try clear c24
                      try clear c26
                      try clear c26b0
                      try clear c26b1
                      try clear c31
                      try clear c32
                      try clear c32b0
                      try clear c32b1
                      try clear c34
                      try clear c34b0
                      try clear c34b1
                      try clear hcz13_0
                      try clear hcz13_1
                      try clear hcz28_0
                      try clear hcz28_1
                      try clear hfz13_0
                      try clear hfz13_1
                      try clear hfz28_0
                      try clear hfz28_1
                      try clear p2
                      obtain ⟨kq, x86_32, rfl, HA, HJ32, HO_15, BK123, HB⟩ := hcut
                      cases kq with
                      | zero => exact absurd HA.out (by simp [terrlaw5_FontTells.j3])
                      | succ kj32 =>
                        have H := HA.out
                        clear HA
                        simp only [terrlaw5_FontTells.j3] at H
                        by_cases c36 : x86_32 = true
                        · subst c36
                          have H1 : (some false) = some r := by rw [if_pos rfl] at H; exact H
                          clear H
                          have H := H1
                          clear H1
                          exact absurd (H.trans (congrArg some hr)) (by decide)
                        · replace c36 := Bool.eq_false_iff.mpr c36
                          subst c36
                          have H1 : ((some (([(⟨2, 2⟩ : S31), (⟨2, wrap64 ((-2) - t126)⟩ : S31), (⟨wrap64 ((-2) - t125), 2⟩ : S31), (⟨wrap64 ((-2) - t125), wrap64 ((-2) - t126)⟩ : S31), (⟨wrap64 (-(wrap64 (Int.tdiv t125 2))), 2⟩ : S31)] : List (S31)) : List (S31))).bind fun y138 => (terrlaw5_FontTells.l0 kj32 t125 t126 t131 y138 (y138.length : Int) 0 a3_0 a3_1)) = some r := by rw [if_neg (show ¬ (false = true) by decide)] at H; exact H
                          clear H
                          have H := H1
                          clear H1
                          obtain ⟨y138, hy138⟩ : ∃ y_ : List (S31), y_ = (([(⟨2, 2⟩ : S31), (⟨2, wrap64 ((-2) - t126)⟩ : S31), (⟨wrap64 ((-2) - t125), 2⟩ : S31), (⟨wrap64 ((-2) - t125), wrap64 ((-2) - t126)⟩ : S31), (⟨wrap64 (-(wrap64 (Int.tdiv t125 2))), 2⟩ : S31)] : List (S31))) := ⟨_, rfl⟩
                          replace H : (terrlaw5_FontTells.l0 kj32 t125 t126 t131 y138 (y138.length : Int) 0 a3_0 a3_1) = some r := by first | (rw [hy138]; with_reducible exact H) | (have H2_ := (Option.bind_some _ _).symm.trans H; rw [hy138]; with_reducible exact H2_) | (have H2_ := (Option.bind_some _ _).symm.trans H; with_reducible exact H2_) | with_reducible exact H | (rw [hy138]; exact H) | exact H
                          have Ny138 := Aside0.mk hy138
                          clear hy138
                          have H' := Aside0.mk H
                          clear H
                          go_wp2_with (first | ((with_reducible refine gate_dst (N := 103) rfl ?_); (try (refine gate_guard (by rfl) ?_; dsimp only)); refine Kd.R_lit k31 _ 53 ?hg (N := 103) ?hd (xs := ([(⟨2, 2⟩ : S31), (⟨2, wrap64 ((-2) - t126)⟩ : S31), (⟨wrap64 ((-2) - t125), 2⟩ : S31), (⟨wrap64 ((-2) - t125), wrap64 ((-2) - t126)⟩ : S31), (⟨wrap64 (-(wrap64 (Int.tdiv t125 2))), 2⟩ : S31)] : List (S31))) (inner := [.int .i64 2, .int .i64 2, .int .i64 2, .int .i64 (wrap64 ((-2) - t126)), .int .i64 (wrap64 ((-2) - t125)), .int .i64 2, .int .i64 (wrap64 ((-2) - t125)), .int .i64 (wrap64 ((-2) - t126)), .int .i64 (wrap64 (-(wrap64 (Int.tdiv t125 2)))), .int .i64 2]) (ok := fun _ => True) (okp := fun _ => True) ?hr ?hp (fun _ hk => hk) trivial (Below.refl _ _) (Nat.le_refl _) (by simp) ?_; (case hd => rfl); (case hg => rfl); (case hr => first | (go_simp; done) | (go_simp; rfl)); (case hp => exact (Reps.c2 (show Kd.M k31 _ _ _ (⟨2, 2⟩ : S31) [.int .i64 2, .int .i64 2] from (k31_mkM _ _ _ (⟨2, 2⟩ : S31) )) (Reps.c2 (show Kd.M k31 _ _ _ (⟨2, wrap64 ((-2) - t126)⟩ : S31) [.int .i64 2, .int .i64 (wrap64 ((-2) - t126))] from (k31_mkM _ _ _ (⟨2, wrap64 ((-2) - t126)⟩ : S31) )) (Reps.c2 (show Kd.M k31 _ _ _ (⟨wrap64 ((-2) - t125), 2⟩ : S31) [.int .i64 (wrap64 ((-2) - t125)), .int .i64 2] from (k31_mkM _ _ _ (⟨wrap64 ((-2) - t125), 2⟩ : S31) )) (Reps.c2 (show Kd.M k31 _ _ _ (⟨wrap64 ((-2) - t125), wrap64 ((-2) - t126)⟩ : S31) [.int .i64 (wrap64 ((-2) - t125)), .int .i64 (wrap64 ((-2) - t126))] from (k31_mkM _ _ _ (⟨wrap64 ((-2) - t125), wrap64 ((-2) - t126)⟩ : S31) )) (Reps.c2 (show Kd.M k31 _ _ _ (⟨wrap64 (-(wrap64 (Int.tdiv t125 2))), 2⟩ : S31) [.int .i64 (wrap64 (-(wrap64 (Int.tdiv t125 2)))), .int .i64 2] from (k31_mkM _ _ _ (⟨wrap64 (-(wrap64 (Int.tdiv t125 2))), 2⟩ : S31) )) (Reps.none _ _))))))); intro v139 w37 ho38 hb hg_ hnew_; clear hg_ hnew_; (first | rw [← Ny138.out] at ho38 | (simp only [Int.reduceToNat] at ho38; rw [← Ny138.out] at ho38)); have n0_ := Aside0.mk (Kd.R_below (by (with_reducible repeat (first | apply Kd.R_alloc | apply Kd.R_drewN | apply Kd.R_drew)); exact HO_15.out) hb); have n1_ := Aside0.mk (Kd.R_lower (Kd.R_newB ho38 (g := gb123) (o := .cells #[.int .i64 a3_0, .int .i64 a3_1] 31 (0, 0)) (by (with_reducible repeat (first | refine blk_drewN ?_ _ | refine blk_drew ?_ | refine blk_alloc ?_ _)); exact BK123.out)) (below_size (by repeat (first | (with_reducible first | exact HB.out | apply below_alloc | apply pw_below_drewN | apply below_drew1 | refine below_set ?_ GE123.out) | exact HB.out)))); have n2_ := Aside0.mk (blk_below (g := gb123) (o := .cells #[.int .i64 a3_0, .int .i64 a3_1] 31 (0, 0)) (by (with_reducible repeat (first | refine blk_drewN ?_ _ | refine blk_drew ?_ | refine blk_alloc ?_ _)); exact BK123.out) hb); have n3_ := Aside0.mk (below_step (by repeat (first | (with_reducible first | exact HB.out | apply below_alloc | apply pw_below_drewN | apply below_drew1 | refine below_set ?_ GE123.out) | exact HB.out)) hb); clear HO_15; clear BK123; clear HB; have HO_15 := n0_; have HO140 := n1_; have BK123 := n2_; have HB := n3_; clear n0_ n1_ n2_ n3_; clear hb ho38; obtain ⟨Ao39, co39, eo39⟩ := Kd.R_slice HO140.out; subst eo39))
                          repeat (go_quiet (first | ((with_reducible refine gate_dst (N := 103) rfl ?_); (try (refine gate_guard (by rfl) ?_; dsimp only)); refine Kd.R_lit k31 _ 53 ?hg (N := 103) ?hd (xs := ([(⟨2, 2⟩ : S31), (⟨2, wrap64 ((-2) - t126)⟩ : S31), (⟨wrap64 ((-2) - t125), 2⟩ : S31), (⟨wrap64 ((-2) - t125), wrap64 ((-2) - t126)⟩ : S31), (⟨wrap64 (-(wrap64 (Int.tdiv t125 2))), 2⟩ : S31)] : List (S31))) (inner := [.int .i64 2, .int .i64 2, .int .i64 2, .int .i64 (wrap64 ((-2) - t126)), .int .i64 (wrap64 ((-2) - t125)), .int .i64 2, .int .i64 (wrap64 ((-2) - t125)), .int .i64 (wrap64 ((-2) - t126)), .int .i64 (wrap64 (-(wrap64 (Int.tdiv t125 2)))), .int .i64 2]) (ok := fun _ => True) (okp := fun _ => True) ?hr ?hp (fun _ hk => hk) trivial (Below.refl _ _) (Nat.le_refl _) (by simp) ?_; (case hd => rfl); (case hg => rfl); (case hr => first | (go_simp; done) | (go_simp; rfl)); (case hp => exact (Reps.c2 (show Kd.M k31 _ _ _ (⟨2, 2⟩ : S31) [.int .i64 2, .int .i64 2] from (k31_mkM _ _ _ (⟨2, 2⟩ : S31) )) (Reps.c2 (show Kd.M k31 _ _ _ (⟨2, wrap64 ((-2) - t126)⟩ : S31) [.int .i64 2, .int .i64 (wrap64 ((-2) - t126))] from (k31_mkM _ _ _ (⟨2, wrap64 ((-2) - t126)⟩ : S31) )) (Reps.c2 (show Kd.M k31 _ _ _ (⟨wrap64 ((-2) - t125), 2⟩ : S31) [.int .i64 (wrap64 ((-2) - t125)), .int .i64 2] from (k31_mkM _ _ _ (⟨wrap64 ((-2) - t125), 2⟩ : S31) )) (Reps.c2 (show Kd.M k31 _ _ _ (⟨wrap64 ((-2) - t125), wrap64 ((-2) - t126)⟩ : S31) [.int .i64 (wrap64 ((-2) - t125)), .int .i64 (wrap64 ((-2) - t126))] from (k31_mkM _ _ _ (⟨wrap64 ((-2) - t125), wrap64 ((-2) - t126)⟩ : S31) )) (Reps.c2 (show Kd.M k31 _ _ _ (⟨wrap64 (-(wrap64 (Int.tdiv t125 2))), 2⟩ : S31) [.int .i64 (wrap64 (-(wrap64 (Int.tdiv t125 2)))), .int .i64 2] from (k31_mkM _ _ _ (⟨wrap64 (-(wrap64 (Int.tdiv t125 2))), 2⟩ : S31) )) (Reps.none _ _))))))); intro v139 w37 ho38 hb hg_ hnew_; clear hg_ hnew_; (first | rw [← Ny138.out] at ho38 | (simp only [Int.reduceToNat] at ho38; rw [← Ny138.out] at ho38)); have n0_ := Aside0.mk (Kd.R_below (by (with_reducible repeat (first | apply Kd.R_alloc | apply Kd.R_drewN | apply Kd.R_drew)); exact HO_15.out) hb); have n1_ := Aside0.mk (Kd.R_lower (Kd.R_newB ho38 (g := gb123) (o := .cells #[.int .i64 a3_0, .int .i64 a3_1] 31 (0, 0)) (by (with_reducible repeat (first | refine blk_drewN ?_ _ | refine blk_drew ?_ | refine blk_alloc ?_ _)); exact BK123.out)) (below_size (by repeat (first | (with_reducible first | exact HB.out | apply below_alloc | apply pw_below_drewN | apply below_drew1 | refine below_set ?_ GE123.out) | exact HB.out)))); have n2_ := Aside0.mk (blk_below (g := gb123) (o := .cells #[.int .i64 a3_0, .int .i64 a3_1] 31 (0, 0)) (by (with_reducible repeat (first | refine blk_drewN ?_ _ | refine blk_drew ?_ | refine blk_alloc ?_ _)); exact BK123.out) hb); have n3_ := Aside0.mk (below_step (by repeat (first | (with_reducible first | exact HB.out | apply below_alloc | apply pw_below_drewN | apply below_drew1 | refine below_set ?_ GE123.out) | exact HB.out)) hb); clear HO_15; clear BK123; clear HB; have HO_15 := n0_; have HO140 := n1_; have BK123 := n2_; have HB := n3_; clear n0_ n1_ n2_ n3_; clear hb ho38; obtain ⟨Ao39, co39, eo39⟩ := Kd.R_slice HO140.out; subst eo39)); try go_wp2_with (first | ((with_reducible refine gate_dst (N := 103) rfl ?_); (try (refine gate_guard (by rfl) ?_; dsimp only)); refine Kd.R_lit k31 _ 53 ?hg (N := 103) ?hd (xs := ([(⟨2, 2⟩ : S31), (⟨2, wrap64 ((-2) - t126)⟩ : S31), (⟨wrap64 ((-2) - t125), 2⟩ : S31), (⟨wrap64 ((-2) - t125), wrap64 ((-2) - t126)⟩ : S31), (⟨wrap64 (-(wrap64 (Int.tdiv t125 2))), 2⟩ : S31)] : List (S31))) (inner := [.int .i64 2, .int .i64 2, .int .i64 2, .int .i64 (wrap64 ((-2) - t126)), .int .i64 (wrap64 ((-2) - t125)), .int .i64 2, .int .i64 (wrap64 ((-2) - t125)), .int .i64 (wrap64 ((-2) - t126)), .int .i64 (wrap64 (-(wrap64 (Int.tdiv t125 2)))), .int .i64 2]) (ok := fun _ => True) (okp := fun _ => True) ?hr ?hp (fun _ hk => hk) trivial (Below.refl _ _) (Nat.le_refl _) (by simp) ?_; (case hd => rfl); (case hg => rfl); (case hr => first | (go_simp; done) | (go_simp; rfl)); (case hp => exact (Reps.c2 (show Kd.M k31 _ _ _ (⟨2, 2⟩ : S31) [.int .i64 2, .int .i64 2] from (k31_mkM _ _ _ (⟨2, 2⟩ : S31) )) (Reps.c2 (show Kd.M k31 _ _ _ (⟨2, wrap64 ((-2) - t126)⟩ : S31) [.int .i64 2, .int .i64 (wrap64 ((-2) - t126))] from (k31_mkM _ _ _ (⟨2, wrap64 ((-2) - t126)⟩ : S31) )) (Reps.c2 (show Kd.M k31 _ _ _ (⟨wrap64 ((-2) - t125), 2⟩ : S31) [.int .i64 (wrap64 ((-2) - t125)), .int .i64 2] from (k31_mkM _ _ _ (⟨wrap64 ((-2) - t125), 2⟩ : S31) )) (Reps.c2 (show Kd.M k31 _ _ _ (⟨wrap64 ((-2) - t125), wrap64 ((-2) - t126)⟩ : S31) [.int .i64 (wrap64 ((-2) - t125)), .int .i64 (wrap64 ((-2) - t126))] from (k31_mkM _ _ _ (⟨wrap64 ((-2) - t125), wrap64 ((-2) - t126)⟩ : S31) )) (Reps.c2 (show Kd.M k31 _ _ _ (⟨wrap64 (-(wrap64 (Int.tdiv t125 2))), 2⟩ : S31) [.int .i64 (wrap64 (-(wrap64 (Int.tdiv t125 2)))), .int .i64 2] from (k31_mkM _ _ _ (⟨wrap64 (-(wrap64 (Int.tdiv t125 2))), 2⟩ : S31) )) (Reps.none _ _))))))); intro v139 w37 ho38 hb hg_ hnew_; clear hg_ hnew_; (first | rw [← Ny138.out] at ho38 | (simp only [Int.reduceToNat] at ho38; rw [← Ny138.out] at ho38)); have n0_ := Aside0.mk (Kd.R_below (by (with_reducible repeat (first | apply Kd.R_alloc | apply Kd.R_drewN | apply Kd.R_drew)); exact HO_15.out) hb); have n1_ := Aside0.mk (Kd.R_lower (Kd.R_newB ho38 (g := gb123) (o := .cells #[.int .i64 a3_0, .int .i64 a3_1] 31 (0, 0)) (by (with_reducible repeat (first | refine blk_drewN ?_ _ | refine blk_drew ?_ | refine blk_alloc ?_ _)); exact BK123.out)) (below_size (by repeat (first | (with_reducible first | exact HB.out | apply below_alloc | apply pw_below_drewN | apply below_drew1 | refine below_set ?_ GE123.out) | exact HB.out)))); have n2_ := Aside0.mk (blk_below (g := gb123) (o := .cells #[.int .i64 a3_0, .int .i64 a3_1] 31 (0, 0)) (by (with_reducible repeat (first | refine blk_drewN ?_ _ | refine blk_drew ?_ | refine blk_alloc ?_ _)); exact BK123.out) hb); have n3_ := Aside0.mk (below_step (by repeat (first | (with_reducible first | exact HB.out | apply below_alloc | apply pw_below_drewN | apply below_drew1 | refine below_set ?_ GE123.out) | exact HB.out)) hb); clear HO_15; clear BK123; clear HB; have HO_15 := n0_; have HO140 := n1_; have BK123 := n2_; have HB := n3_; clear n0_ n1_ n2_ n3_; clear hb ho38; obtain ⟨Ao39, co39, eo39⟩ := Kd.R_slice HO140.out; subst eo39)))
                          go_loopg [105] kj32 (fun kq v105 w' => ∃ (x105_5 : Int), v105 = .int .i64 x105_5 ∧ Aside0 (terrlaw5_FontTells.l0 kq t125 t126 t131 y138 (y138.length : Int) x105_5 a3_0 a3_1 = some r) ∧ Aside0 (kq ≤ kj32) ∧ Aside0 (Kd.R k44 44 w' w.heap.size (fun _ => True) v132 t131) ∧ Aside0 (Kd.R k31 53 w' w.heap.size (fun k_ => k_ ≠ gb123) (.slice Ao39 y138.length co39) y138) ∧ Aside0 (w'.heap[gb123]? = some (.cells #[.int .i64 a3_0, .int .i64 a3_1] 31 (0, 0))) ∧ Aside0 (Below w.heap.size w w'))
                          case atStart => exact ⟨(0), (by first | rfl | (simp; done) | (simp [*]; done)), H', ⟨Nat.le_refl _⟩, ⟨by (with_reducible repeat (first | apply Kd.R_alloc | apply Kd.R_drewN | apply Kd.R_drew)); exact HO_15.out⟩, ⟨by (with_reducible repeat (first | apply Kd.R_alloc | apply Kd.R_drewN | apply Kd.R_drew)); exact Kd.R_mono HO140.out (fun _ hk => hk.2)⟩, ⟨by (with_reducible repeat (first | refine blk_drewN ?_ _ | refine blk_drew ?_ | refine blk_alloc ?_ _)); exact BK123.out⟩, ⟨by repeat (first | (with_reducible first | exact HB.out | apply below_alloc | apply pw_below_drewN | apply below_drew1 | refine below_set ?_ GE123.out) | exact HB.out)⟩⟩
                          case round =>
                            clear H'
                            try clear c1
                            try clear c2
                            try clear p2
                            try clear c3
                            try clear c6
                            try clear c6b0
                            try clear c6b1
                            try clear p6
                            try clear c17
                            try clear c17b0
                            try clear c17b1
                            try clear c18
                            try clear c18b0
                            try clear c18b1
                            try clear c19
                            try clear c19b0
                            try clear c19b1
                            try clear c24
                            try clear c26
                            try clear c26b0
                            try clear c26b1
                            try clear c31
                            try clear c32
                            try clear c32b0
                            try clear c32b1
                            try clear c34
                            try clear c34b0
                            try clear c34b1
                            try clear c36
                            try clear hcz13_0
                            try clear hcz13_1
                            try clear hcz28_0
                            try clear hcz28_1
                            try clear hfz13_0
                            try clear hfz13_1
                            try clear hfz28_0
                            try clear hfz28_1
                            try clear p2
                            obtain ⟨x105_5, rfl, HA, HK5, HO_15, HO_103, BK123, HB⟩ := hrel
                            cases gk with
                            | zero => exact absurd HA.out (by simp [terrlaw5_FontTells.l0])
                            | succ k5 =>
                              have H := HA.out
                              clear HA
                              simp only [terrlaw5_FontTells.l0] at H
                              by_cases c40 : x105_5 < (y138.length : Int)
                              · rw [if_pos c40] at H
                                have c40b0 : decide (x105_5 < (y138.length : Int)) = true := decide_eq_true c40
                                clear c40
                                by_cases c41 : 0 ≤ x105_5
                                · rw [if_pos c41] at H
                                  have c41b0 : decide (0 ≤ x105_5) = true := decide_eq_true c41
                                  clear c41
                                  by_cases c42 : x105_5 < (y138.length : Int)
                                  · rw [if_pos c42] at H
                                    have c42b0 : decide (x105_5 < (y138.length : Int)) = true := decide_eq_true c42
                                    clear c42
                                    by_cases c43 : x105_5 < (t131.length : Int)
                                    · rw [if_pos c43] at H
                                      have c43b0 : decide (x105_5 < (t131.length : Int)) = true := decide_eq_true c43
                                      clear c43
                                      by_cases c44 : ((!(((rd_T44 t131 x105_5).f0.f0) == (wrap64 (a3_0 + ((rd_T31 y138 x105_5).f0)))) || (!(((rd_T44 t131 x105_5).f0.f1) == (wrap64 (a3_1 + ((rd_T31 y138 x105_5).f1)))))) || ((!(((rd_T44 t131 x105_5).f1.f0) == (wrap64 ((wrap64 (a3_0 + ((rd_T31 y138 x105_5).f0))) + t125))) || (!(((rd_T44 t131 x105_5).f1.f1) == (wrap64 ((wrap64 (a3_1 + ((rd_T31 y138 x105_5).f1))) + t126))))))) = true
                                      · rw [if_pos c44] at H
                                        have c44b0 : ((!(((rd_T44 t131 x105_5).f0.f0) == (wrap64 (a3_0 + ((rd_T31 y138 x105_5).f0)))) || (!(((rd_T44 t131 x105_5).f0.f1) == (wrap64 (a3_1 + ((rd_T31 y138 x105_5).f1)))))) || ((!(((rd_T44 t131 x105_5).f1.f0) == (wrap64 ((wrap64 (a3_0 + ((rd_T31 y138 x105_5).f0))) + t125))) || (!(((rd_T44 t131 x105_5).f1.f1) == (wrap64 ((wrap64 (a3_1 + ((rd_T31 y138 x105_5).f1))) + t126))))))) = true := c44
                                        clear c44
                                        exact absurd (H.trans (congrArg some hr)) (by decide)
                                      · rw [if_neg c44] at H
                                        have c44b0 : ((!(((rd_T44 t131 x105_5).f0.f0) == (wrap64 (a3_0 + ((rd_T31 y138 x105_5).f0)))) || (!(((rd_T44 t131 x105_5).f0.f1) == (wrap64 (a3_1 + ((rd_T31 y138 x105_5).f1)))))) || ((!(((rd_T44 t131 x105_5).f1.f0) == (wrap64 ((wrap64 (a3_0 + ((rd_T31 y138 x105_5).f0))) + t125))) || (!(((rd_T44 t131 x105_5).f1.f1) == (wrap64 ((wrap64 (a3_1 + ((rd_T31 y138 x105_5).f1))) + t126))))))) = false := by simpa using c44
                                        clear c44
                                        have H' := Aside0.mk H
                                        clear H
                                        have p141 : 0 ≤ (x105_5 : Int) := of_decide_eq_true (by first | (with_reducible assumption) | assumption)
                                        have q141 : x105_5 < (y138.length : Int) := of_decide_eq_true (by first | (with_reducible assumption) | assumption)
                                        obtain ⟨ad141, e141, hx141_0, hx141_1⟩ := at_T31 (Kd.R_reads' HO_103.out).2.2 x105_5 p141 q141
                                        cases e141
                                        replace p141 := eq_true p141
                                        replace q141 := eq_true q141
                                        go_wp2_with (first | ((with_reducible refine gate_dst (N := 18) rfl ?_); (try (refine gate_guard (by rfl) ?_; dsimp only)); refine box_event ?hg (N := 18) ?hd (cs := #[.int .i64 0, .int .i64 0]) (t := 53) ?hr ?_; (case hd => rfl); (case hg => rfl); (case hr => first | (go_simp; done) | (go_simp; rfl)); intro gb142 hg w45 hbox hb; have n0_ := Aside0.mk (Kd.R_below (by (with_reducible repeat (first | apply Kd.R_alloc | apply Kd.R_drewN | apply Kd.R_drew)); exact HO_15.out) hb); have n1_ := Aside0.mk (Kd.R_below (Kd.R_elderB (by (with_reducible repeat (first | apply Kd.R_alloc | apply Kd.R_drewN | apply Kd.R_drew)); exact HO_103.out) gb142 (Nat.le_of_eq hg.symm)) hb); have n2_ := Aside0.mk (blk_below (g := gb123) (o := .cells #[.int .i64 a3_0, .int .i64 a3_1] 31 (0, 0)) (by (with_reducible repeat (first | refine blk_drewN ?_ _ | refine blk_drew ?_ | refine blk_alloc ?_ _)); exact BK123.out) hb); have n3_ := Aside0.mk (below_step (by repeat (first | (with_reducible first | exact HB.out | apply below_alloc | apply pw_below_drewN | apply below_drew1 | refine below_set ?_ GE123.out) | exact HB.out)) hb); have n4_ := Aside0.mk (hbox); have n5_ := Aside0.mk ((by rw [hg]; exact (below_size (by repeat (first | (with_reducible first | exact HB.out | apply below_alloc | apply pw_below_drewN | apply below_drew1 | refine below_set ?_ GE123.out) | exact HB.out))) : w.heap.size ≤ gb142)); have n6_ := Aside0.mk ((by rw [hg]; exact (below_size (by repeat (first | (with_reducible first | exact HB.out | apply below_alloc | apply pw_below_drewN | apply below_drew1 | refine below_set ?_ GE123.out) | exact HB.out))) : w.heap.size ≤ gb142)); have n7_ := Aside0.mk ((by rw [hg]; exact Nat.ne_of_lt (blk_lt (g := gb123) (o := .cells #[.int .i64 a3_0, .int .i64 a3_1] 31 (0, 0)) (by (with_reducible repeat (first | refine blk_drewN ?_ _ | refine blk_drew ?_ | refine blk_alloc ?_ _)); exact BK123.out)) : gb123 ≠ gb142)); have n8_ := Aside0.mk ((by rw [hg]; exact Nat.ne_of_gt (blk_lt (g := gb123) (o := .cells #[.int .i64 a3_0, .int .i64 a3_1] 31 (0, 0)) (by (with_reducible repeat (first | refine blk_drewN ?_ _ | refine blk_drew ?_ | refine blk_alloc ?_ _)); exact BK123.out)) : gb142 ≠ gb123)); clear HO_15; clear HO_103; clear BK123; clear HB; have HO_15 := n0_; have HO_103 := n1_; have BK123 := n2_; have HB := n3_; have BK142 := n4_; have GW142 := n5_; have GE142 := n6_; have NB123_142 := n7_; have NB142_123 := n8_; clear n0_ n1_ n2_ n3_ n4_ n5_ n6_ n7_ n8_; clear hb hbox hg; have hnb46 := NB142_123.out; have hnc46 := NB123_142.out; have hcz47_0 : w45.cell? ⟨gb142, 0, none⟩ = some (.int .i64 0) := (blk_cell BK142.out 0).trans rfl; have hcz47_1 : w45.cell? ⟨gb142, 1, none⟩ = some (.int .i64 0) := (blk_cell BK142.out 1).trans rfl; have hfz47_0 := blk_frozen BK142.out 0; have hfz47_1 := blk_frozen BK142.out 1; have hcz48_0 : w45.cell? ⟨gb123, 0, none⟩ = some (.int .i64 a3_0) := (blk_cell BK123.out 0).trans rfl; have hcz48_1 : w45.cell? ⟨gb123, 1, none⟩ = some (.int .i64 a3_1) := (blk_cell BK123.out 1).trans rfl; have hfz48_0 := blk_frozen BK123.out 0; have hfz48_1 := blk_frozen BK123.out 1) | ((with_reducible refine gate_dst (N := 19) rfl ?_); (try (refine gate_guard (by rfl) ?_; dsimp only)); refine box_event ?hg (N := 19) ?hd (cs := #[.int .i64 0, .int .i64 0]) (t := 31) ?hr ?_; (case hd => rfl); (case hg => rfl); (case hr => first | (go_simp; done) | (go_simp; rfl)); intro gb143 hg w49 hbox hb; have n0_ := Aside0.mk (Kd.R_below (by (with_reducible repeat (first | apply Kd.R_alloc | apply Kd.R_drewN | apply Kd.R_drew)); exact (Kd.R_mono (Kd.R_far (p := ⟨gb142, 1, none⟩) (Kd.R_far (p := ⟨gb142, 0, none⟩) (Kd.R_types HO_15.out BK142.out (by decide)) (fun _ hk => hk.2) (.int .i64 ((rd_T31 y138 x105_5).f0))) (fun _ hk => hk.2) (.int .i64 ((rd_T31 y138 x105_5).f1))) (fun _ h_ => h_.1))) hb); have n1_ := Aside0.mk (Kd.R_below (Kd.R_elderB (by (with_reducible repeat (first | apply Kd.R_alloc | apply Kd.R_drewN | apply Kd.R_drew)); exact (Kd.R_mono (Kd.R_far (p := ⟨gb142, 1, none⟩) (Kd.R_far (p := ⟨gb142, 0, none⟩) (Kd.R_mono HO_103.out (fun k_ hk => (⟨hk, hk.2⟩ : _ ∧ k_ ≠ gb142))) (fun _ hk => hk.2) (.int .i64 ((rd_T31 y138 x105_5).f0))) (fun _ hk => hk.2) (.int .i64 ((rd_T31 y138 x105_5).f1))) (fun _ h_ => h_.1))) gb143 (Nat.le_of_eq hg.symm)) hb); have n2_ := Aside0.mk (blk_below (g := gb123) (o := .cells #[.int .i64 a3_0, .int .i64 a3_1] 31 (0, 0)) (by (with_reducible repeat (first | refine blk_drewN ?_ _ | refine blk_drew ?_ | refine blk_alloc ?_ _)); refine blk_far ?_ NB123_142.out _; (with_reducible repeat (first | refine blk_drewN ?_ _ | refine blk_drew ?_ | refine blk_alloc ?_ _)); refine blk_far ?_ NB123_142.out _; (with_reducible repeat (first | refine blk_drewN ?_ _ | refine blk_drew ?_ | refine blk_alloc ?_ _)); exact BK123.out) hb); have n3_ := Aside0.mk (blk_below (g := gb142) (o := .cells #[.int .i64 ((rd_T31 y138 x105_5).f0), .int .i64 ((rd_T31 y138 x105_5).f1)] 53 (0, 0)) (by (with_reducible repeat (first | refine blk_drewN ?_ _ | refine blk_drew ?_ | refine blk_alloc ?_ _)); refine blk_put (cs := #[.int .i64 ((rd_T31 y138 x105_5).f0), .int .i64 0]) ?_ 1 _ rfl; (with_reducible repeat (first | refine blk_drewN ?_ _ | refine blk_drew ?_ | refine blk_alloc ?_ _)); refine blk_put (cs := #[.int .i64 0, .int .i64 0]) ?_ 0 _ rfl; (with_reducible repeat (first | refine blk_drewN ?_ _ | refine blk_drew ?_ | refine blk_alloc ?_ _)); exact BK142.out) hb); have n4_ := Aside0.mk (below_step (by repeat (first | (with_reducible first | exact HB.out | apply below_alloc | apply pw_below_drewN | apply below_drew1 | refine below_set ?_ GE123.out | refine below_set ?_ GE142.out) | exact HB.out)) hb); have n5_ := Aside0.mk (hbox); have n6_ := Aside0.mk ((by rw [hg]; exact (below_size (by repeat (first | (with_reducible first | exact HB.out | apply below_alloc | apply pw_below_drewN | apply below_drew1 | refine below_set ?_ GE123.out | refine below_set ?_ GE142.out) | exact HB.out))) : w.heap.size ≤ gb143)); have n7_ := Aside0.mk ((by rw [hg]; exact (below_size (by repeat (first | (with_reducible first | exact HB.out | apply below_alloc | apply pw_below_drewN | apply below_drew1 | refine below_set ?_ GE123.out | refine below_set ?_ GE142.out) | exact HB.out))) : w.heap.size ≤ gb143)); have n8_ := Aside0.mk ((by rw [hg]; exact Nat.ne_of_lt (blk_lt (g := gb123) (o := .cells #[.int .i64 a3_0, .int .i64 a3_1] 31 (0, 0)) (by (with_reducible repeat (first | refine blk_drewN ?_ _ | refine blk_drew ?_ | refine blk_alloc ?_ _)); refine blk_far ?_ NB123_142.out _; (with_reducible repeat (first | refine blk_drewN ?_ _ | refine blk_drew ?_ | refine blk_alloc ?_ _)); refine blk_far ?_ NB123_142.out _; (with_reducible repeat (first | refine blk_drewN ?_ _ | refine blk_drew ?_ | refine blk_alloc ?_ _)); exact BK123.out)) : gb123 ≠ gb143)); have n9_ := Aside0.mk ((by rw [hg]; exact Nat.ne_of_gt (blk_lt (g := gb123) (o := .cells #[.int .i64 a3_0, .int .i64 a3_1] 31 (0, 0)) (by (with_reducible repeat (first | refine blk_drewN ?_ _ | refine blk_drew ?_ | refine blk_alloc ?_ _)); refine blk_far ?_ NB123_142.out _; (with_reducible repeat (first | refine blk_drewN ?_ _ | refine blk_drew ?_ | refine blk_alloc ?_ _)); refine blk_far ?_ NB123_142.out _; (with_reducible repeat (first | refine blk_drewN ?_ _ | refine blk_drew ?_ | refine blk_alloc ?_ _)); exact BK123.out)) : gb143 ≠ gb123)); have n10_ := Aside0.mk ((by rw [hg]; exact Nat.ne_of_lt (blk_lt (g := gb142) (o := .cells #[.int .i64 ((rd_T31 y138 x105_5).f0), .int .i64 ((rd_T31 y138 x105_5).f1)] 53 (0, 0)) (by (with_reducible repeat (first | refine blk_drewN ?_ _ | refine blk_drew ?_ | refine blk_alloc ?_ _)); refine blk_put (cs := #[.int .i64 ((rd_T31 y138 x105_5).f0), .int .i64 0]) ?_ 1 _ rfl; (with_reducible repeat (first | refine blk_drewN ?_ _ | refine blk_drew ?_ | refine blk_alloc ?_ _)); refine blk_put (cs := #[.int .i64 0, .int .i64 0]) ?_ 0 _ rfl; (with_reducible repeat (first | refine blk_drewN ?_ _ | refine blk_drew ?_ | refine blk_alloc ?_ _)); exact BK142.out)) : gb142 ≠ gb143)); have n11_ := Aside0.mk ((by rw [hg]; exact Nat.ne_of_gt (blk_lt (g := gb142) (o := .cells #[.int .i64 ((rd_T31 y138 x105_5).f0), .int .i64 ((rd_T31 y138 x105_5).f1)] 53 (0, 0)) (by (with_reducible repeat (first | refine blk_drewN ?_ _ | refine blk_drew ?_ | refine blk_alloc ?_ _)); refine blk_put (cs := #[.int .i64 ((rd_T31 y138 x105_5).f0), .int .i64 0]) ?_ 1 _ rfl; (with_reducible repeat (first | refine blk_drewN ?_ _ | refine blk_drew ?_ | refine blk_alloc ?_ _)); refine blk_put (cs := #[.int .i64 0, .int .i64 0]) ?_ 0 _ rfl; (with_reducible repeat (first | refine blk_drewN ?_ _ | refine blk_drew ?_ | refine blk_alloc ?_ _)); exact BK142.out)) : gb143 ≠ gb142)); clear HO_15; clear HO_103; clear BK123; clear BK142; clear HB; have HO_15 := n0_; have HO_103 := n1_; have BK123 := n2_; have BK142 := n3_; have HB := n4_; have BK143 := n5_; have GW143 := n6_; have GE143 := n7_; have NB123_143 := n8_; have NB143_123 := n9_; have NB142_143 := n10_; have NB143_142 := n11_; clear n0_ n1_ n2_ n3_ n4_ n5_ n6_ n7_ n8_ n9_ n10_ n11_; clear hb hbox hg; have hnb50 := NB143_123.out; have hnc50 := NB123_143.out; have hnb51 := NB143_142.out; have hnc51 := NB142_143.out; have hcz52_0 : w49.cell? ⟨gb143, 0, none⟩ = some (.int .i64 0) := (blk_cell BK143.out 0).trans rfl; have hcz52_1 : w49.cell? ⟨gb143, 1, none⟩ = some (.int .i64 0) := (blk_cell BK143.out 1).trans rfl; have hfz52_0 := blk_frozen BK143.out 0; have hfz52_1 := blk_frozen BK143.out 1; obtain ⟨Ao53, co53, eo53⟩ := Kd.R_slice HO_15.out; subst eo53; have p144 : 0 ≤ (x105_5 : Int) := of_decide_eq_true (by first | (with_reducible assumption) | assumption); have q144 : x105_5 < (t131.length : Int) := of_decide_eq_true (by first | (with_reducible assumption) | assumption); obtain ⟨ad144, e144, hx144_0, hx144_1, hx144_2, hx144_3⟩ := at_T44 (Kd.R_reads' HO_15.out).2.2 x105_5 p144 q144; cases e144; have hn144_0 : ad144.block ≠ gb143 := Kd.own_blk (Kd.R_ne HO_15.out BK143.out (by decide)); have hn144_1 : ad144.block ≠ gb143 := Kd.own_blk (Kd.R_ne HO_15.out BK143.out (by decide)); replace hx144_0 := (cell_far (p := ⟨gb143, 0, none⟩) (by first | (rw [add_block]; exact hn144_0) | (show (Addr.add _ _).block ≠ _; rw [add_block]; exact hn144_0) | exact hn144_0) (.int .i64 (wrap64 (a3_0 + ((rd_T31 y138 x105_5).f0))))).trans hx144_0; replace hx144_1 := (cell_far (p := ⟨gb143, 0, none⟩) (by first | (rw [add_block]; exact hn144_0) | (show (Addr.add _ _).block ≠ _; rw [add_block]; exact hn144_0) | exact hn144_0) (.int .i64 (wrap64 (a3_0 + ((rd_T31 y138 x105_5).f0))))).trans hx144_1; replace hx144_2 := (cell_far (p := ⟨gb143, 0, none⟩) (by first | (rw [add_block]; exact hn144_0) | (show (Addr.add _ _).block ≠ _; rw [add_block]; exact hn144_0) | exact hn144_0) (.int .i64 (wrap64 (a3_0 + ((rd_T31 y138 x105_5).f0))))).trans hx144_2; replace hx144_3 := (cell_far (p := ⟨gb143, 0, none⟩) (by first | (rw [add_block]; exact hn144_0) | (show (Addr.add _ _).block ≠ _; rw [add_block]; exact hn144_0) | exact hn144_0) (.int .i64 (wrap64 (a3_0 + ((rd_T31 y138 x105_5).f0))))).trans hx144_3; replace hx144_0 := (cell_far (p := ⟨gb143, 1, none⟩) (by first | (rw [add_block]; exact hn144_1) | (show (Addr.add _ _).block ≠ _; rw [add_block]; exact hn144_1) | exact hn144_1) (.int .i64 (wrap64 (a3_1 + ((rd_T31 y138 x105_5).f1))))).trans hx144_0; replace hx144_1 := (cell_far (p := ⟨gb143, 1, none⟩) (by first | (rw [add_block]; exact hn144_1) | (show (Addr.add _ _).block ≠ _; rw [add_block]; exact hn144_1) | exact hn144_1) (.int .i64 (wrap64 (a3_1 + ((rd_T31 y138 x105_5).f1))))).trans hx144_1; replace hx144_2 := (cell_far (p := ⟨gb143, 1, none⟩) (by first | (rw [add_block]; exact hn144_1) | (show (Addr.add _ _).block ≠ _; rw [add_block]; exact hn144_1) | exact hn144_1) (.int .i64 (wrap64 (a3_1 + ((rd_T31 y138 x105_5).f1))))).trans hx144_2; replace hx144_3 := (cell_far (p := ⟨gb143, 1, none⟩) (by first | (rw [add_block]; exact hn144_1) | (show (Addr.add _ _).block ≠ _; rw [add_block]; exact hn144_1) | exact hn144_1) (.int .i64 (wrap64 (a3_1 + ((rd_T31 y138 x105_5).f1))))).trans hx144_3; (try have hy144_0 := fun (n_ : Nat) => (show ((((w49.drewN n_).setCell ⟨gb143, 0, none⟩ (.int .i64 (wrap64 (a3_0 + ((rd_T31 y138 x105_5).f0))))).setCell ⟨gb143, 1, none⟩ (.int .i64 (wrap64 (a3_1 + ((rd_T31 y138 x105_5).f1)))))).cell? _ = some _ from hx144_0)); (try have hy144_1 := fun (n_ : Nat) => (show ((((w49.drewN n_).setCell ⟨gb143, 0, none⟩ (.int .i64 (wrap64 (a3_0 + ((rd_T31 y138 x105_5).f0))))).setCell ⟨gb143, 1, none⟩ (.int .i64 (wrap64 (a3_1 + ((rd_T31 y138 x105_5).f1)))))).cell? _ = some _ from hx144_1)); (try have hy144_2 := fun (n_ : Nat) => (show ((((w49.drewN n_).setCell ⟨gb143, 0, none⟩ (.int .i64 (wrap64 (a3_0 + ((rd_T31 y138 x105_5).f0))))).setCell ⟨gb143, 1, none⟩ (.int .i64 (wrap64 (a3_1 + ((rd_T31 y138 x105_5).f1)))))).cell? _ = some _ from hx144_2)); (try have hy144_3 := fun (n_ : Nat) => (show ((((w49.drewN n_).setCell ⟨gb143, 0, none⟩ (.int .i64 (wrap64 (a3_0 + ((rd_T31 y138 x105_5).f0))))).setCell ⟨gb143, 1, none⟩ (.int .i64 (wrap64 (a3_1 + ((rd_T31 y138 x105_5).f1)))))).cell? _ = some _ from hx144_3)); clear hn144_0; clear hn144_1; replace p144 := eq_true p144; replace q144 := eq_true q144))
                                        repeat (go_quiet (first | ((with_reducible refine gate_dst (N := 18) rfl ?_); (try (refine gate_guard (by rfl) ?_; dsimp only)); refine box_event ?hg (N := 18) ?hd (cs := #[.int .i64 0, .int .i64 0]) (t := 53) ?hr ?_; (case hd => rfl); (case hg => rfl); (case hr => first | (go_simp; done) | (go_simp; rfl)); intro gb142 hg w45 hbox hb; have n0_ := Aside0.mk (Kd.R_below (by (with_reducible repeat (first | apply Kd.R_alloc | apply Kd.R_drewN | apply Kd.R_drew)); exact HO_15.out) hb); have n1_ := Aside0.mk (Kd.R_below (Kd.R_elderB (by (with_reducible repeat (first | apply Kd.R_alloc | apply Kd.R_drewN | apply Kd.R_drew)); exact HO_103.out) gb142 (Nat.le_of_eq hg.symm)) hb); have n2_ := Aside0.mk (blk_below (g := gb123) (o := .cells #[.int .i64 a3_0, .int .i64 a3_1] 31 (0, 0)) (by (with_reducible repeat (first | refine blk_drewN ?_ _ | refine blk_drew ?_ | refine blk_alloc ?_ _)); exact BK123.out) hb); have n3_ := Aside0.mk (below_step (by repeat (first | (with_reducible first | exact HB.out | apply below_alloc | apply pw_below_drewN | apply below_drew1 | refine below_set ?_ GE123.out) | exact HB.out)) hb); have n4_ := Aside0.mk (hbox); have n5_ := Aside0.mk ((by rw [hg]; exact (below_size (by repeat (first | (with_reducible first | exact HB.out | apply below_alloc | apply pw_below_drewN | apply below_drew1 | refine below_set ?_ GE123.out) | exact HB.out))) : w.heap.size ≤ gb142)); have n6_ := Aside0.mk ((by rw [hg]; exact (below_size (by repeat (first | (with_reducible first | exact HB.out | apply below_alloc | apply pw_below_drewN | apply below_drew1 | refine below_set ?_ GE123.out) | exact HB.out))) : w.heap.size ≤ gb142)); have n7_ := Aside0.mk ((by rw [hg]; exact Nat.ne_of_lt (blk_lt (g := gb123) (o := .cells #[.int .i64 a3_0, .int .i64 a3_1] 31 (0, 0)) (by (with_reducible repeat (first | refine blk_drewN ?_ _ | refine blk_drew ?_ | refine blk_alloc ?_ _)); exact BK123.out)) : gb123 ≠ gb142)); have n8_ := Aside0.mk ((by rw [hg]; exact Nat.ne_of_gt (blk_lt (g := gb123) (o := .cells #[.int .i64 a3_0, .int .i64 a3_1] 31 (0, 0)) (by (with_reducible repeat (first | refine blk_drewN ?_ _ | refine blk_drew ?_ | refine blk_alloc ?_ _)); exact BK123.out)) : gb142 ≠ gb123)); clear HO_15; clear HO_103; clear BK123; clear HB; have HO_15 := n0_; have HO_103 := n1_; have BK123 := n2_; have HB := n3_; have BK142 := n4_; have GW142 := n5_; have GE142 := n6_; have NB123_142 := n7_; have NB142_123 := n8_; clear n0_ n1_ n2_ n3_ n4_ n5_ n6_ n7_ n8_; clear hb hbox hg; have hnb46 := NB142_123.out; have hnc46 := NB123_142.out; have hcz47_0 : w45.cell? ⟨gb142, 0, none⟩ = some (.int .i64 0) := (blk_cell BK142.out 0).trans rfl; have hcz47_1 : w45.cell? ⟨gb142, 1, none⟩ = some (.int .i64 0) := (blk_cell BK142.out 1).trans rfl; have hfz47_0 := blk_frozen BK142.out 0; have hfz47_1 := blk_frozen BK142.out 1; have hcz48_0 : w45.cell? ⟨gb123, 0, none⟩ = some (.int .i64 a3_0) := (blk_cell BK123.out 0).trans rfl; have hcz48_1 : w45.cell? ⟨gb123, 1, none⟩ = some (.int .i64 a3_1) := (blk_cell BK123.out 1).trans rfl; have hfz48_0 := blk_frozen BK123.out 0; have hfz48_1 := blk_frozen BK123.out 1) | ((with_reducible refine gate_dst (N := 19) rfl ?_); (try (refine gate_guard (by rfl) ?_; dsimp only)); refine box_event ?hg (N := 19) ?hd (cs := #[.int .i64 0, .int .i64 0]) (t := 31) ?hr ?_; (case hd => rfl); (case hg => rfl); (case hr => first | (go_simp; done) | (go_simp; rfl)); intro gb143 hg w49 hbox hb; have n0_ := Aside0.mk (Kd.R_below (by (with_reducible repeat (first | apply Kd.R_alloc | apply Kd.R_drewN | apply Kd.R_drew)); exact (Kd.R_mono (Kd.R_far (p := ⟨gb142, 1, none⟩) (Kd.R_far (p := ⟨gb142, 0, none⟩) (Kd.R_types HO_15.out BK142.out (by decide)) (fun _ hk => hk.2) (.int .i64 ((rd_T31 y138 x105_5).f0))) (fun _ hk => hk.2) (.int .i64 ((rd_T31 y138 x105_5).f1))) (fun _ h_ => h_.1))) hb); have n1_ := Aside0.mk (Kd.R_below (Kd.R_elderB (by (with_reducible repeat (first | apply Kd.R_alloc | apply Kd.R_drewN | apply Kd.R_drew)); exact (Kd.R_mono (Kd.R_far (p := ⟨gb142, 1, none⟩) (Kd.R_far (p := ⟨gb142, 0, none⟩) (Kd.R_mono HO_103.out (fun k_ hk => (⟨hk, hk.2⟩ : _ ∧ k_ ≠ gb142))) (fun _ hk => hk.2) (.int .i64 ((rd_T31 y138 x105_5).f0))) (fun _ hk => hk.2) (.int .i64 ((rd_T31 y138 x105_5).f1))) (fun _ h_ => h_.1))) gb143 (Nat.le_of_eq hg.symm)) hb); have n2_ := Aside0.mk (blk_below (g := gb123) (o := .cells #[.int .i64 a3_0, .int .i64 a3_1] 31 (0, 0)) (by (with_reducible repeat (first | refine blk_drewN ?_ _ | refine blk_drew ?_ | refine blk_alloc ?_ _)); refine blk_far ?_ NB123_142.out _; (with_reducible repeat (first | refine blk_drewN ?_ _ | refine blk_drew ?_ | refine blk_alloc ?_ _)); refine blk_far ?_ NB123_142.out _; (with_reducible repeat (first | refine blk_drewN ?_ _ | refine blk_drew ?_ | refine blk_alloc ?_ _)); exact BK123.out) hb); have n3_ := Aside0.mk (blk_below (g := gb142) (o := .cells #[.int .i64 ((rd_T31 y138 x105_5).f0), .int .i64 ((rd_T31 y138 x105_5).f1)] 53 (0, 0)) (by (with_reducible repeat (first | refine blk_drewN ?_ _ | refine blk_drew ?_ | refine blk_alloc ?_ _)); refine blk_put (cs := #[.int .i64 ((rd_T31 y138 x105_5).f0), .int .i64 0]) ?_ 1 _ rfl; (with_reducible repeat (first | refine blk_drewN ?_ _ | refine blk_drew ?_ | refine blk_alloc ?_ _)); refine blk_put (cs := #[.int .i64 0, .int .i64 0]) ?_ 0 _ rfl; (with_reducible repeat (first | refine blk_drewN ?_ _ | refine blk_drew ?_ | refine blk_alloc ?_ _)); exact BK142.out) hb); have n4_ := Aside0.mk (below_step (by repeat (first | (with_reducible first | exact HB.out | apply below_alloc | apply pw_below_drewN | apply below_drew1 | refine below_set ?_ GE123.out | refine below_set ?_ GE142.out) | exact HB.out)) hb); have n5_ := Aside0.mk (hbox); have n6_ := Aside0.mk ((by rw [hg]; exact (below_size (by repeat (first | (with_reducible first | exact HB.out | apply below_alloc | apply pw_below_drewN | apply below_drew1 | refine below_set ?_ GE123.out | refine below_set ?_ GE142.out) | exact HB.out))) : w.heap.size ≤ gb143)); have n7_ := Aside0.mk ((by rw [hg]; exact (below_size (by repeat (first | (with_reducible first | exact HB.out | apply below_alloc | apply pw_below_drewN | apply below_drew1 | refine below_set ?_ GE123.out | refine below_set ?_ GE142.out) | exact HB.out))) : w.heap.size ≤ gb143)); have n8_ := Aside0.mk ((by rw [hg]; exact Nat.ne_of_lt (blk_lt (g := gb123) (o := .cells #[.int .i64 a3_0, .int .i64 a3_1] 31 (0, 0)) (by (with_reducible repeat (first | refine blk_drewN ?_ _ | refine blk_drew ?_ | refine blk_alloc ?_ _)); refine blk_far ?_ NB123_142.out _; (with_reducible repeat (first | refine blk_drewN ?_ _ | refine blk_drew ?_ | refine blk_alloc ?_ _)); refine blk_far ?_ NB123_142.out _; (with_reducible repeat (first | refine blk_drewN ?_ _ | refine blk_drew ?_ | refine blk_alloc ?_ _)); exact BK123.out)) : gb123 ≠ gb143)); have n9_ := Aside0.mk ((by rw [hg]; exact Nat.ne_of_gt (blk_lt (g := gb123) (o := .cells #[.int .i64 a3_0, .int .i64 a3_1] 31 (0, 0)) (by (with_reducible repeat (first | refine blk_drewN ?_ _ | refine blk_drew ?_ | refine blk_alloc ?_ _)); refine blk_far ?_ NB123_142.out _; (with_reducible repeat (first | refine blk_drewN ?_ _ | refine blk_drew ?_ | refine blk_alloc ?_ _)); refine blk_far ?_ NB123_142.out _; (with_reducible repeat (first | refine blk_drewN ?_ _ | refine blk_drew ?_ | refine blk_alloc ?_ _)); exact BK123.out)) : gb143 ≠ gb123)); have n10_ := Aside0.mk ((by rw [hg]; exact Nat.ne_of_lt (blk_lt (g := gb142) (o := .cells #[.int .i64 ((rd_T31 y138 x105_5).f0), .int .i64 ((rd_T31 y138 x105_5).f1)] 53 (0, 0)) (by (with_reducible repeat (first | refine blk_drewN ?_ _ | refine blk_drew ?_ | refine blk_alloc ?_ _)); refine blk_put (cs := #[.int .i64 ((rd_T31 y138 x105_5).f0), .int .i64 0]) ?_ 1 _ rfl; (with_reducible repeat (first | refine blk_drewN ?_ _ | refine blk_drew ?_ | refine blk_alloc ?_ _)); refine blk_put (cs := #[.int .i64 0, .int .i64 0]) ?_ 0 _ rfl; (with_reducible repeat (first | refine blk_drewN ?_ _ | refine blk_drew ?_ | refine blk_alloc ?_ _)); exact BK142.out)) : gb142 ≠ gb143)); have n11_ := Aside0.mk ((by rw [hg]; exact Nat.ne_of_gt (blk_lt (g := gb142) (o := .cells #[.int .i64 ((rd_T31 y138 x105_5).f0), .int .i64 ((rd_T31 y138 x105_5).f1)] 53 (0, 0)) (by (with_reducible repeat (first | refine blk_drewN ?_ _ | refine blk_drew ?_ | refine blk_alloc ?_ _)); refine blk_put (cs := #[.int .i64 ((rd_T31 y138 x105_5).f0), .int .i64 0]) ?_ 1 _ rfl; (with_reducible repeat (first | refine blk_drewN ?_ _ | refine blk_drew ?_ | refine blk_alloc ?_ _)); refine blk_put (cs := #[.int .i64 0, .int .i64 0]) ?_ 0 _ rfl; (with_reducible repeat (first | refine blk_drewN ?_ _ | refine blk_drew ?_ | refine blk_alloc ?_ _)); exact BK142.out)) : gb143 ≠ gb142)); clear HO_15; clear HO_103; clear BK123; clear BK142; clear HB; have HO_15 := n0_; have HO_103 := n1_; have BK123 := n2_; have BK142 := n3_; have HB := n4_; have BK143 := n5_; have GW143 := n6_; have GE143 := n7_; have NB123_143 := n8_; have NB143_123 := n9_; have NB142_143 := n10_; have NB143_142 := n11_; clear n0_ n1_ n2_ n3_ n4_ n5_ n6_ n7_ n8_ n9_ n10_ n11_; clear hb hbox hg; have hnb50 := NB143_123.out; have hnc50 := NB123_143.out; have hnb51 := NB143_142.out; have hnc51 := NB142_143.out; have hcz52_0 : w49.cell? ⟨gb143, 0, none⟩ = some (.int .i64 0) := (blk_cell BK143.out 0).trans rfl; have hcz52_1 : w49.cell? ⟨gb143, 1, none⟩ = some (.int .i64 0) := (blk_cell BK143.out 1).trans rfl; have hfz52_0 := blk_frozen BK143.out 0; have hfz52_1 := blk_frozen BK143.out 1; obtain ⟨Ao53, co53, eo53⟩ := Kd.R_slice HO_15.out; subst eo53; have p144 : 0 ≤ (x105_5 : Int) := of_decide_eq_true (by first | (with_reducible assumption) | assumption); have q144 : x105_5 < (t131.length : Int) := of_decide_eq_true (by first | (with_reducible assumption) | assumption); obtain ⟨ad144, e144, hx144_0, hx144_1, hx144_2, hx144_3⟩ := at_T44 (Kd.R_reads' HO_15.out).2.2 x105_5 p144 q144; cases e144; have hn144_0 : ad144.block ≠ gb143 := Kd.own_blk (Kd.R_ne HO_15.out BK143.out (by decide)); have hn144_1 : ad144.block ≠ gb143 := Kd.own_blk (Kd.R_ne HO_15.out BK143.out (by decide)); replace hx144_0 := (cell_far (p := ⟨gb143, 0, none⟩) (by first | (rw [add_block]; exact hn144_0) | (show (Addr.add _ _).block ≠ _; rw [add_block]; exact hn144_0) | exact hn144_0) (.int .i64 (wrap64 (a3_0 + ((rd_T31 y138 x105_5).f0))))).trans hx144_0; replace hx144_1 := (cell_far (p := ⟨gb143, 0, none⟩) (by first | (rw [add_block]; exact hn144_0) | (show (Addr.add _ _).block ≠ _; rw [add_block]; exact hn144_0) | exact hn144_0) (.int .i64 (wrap64 (a3_0 + ((rd_T31 y138 x105_5).f0))))).trans hx144_1; replace hx144_2 := (cell_far (p := ⟨gb143, 0, none⟩) (by first | (rw [add_block]; exact hn144_0) | (show (Addr.add _ _).block ≠ _; rw [add_block]; exact hn144_0) | exact hn144_0) (.int .i64 (wrap64 (a3_0 + ((rd_T31 y138 x105_5).f0))))).trans hx144_2; replace hx144_3 := (cell_far (p := ⟨gb143, 0, none⟩) (by first | (rw [add_block]; exact hn144_0) | (show (Addr.add _ _).block ≠ _; rw [add_block]; exact hn144_0) | exact hn144_0) (.int .i64 (wrap64 (a3_0 + ((rd_T31 y138 x105_5).f0))))).trans hx144_3; replace hx144_0 := (cell_far (p := ⟨gb143, 1, none⟩) (by first | (rw [add_block]; exact hn144_1) | (show (Addr.add _ _).block ≠ _; rw [add_block]; exact hn144_1) | exact hn144_1) (.int .i64 (wrap64 (a3_1 + ((rd_T31 y138 x105_5).f1))))).trans hx144_0; replace hx144_1 := (cell_far (p := ⟨gb143, 1, none⟩) (by first | (rw [add_block]; exact hn144_1) | (show (Addr.add _ _).block ≠ _; rw [add_block]; exact hn144_1) | exact hn144_1) (.int .i64 (wrap64 (a3_1 + ((rd_T31 y138 x105_5).f1))))).trans hx144_1; replace hx144_2 := (cell_far (p := ⟨gb143, 1, none⟩) (by first | (rw [add_block]; exact hn144_1) | (show (Addr.add _ _).block ≠ _; rw [add_block]; exact hn144_1) | exact hn144_1) (.int .i64 (wrap64 (a3_1 + ((rd_T31 y138 x105_5).f1))))).trans hx144_2; replace hx144_3 := (cell_far (p := ⟨gb143, 1, none⟩) (by first | (rw [add_block]; exact hn144_1) | (show (Addr.add _ _).block ≠ _; rw [add_block]; exact hn144_1) | exact hn144_1) (.int .i64 (wrap64 (a3_1 + ((rd_T31 y138 x105_5).f1))))).trans hx144_3; (try have hy144_0 := fun (n_ : Nat) => (show ((((w49.drewN n_).setCell ⟨gb143, 0, none⟩ (.int .i64 (wrap64 (a3_0 + ((rd_T31 y138 x105_5).f0))))).setCell ⟨gb143, 1, none⟩ (.int .i64 (wrap64 (a3_1 + ((rd_T31 y138 x105_5).f1)))))).cell? _ = some _ from hx144_0)); (try have hy144_1 := fun (n_ : Nat) => (show ((((w49.drewN n_).setCell ⟨gb143, 0, none⟩ (.int .i64 (wrap64 (a3_0 + ((rd_T31 y138 x105_5).f0))))).setCell ⟨gb143, 1, none⟩ (.int .i64 (wrap64 (a3_1 + ((rd_T31 y138 x105_5).f1)))))).cell? _ = some _ from hx144_1)); (try have hy144_2 := fun (n_ : Nat) => (show ((((w49.drewN n_).setCell ⟨gb143, 0, none⟩ (.int .i64 (wrap64 (a3_0 + ((rd_T31 y138 x105_5).f0))))).setCell ⟨gb143, 1, none⟩ (.int .i64 (wrap64 (a3_1 + ((rd_T31 y138 x105_5).f1)))))).cell? _ = some _ from hx144_2)); (try have hy144_3 := fun (n_ : Nat) => (show ((((w49.drewN n_).setCell ⟨gb143, 0, none⟩ (.int .i64 (wrap64 (a3_0 + ((rd_T31 y138 x105_5).f0))))).setCell ⟨gb143, 1, none⟩ (.int .i64 (wrap64 (a3_1 + ((rd_T31 y138 x105_5).f1)))))).cell? _ = some _ from hx144_3)); clear hn144_0; clear hn144_1; replace p144 := eq_true p144; replace q144 := eq_true q144)); try go_wp2_with (first | ((with_reducible refine gate_dst (N := 18) rfl ?_); (try (refine gate_guard (by rfl) ?_; dsimp only)); refine box_event ?hg (N := 18) ?hd (cs := #[.int .i64 0, .int .i64 0]) (t := 53) ?hr ?_; (case hd => rfl); (case hg => rfl); (case hr => first | (go_simp; done) | (go_simp; rfl)); intro gb142 hg w45 hbox hb; have n0_ := Aside0.mk (Kd.R_below (by (with_reducible repeat (first | apply Kd.R_alloc | apply Kd.R_drewN | apply Kd.R_drew)); exact HO_15.out) hb); have n1_ := Aside0.mk (Kd.R_below (Kd.R_elderB (by (with_reducible repeat (first | apply Kd.R_alloc | apply Kd.R_drewN | apply Kd.R_drew)); exact HO_103.out) gb142 (Nat.le_of_eq hg.symm)) hb); have n2_ := Aside0.mk (blk_below (g := gb123) (o := .cells #[.int .i64 a3_0, .int .i64 a3_1] 31 (0, 0)) (by (with_reducible repeat (first | refine blk_drewN ?_ _ | refine blk_drew ?_ | refine blk_alloc ?_ _)); exact BK123.out) hb); have n3_ := Aside0.mk (below_step (by repeat (first | (with_reducible first | exact HB.out | apply below_alloc | apply pw_below_drewN | apply below_drew1 | refine below_set ?_ GE123.out) | exact HB.out)) hb); have n4_ := Aside0.mk (hbox); have n5_ := Aside0.mk ((by rw [hg]; exact (below_size (by repeat (first | (with_reducible first | exact HB.out | apply below_alloc | apply pw_below_drewN | apply below_drew1 | refine below_set ?_ GE123.out) | exact HB.out))) : w.heap.size ≤ gb142)); have n6_ := Aside0.mk ((by rw [hg]; exact (below_size (by repeat (first | (with_reducible first | exact HB.out | apply below_alloc | apply pw_below_drewN | apply below_drew1 | refine below_set ?_ GE123.out) | exact HB.out))) : w.heap.size ≤ gb142)); have n7_ := Aside0.mk ((by rw [hg]; exact Nat.ne_of_lt (blk_lt (g := gb123) (o := .cells #[.int .i64 a3_0, .int .i64 a3_1] 31 (0, 0)) (by (with_reducible repeat (first | refine blk_drewN ?_ _ | refine blk_drew ?_ | refine blk_alloc ?_ _)); exact BK123.out)) : gb123 ≠ gb142)); have n8_ := Aside0.mk ((by rw [hg]; exact Nat.ne_of_gt (blk_lt (g := gb123) (o := .cells #[.int .i64 a3_0, .int .i64 a3_1] 31 (0, 0)) (by (with_reducible repeat (first | refine blk_drewN ?_ _ | refine blk_drew ?_ | refine blk_alloc ?_ _)); exact BK123.out)) : gb142 ≠ gb123)); clear HO_15; clear HO_103; clear BK123; clear HB; have HO_15 := n0_; have HO_103 := n1_; have BK123 := n2_; have HB := n3_; have BK142 := n4_; have GW142 := n5_; have GE142 := n6_; have NB123_142 := n7_; have NB142_123 := n8_; clear n0_ n1_ n2_ n3_ n4_ n5_ n6_ n7_ n8_; clear hb hbox hg; have hnb46 := NB142_123.out; have hnc46 := NB123_142.out; have hcz47_0 : w45.cell? ⟨gb142, 0, none⟩ = some (.int .i64 0) := (blk_cell BK142.out 0).trans rfl; have hcz47_1 : w45.cell? ⟨gb142, 1, none⟩ = some (.int .i64 0) := (blk_cell BK142.out 1).trans rfl; have hfz47_0 := blk_frozen BK142.out 0; have hfz47_1 := blk_frozen BK142.out 1; have hcz48_0 : w45.cell? ⟨gb123, 0, none⟩ = some (.int .i64 a3_0) := (blk_cell BK123.out 0).trans rfl; have hcz48_1 : w45.cell? ⟨gb123, 1, none⟩ = some (.int .i64 a3_1) := (blk_cell BK123.out 1).trans rfl; have hfz48_0 := blk_frozen BK123.out 0; have hfz48_1 := blk_frozen BK123.out 1) | ((with_reducible refine gate_dst (N := 19) rfl ?_); (try (refine gate_guard (by rfl) ?_; dsimp only)); refine box_event ?hg (N := 19) ?hd (cs := #[.int .i64 0, .int .i64 0]) (t := 31) ?hr ?_; (case hd => rfl); (case hg => rfl); (case hr => first | (go_simp; done) | (go_simp; rfl)); intro gb143 hg w49 hbox hb; have n0_ := Aside0.mk (Kd.R_below (by (with_reducible repeat (first | apply Kd.R_alloc | apply Kd.R_drewN | apply Kd.R_drew)); exact (Kd.R_mono (Kd.R_far (p := ⟨gb142, 1, none⟩) (Kd.R_far (p := ⟨gb142, 0, none⟩) (Kd.R_types HO_15.out BK142.out (by decide)) (fun _ hk => hk.2) (.int .i64 ((rd_T31 y138 x105_5).f0))) (fun _ hk => hk.2) (.int .i64 ((rd_T31 y138 x105_5).f1))) (fun _ h_ => h_.1))) hb); have n1_ := Aside0.mk (Kd.R_below (Kd.R_elderB (by (with_reducible repeat (first | apply Kd.R_alloc | apply Kd.R_drewN | apply Kd.R_drew)); exact (Kd.R_mono (Kd.R_far (p := ⟨gb142, 1, none⟩) (Kd.R_far (p := ⟨gb142, 0, none⟩) (Kd.R_mono HO_103.out (fun k_ hk => (⟨hk, hk.2⟩ : _ ∧ k_ ≠ gb142))) (fun _ hk => hk.2) (.int .i64 ((rd_T31 y138 x105_5).f0))) (fun _ hk => hk.2) (.int .i64 ((rd_T31 y138 x105_5).f1))) (fun _ h_ => h_.1))) gb143 (Nat.le_of_eq hg.symm)) hb); have n2_ := Aside0.mk (blk_below (g := gb123) (o := .cells #[.int .i64 a3_0, .int .i64 a3_1] 31 (0, 0)) (by (with_reducible repeat (first | refine blk_drewN ?_ _ | refine blk_drew ?_ | refine blk_alloc ?_ _)); refine blk_far ?_ NB123_142.out _; (with_reducible repeat (first | refine blk_drewN ?_ _ | refine blk_drew ?_ | refine blk_alloc ?_ _)); refine blk_far ?_ NB123_142.out _; (with_reducible repeat (first | refine blk_drewN ?_ _ | refine blk_drew ?_ | refine blk_alloc ?_ _)); exact BK123.out) hb); have n3_ := Aside0.mk (blk_below (g := gb142) (o := .cells #[.int .i64 ((rd_T31 y138 x105_5).f0), .int .i64 ((rd_T31 y138 x105_5).f1)] 53 (0, 0)) (by (with_reducible repeat (first | refine blk_drewN ?_ _ | refine blk_drew ?_ | refine blk_alloc ?_ _)); refine blk_put (cs := #[.int .i64 ((rd_T31 y138 x105_5).f0), .int .i64 0]) ?_ 1 _ rfl; (with_reducible repeat (first | refine blk_drewN ?_ _ | refine blk_drew ?_ | refine blk_alloc ?_ _)); refine blk_put (cs := #[.int .i64 0, .int .i64 0]) ?_ 0 _ rfl; (with_reducible repeat (first | refine blk_drewN ?_ _ | refine blk_drew ?_ | refine blk_alloc ?_ _)); exact BK142.out) hb); have n4_ := Aside0.mk (below_step (by repeat (first | (with_reducible first | exact HB.out | apply below_alloc | apply pw_below_drewN | apply below_drew1 | refine below_set ?_ GE123.out | refine below_set ?_ GE142.out) | exact HB.out)) hb); have n5_ := Aside0.mk (hbox); have n6_ := Aside0.mk ((by rw [hg]; exact (below_size (by repeat (first | (with_reducible first | exact HB.out | apply below_alloc | apply pw_below_drewN | apply below_drew1 | refine below_set ?_ GE123.out | refine below_set ?_ GE142.out) | exact HB.out))) : w.heap.size ≤ gb143)); have n7_ := Aside0.mk ((by rw [hg]; exact (below_size (by repeat (first | (with_reducible first | exact HB.out | apply below_alloc | apply pw_below_drewN | apply below_drew1 | refine below_set ?_ GE123.out | refine below_set ?_ GE142.out) | exact HB.out))) : w.heap.size ≤ gb143)); have n8_ := Aside0.mk ((by rw [hg]; exact Nat.ne_of_lt (blk_lt (g := gb123) (o := .cells #[.int .i64 a3_0, .int .i64 a3_1] 31 (0, 0)) (by (with_reducible repeat (first | refine blk_drewN ?_ _ | refine blk_drew ?_ | refine blk_alloc ?_ _)); refine blk_far ?_ NB123_142.out _; (with_reducible repeat (first | refine blk_drewN ?_ _ | refine blk_drew ?_ | refine blk_alloc ?_ _)); refine blk_far ?_ NB123_142.out _; (with_reducible repeat (first | refine blk_drewN ?_ _ | refine blk_drew ?_ | refine blk_alloc ?_ _)); exact BK123.out)) : gb123 ≠ gb143)); have n9_ := Aside0.mk ((by rw [hg]; exact Nat.ne_of_gt (blk_lt (g := gb123) (o := .cells #[.int .i64 a3_0, .int .i64 a3_1] 31 (0, 0)) (by (with_reducible repeat (first | refine blk_drewN ?_ _ | refine blk_drew ?_ | refine blk_alloc ?_ _)); refine blk_far ?_ NB123_142.out _; (with_reducible repeat (first | refine blk_drewN ?_ _ | refine blk_drew ?_ | refine blk_alloc ?_ _)); refine blk_far ?_ NB123_142.out _; (with_reducible repeat (first | refine blk_drewN ?_ _ | refine blk_drew ?_ | refine blk_alloc ?_ _)); exact BK123.out)) : gb143 ≠ gb123)); have n10_ := Aside0.mk ((by rw [hg]; exact Nat.ne_of_lt (blk_lt (g := gb142) (o := .cells #[.int .i64 ((rd_T31 y138 x105_5).f0), .int .i64 ((rd_T31 y138 x105_5).f1)] 53 (0, 0)) (by (with_reducible repeat (first | refine blk_drewN ?_ _ | refine blk_drew ?_ | refine blk_alloc ?_ _)); refine blk_put (cs := #[.int .i64 ((rd_T31 y138 x105_5).f0), .int .i64 0]) ?_ 1 _ rfl; (with_reducible repeat (first | refine blk_drewN ?_ _ | refine blk_drew ?_ | refine blk_alloc ?_ _)); refine blk_put (cs := #[.int .i64 0, .int .i64 0]) ?_ 0 _ rfl; (with_reducible repeat (first | refine blk_drewN ?_ _ | refine blk_drew ?_ | refine blk_alloc ?_ _)); exact BK142.out)) : gb142 ≠ gb143)); have n11_ := Aside0.mk ((by rw [hg]; exact Nat.ne_of_gt (blk_lt (g := gb142) (o := .cells #[.int .i64 ((rd_T31 y138 x105_5).f0), .int .i64 ((rd_T31 y138 x105_5).f1)] 53 (0, 0)) (by (with_reducible repeat (first | refine blk_drewN ?_ _ | refine blk_drew ?_ | refine blk_alloc ?_ _)); refine blk_put (cs := #[.int .i64 ((rd_T31 y138 x105_5).f0), .int .i64 0]) ?_ 1 _ rfl; (with_reducible repeat (first | refine blk_drewN ?_ _ | refine blk_drew ?_ | refine blk_alloc ?_ _)); refine blk_put (cs := #[.int .i64 0, .int .i64 0]) ?_ 0 _ rfl; (with_reducible repeat (first | refine blk_drewN ?_ _ | refine blk_drew ?_ | refine blk_alloc ?_ _)); exact BK142.out)) : gb143 ≠ gb142)); clear HO_15; clear HO_103; clear BK123; clear BK142; clear HB; have HO_15 := n0_; have HO_103 := n1_; have BK123 := n2_; have BK142 := n3_; have HB := n4_; have BK143 := n5_; have GW143 := n6_; have GE143 := n7_; have NB123_143 := n8_; have NB143_123 := n9_; have NB142_143 := n10_; have NB143_142 := n11_; clear n0_ n1_ n2_ n3_ n4_ n5_ n6_ n7_ n8_ n9_ n10_ n11_; clear hb hbox hg; have hnb50 := NB143_123.out; have hnc50 := NB123_143.out; have hnb51 := NB143_142.out; have hnc51 := NB142_143.out; have hcz52_0 : w49.cell? ⟨gb143, 0, none⟩ = some (.int .i64 0) := (blk_cell BK143.out 0).trans rfl; have hcz52_1 : w49.cell? ⟨gb143, 1, none⟩ = some (.int .i64 0) := (blk_cell BK143.out 1).trans rfl; have hfz52_0 := blk_frozen BK143.out 0; have hfz52_1 := blk_frozen BK143.out 1; obtain ⟨Ao53, co53, eo53⟩ := Kd.R_slice HO_15.out; subst eo53; have p144 : 0 ≤ (x105_5 : Int) := of_decide_eq_true (by first | (with_reducible assumption) | assumption); have q144 : x105_5 < (t131.length : Int) := of_decide_eq_true (by first | (with_reducible assumption) | assumption); obtain ⟨ad144, e144, hx144_0, hx144_1, hx144_2, hx144_3⟩ := at_T44 (Kd.R_reads' HO_15.out).2.2 x105_5 p144 q144; cases e144; have hn144_0 : ad144.block ≠ gb143 := Kd.own_blk (Kd.R_ne HO_15.out BK143.out (by decide)); have hn144_1 : ad144.block ≠ gb143 := Kd.own_blk (Kd.R_ne HO_15.out BK143.out (by decide)); replace hx144_0 := (cell_far (p := ⟨gb143, 0, none⟩) (by first | (rw [add_block]; exact hn144_0) | (show (Addr.add _ _).block ≠ _; rw [add_block]; exact hn144_0) | exact hn144_0) (.int .i64 (wrap64 (a3_0 + ((rd_T31 y138 x105_5).f0))))).trans hx144_0; replace hx144_1 := (cell_far (p := ⟨gb143, 0, none⟩) (by first | (rw [add_block]; exact hn144_0) | (show (Addr.add _ _).block ≠ _; rw [add_block]; exact hn144_0) | exact hn144_0) (.int .i64 (wrap64 (a3_0 + ((rd_T31 y138 x105_5).f0))))).trans hx144_1; replace hx144_2 := (cell_far (p := ⟨gb143, 0, none⟩) (by first | (rw [add_block]; exact hn144_0) | (show (Addr.add _ _).block ≠ _; rw [add_block]; exact hn144_0) | exact hn144_0) (.int .i64 (wrap64 (a3_0 + ((rd_T31 y138 x105_5).f0))))).trans hx144_2; replace hx144_3 := (cell_far (p := ⟨gb143, 0, none⟩) (by first | (rw [add_block]; exact hn144_0) | (show (Addr.add _ _).block ≠ _; rw [add_block]; exact hn144_0) | exact hn144_0) (.int .i64 (wrap64 (a3_0 + ((rd_T31 y138 x105_5).f0))))).trans hx144_3; replace hx144_0 := (cell_far (p := ⟨gb143, 1, none⟩) (by first | (rw [add_block]; exact hn144_1) | (show (Addr.add _ _).block ≠ _; rw [add_block]; exact hn144_1) | exact hn144_1) (.int .i64 (wrap64 (a3_1 + ((rd_T31 y138 x105_5).f1))))).trans hx144_0; replace hx144_1 := (cell_far (p := ⟨gb143, 1, none⟩) (by first | (rw [add_block]; exact hn144_1) | (show (Addr.add _ _).block ≠ _; rw [add_block]; exact hn144_1) | exact hn144_1) (.int .i64 (wrap64 (a3_1 + ((rd_T31 y138 x105_5).f1))))).trans hx144_1; replace hx144_2 := (cell_far (p := ⟨gb143, 1, none⟩) (by first | (rw [add_block]; exact hn144_1) | (show (Addr.add _ _).block ≠ _; rw [add_block]; exact hn144_1) | exact hn144_1) (.int .i64 (wrap64 (a3_1 + ((rd_T31 y138 x105_5).f1))))).trans hx144_2; replace hx144_3 := (cell_far (p := ⟨gb143, 1, none⟩) (by first | (rw [add_block]; exact hn144_1) | (show (Addr.add _ _).block ≠ _; rw [add_block]; exact hn144_1) | exact hn144_1) (.int .i64 (wrap64 (a3_1 + ((rd_T31 y138 x105_5).f1))))).trans hx144_3; (try have hy144_0 := fun (n_ : Nat) => (show ((((w49.drewN n_).setCell ⟨gb143, 0, none⟩ (.int .i64 (wrap64 (a3_0 + ((rd_T31 y138 x105_5).f0))))).setCell ⟨gb143, 1, none⟩ (.int .i64 (wrap64 (a3_1 + ((rd_T31 y138 x105_5).f1)))))).cell? _ = some _ from hx144_0)); (try have hy144_1 := fun (n_ : Nat) => (show ((((w49.drewN n_).setCell ⟨gb143, 0, none⟩ (.int .i64 (wrap64 (a3_0 + ((rd_T31 y138 x105_5).f0))))).setCell ⟨gb143, 1, none⟩ (.int .i64 (wrap64 (a3_1 + ((rd_T31 y138 x105_5).f1)))))).cell? _ = some _ from hx144_1)); (try have hy144_2 := fun (n_ : Nat) => (show ((((w49.drewN n_).setCell ⟨gb143, 0, none⟩ (.int .i64 (wrap64 (a3_0 + ((rd_T31 y138 x105_5).f0))))).setCell ⟨gb143, 1, none⟩ (.int .i64 (wrap64 (a3_1 + ((rd_T31 y138 x105_5).f1)))))).cell? _ = some _ from hx144_2)); (try have hy144_3 := fun (n_ : Nat) => (show ((((w49.drewN n_).setCell ⟨gb143, 0, none⟩ (.int .i64 (wrap64 (a3_0 + ((rd_T31 y138 x105_5).f0))))).setCell ⟨gb143, 1, none⟩ (.int .i64 (wrap64 (a3_1 + ((rd_T31 y138 x105_5).f1)))))).cell? _ = some _ from hx144_3)); clear hn144_0; clear hn144_1; replace p144 := eq_true p144; replace q144 := eq_true q144)))
                                        go_roundg k5
                                        case measure => have := HJ9.out; have := HJ24.out; have := HJ29.out; have := HJ32.out; have := HK5.out; omega
                                        case rel => exact ⟨(wrap64 (x105_5 + 1)), (by first | rfl | (simp; done) | (simp [*]; done)), H', ⟨by have := HJ9.out; have := HJ24.out; have := HJ29.out; have := HJ32.out; have := HK5.out; omega⟩, ⟨by (with_reducible repeat (first | apply Kd.R_alloc | apply Kd.R_drewN | apply Kd.R_drew)); exact Kd.R_mono (Kd.R_far (p := ⟨gb143, 1, none⟩) (Kd.R_far (p := ⟨gb143, 0, none⟩) (Kd.R_types HO_15.out BK143.out (by decide)) (fun _ hk => hk.2) (.int .i64 (wrap64 (a3_0 + ((rd_T31 y138 x105_5).f0))))) (fun _ hk => hk.2) (.int .i64 (wrap64 (a3_1 + ((rd_T31 y138 x105_5).f1))))) (fun _ hk => trivial)⟩, ⟨by (with_reducible repeat (first | apply Kd.R_alloc | apply Kd.R_drewN | apply Kd.R_drew)); exact Kd.R_mono (Kd.R_far (p := ⟨gb143, 1, none⟩) (Kd.R_far (p := ⟨gb143, 0, none⟩) (Kd.R_mono HO_103.out (fun k_ hk => (⟨hk, hk.2⟩ : _ ∧ k_ ≠ gb143))) (fun _ hk => hk.2) (.int .i64 (wrap64 (a3_0 + ((rd_T31 y138 x105_5).f0))))) (fun _ hk => hk.2) (.int .i64 (wrap64 (a3_1 + ((rd_T31 y138 x105_5).f1))))) (fun _ hk => hk.1.1.1)⟩, ⟨by (with_reducible repeat (first | refine blk_drewN ?_ _ | refine blk_drew ?_ | refine blk_alloc ?_ _)); refine blk_far ?_ NB123_143.out _; (with_reducible repeat (first | refine blk_drewN ?_ _ | refine blk_drew ?_ | refine blk_alloc ?_ _)); refine blk_far ?_ NB123_143.out _; (with_reducible repeat (first | refine blk_drewN ?_ _ | refine blk_drew ?_ | refine blk_alloc ?_ _)); exact BK123.out⟩, ⟨by repeat (first | (with_reducible first | exact HB.out | apply below_alloc | apply pw_below_drewN | apply below_drew1 | refine below_set ?_ GE123.out | refine below_set ?_ GE142.out | refine below_set ?_ GE143.out) | exact HB.out)⟩⟩
                                    · rw [if_neg c43] at H
                                      exact absurd H (by simp)
                                  · rw [if_neg c42] at H
                                    exact absurd H (by simp)
                                · rw [if_neg c41] at H
                                  exact absurd H (by simp)
                              · rw [if_neg c40] at H
                                have c40b0 : decide (x105_5 < (y138.length : Int)) = false := decide_eq_false c40
                                clear c40
                                clear hr
                                obtain rfl := Option.some.inj H
                                go_wp2
                                repeat (go_quiet (fail); try go_wp2)
                                go_ret
                                exact ⟨by first | rfl | (simp [errW_none, errW_some] <;> rfl) | (simp [*, errW_none, errW_some] <;> rfl), by repeat (first | (with_reducible first | exact HB.out | apply below_alloc | apply pw_below_drewN | apply below_drew1 | refine below_set ?_ GE123.out) | exact HB.out)⟩
                  · rw [if_neg c32] at H
                    have c32b0 : (x14_29 == 0) = false := beq_eq_false_iff_ne.mpr c32
                    have c32b1 : (x14_29 != 0) = true := bne_iff_ne.mpr c32
                    by_cases c54 : t134 = x14_29
                    · rw [if_pos c54] at H
                      have c54b0 : (t134 == x14_29) = true := beq_iff_eq.mpr c54
                      have c54b1 : (t134 != x14_29) = false := bne_eq_false_iff_eq.mpr c54
                      clear c54
                      clear hr
                      obtain rfl := Option.some.inj H
                      obtain ⟨Ao55, co55, eo55⟩ := Kd.R_slice HO_15.out
                      subst eo55
                      go_wp2
                      repeat (go_quiet (fail); try go_wp2)
                      go_ret
                      exact ⟨by first | rfl | (simp [errW_none, errW_some] <;> rfl) | (simp [*, errW_none, errW_some] <;> rfl), by repeat (first | (with_reducible first | exact HB.out | apply below_alloc | apply pw_below_drewN | apply below_drew1 | refine below_set ?_ GE123.out) | exact HB.out)⟩
                    · rw [if_neg c54] at H
                      have c54b0 : (t134 == x14_29) = false := beq_eq_false_iff_ne.mpr c54
                      have c54b1 : (t134 != x14_29) = true := bne_iff_ne.mpr c54
                      exact absurd (H.trans (congrArg some hr)) (by decide)
  · rw [if_neg c6] at H
    have c6b0 : (t124 == 6) = false := beq_eq_false_iff_ne.mpr c6
    have c6b1 : (t124 != 6) = true := bne_iff_ne.mpr c6
    exact absurd (H.trans (congrArg some hr)) (by decide)
end Go.Proofs.Ytojehbkadlmbjaa.Q
