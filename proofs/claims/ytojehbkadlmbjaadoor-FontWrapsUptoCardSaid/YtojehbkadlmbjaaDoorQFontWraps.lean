/- What the Go function terrlaw5_FontWraps comes to, and its contract. Condition: its printed twin gives an answer, which is true. -/
import Derived.Test.YtojehbkadlmbjaaDoorQf5
import Derived.Test.YtojehbkadlmbjaaDoorQf6
import Derived.Test.YtojehbkadlmbjaaDoorQf7
namespace Go.Proofs.YtojehbkadlmbjaaDoor.Q
open Go.RowKit Go.Proofs.YtojehbkadlmbjaaDoorW.PrintWords Go.Proofs.YtojehbkadlmbjaaDoorW.PrintLast Go.Proofs.YtojehbkadlmbjaaDoorW.PrintMore
attribute [local go_sem] max2_int min2_int max_two min_two max_three min_three max_four min_four
set_option linter.unusedVariables false
set_option linter.unusedSimpArgs false
/-! ### terrlaw5_FontWraps: function 3 -/
mutual
def terrlaw5_FontWraps.j0 : Nat → ByteArray → Int → Int → Bool → Option (Bool)
  | 0, _, _, _, _ => none
  | k + 1, x0, x1, x2, x37 => if x37 = true then (some false) else ((font_Wrap.f k x0 x1 x2).bind fun bt143 => ((terrref5_TextSize.f k x0 x1).bind fun bt147 => (if bt147.2.2 = 0 then (terrlaw5_FontWraps.j1 k x0 x1 x2 bt143.1 bt143.2 bt147.2.2 (decide (x2 < 1))) else (terrlaw5_FontWraps.j1 k x0 x1 x2 bt143.1 bt143.2 bt147.2.2 false))))
def terrlaw5_FontWraps.j1 : Nat → ByteArray → Int → Int → List ByteArray → Int → Int → Bool → Option (Bool)
  | 0, _, _, _, _, _, _, _ => none
  | k + 1, x0, x1, x2, x9, x10, x13, x57 => if x57 = true then (terrlaw5_FontWraps.j2 k x0 x1 x2 x9 x10 1) else (terrlaw5_FontWraps.j2 k x0 x1 x2 x9 x10 x13)
def terrlaw5_FontWraps.j2 : Nat → ByteArray → Int → Int → List ByteArray → Int → Int → Option (Bool)
  | 0, _, _, _, _, _, _ => none
  | k + 1, x0, x1, x2, x9, x10, x13 => terrlaw5_FontWraps.l0 k x0 x1 x2 x9 x10 x13 ([] : List ByteArray) 0
def terrlaw5_FontWraps.l0 : Nat → ByteArray → Int → Int → List ByteArray → Int → Int → List ByteArray → Int → Option (Bool)
  | 0, _, _, _, _, _, _, _, _ => none
  | k + 1, x0, x1, x2, x9, x10, x13, x14, x16 => if x16 < (x0.size : Int) then (terrlaw5_FontWraps.l1 k x0 x1 x2 x9 x10 x13 x14 x16 x16) else (terrlaw5_FontWraps.l2 k x1 x2 x9 x10 x13 ([] : List ByteArray) x14 (x14.length : Int) 0)
def terrlaw5_FontWraps.l1 : Nat → ByteArray → Int → Int → List ByteArray → Int → Int → List ByteArray → Int → Int → Option (Bool)
  | 0, _, _, _, _, _, _, _, _, _ => none
  | k + 1, x0, x1, x2, x9, x10, x13, x14, x16, x17 => if x17 < (x0.size : Int) then (if 0 ≤ x17 then (if (bt x0 x17) = 32 then (if x17 > x16 then (if 0 ≤ x16 then (if x16 ≤ x17 then (if x17 ≤ (x0.size : Int) then (if x14.length < 8796093022208 then (terrlaw5_FontWraps.l0 k x0 x1 x2 x9 x10 x13 (x14 ++ [x0.extract (x16 : Int).toNat (x17 : Int).toNat]) (wrap64 (x17 + 1))) else (none)) else (none)) else (none)) else (none)) else (terrlaw5_FontWraps.l0 k x0 x1 x2 x9 x10 x13 x14 (wrap64 (x17 + 1)))) else (terrlaw5_FontWraps.l1 k x0 x1 x2 x9 x10 x13 x14 x16 (wrap64 (x17 + 1)))) else (none)) else (if x17 > x16 then (if 0 ≤ x16 then (if x16 ≤ x17 then (if x17 ≤ (x0.size : Int) then (if x14.length < 8796093022208 then (terrlaw5_FontWraps.l0 k x0 x1 x2 x9 x10 x13 (x14 ++ [x0.extract (x16 : Int).toNat (x17 : Int).toNat]) (wrap64 (x17 + 1))) else (none)) else (none)) else (none)) else (none)) else (terrlaw5_FontWraps.l0 k x0 x1 x2 x9 x10 x13 x14 (wrap64 (x17 + 1))))
def terrlaw5_FontWraps.l2 : Nat → Int → Int → List ByteArray → Int → Int → List ByteArray → List ByteArray → Int → Int → Option (Bool)
  | 0, _, _, _, _, _, _, _, _, _ => none
  | k + 1, x1, x2, x9, x10, x13, x15, x87, x88, x89 => if x89 < x88 then (if 0 ≤ x89 then (if x89 < (x87.length : Int) then ((terrref5_TextSize.f k (rdOf ByteArray.empty x87 x89) x1).bind fun bt158 => (if x13 = 0 then (terrlaw5_FontWraps.j6 k x1 x2 x9 x10 x13 x15 (rdOf ByteArray.empty x87 x89) x87 x88 x89 (decide (bt158.1 > x2))) else (terrlaw5_FontWraps.j6 k x1 x2 x9 x10 x13 x15 (rdOf ByteArray.empty x87 x89) x87 x88 x89 false))) else (none)) else (none)) else (if x13 = 0 then (if x10 = 0 then ((slices_Equal_string_string.f k x9 x15).bind fun t156 => (some t156)) else (some false)) else (if x10 = x13 then (some ((x9.length : Int) == 0)) else (some false)))
def terrlaw5_FontWraps.j6 : Nat → Int → Int → List ByteArray → Int → Int → List ByteArray → ByteArray → List ByteArray → Int → Int → Bool → Option (Bool)
  | 0, _, _, _, _, _, _, _, _, _, _, _ => none
  | k + 1, x1, x2, x9, x10, x13, x15, x19, x87, x88, x89, x106 => if x106 = true then (terrlaw5_FontWraps.j7 k x1 x2 x9 x10 17 x15 x19 x87 x88 x89) else (terrlaw5_FontWraps.j7 k x1 x2 x9 x10 x13 x15 x19 x87 x88 x89)
def terrlaw5_FontWraps.j7 : Nat → Int → Int → List ByteArray → Int → Int → List ByteArray → ByteArray → List ByteArray → Int → Int → Option (Bool)
  | 0, _, _, _, _, _, _, _, _, _, _ => none
  | k + 1, x1, x2, x9, x10, x13, x15, x19, x87, x88, x89 => if (wrap64 ((x15.length : Int) - 1)) ≥ 0 then (if 0 ≤ (wrap64 ((x15.length : Int) - 1)) then (if (wrap64 ((x15.length : Int) - 1)) < (x15.length : Int) then (if (rdOf ByteArray.empty x15 (wrap64 ((x15.length : Int) - 1))).size + 1 ≤ 9223372036854775807 then (if ((rdOf ByteArray.empty x15 (wrap64 ((x15.length : Int) - 1))) ++ (⟨#[32]⟩ : ByteArray)).size + x19.size ≤ 9223372036854775807 then ((terrref5_TextSize.f k (((rdOf ByteArray.empty x15 (wrap64 ((x15.length : Int) - 1))) ++ (⟨#[32]⟩ : ByteArray)) ++ x19) x1).bind fun bt162 => (if bt162.2.2 = 0 then (if bt162.1 ≤ x2 then (if 1 + x19.size ≤ 9223372036854775807 then (if (rdOf ByteArray.empty x15 (wrap64 ((x15.length : Int) - 1))).size + ((⟨#[32]⟩ : ByteArray) ++ x19).size ≤ 9223372036854775807 then (terrlaw5_FontWraps.l2 k x1 x2 x9 x10 x13 (x15.set ((wrap64 ((x15.length : Int) - 1)) : Int).toNat ((rdOf ByteArray.empty x15 (wrap64 ((x15.length : Int) - 1))) ++ ((⟨#[32]⟩ : ByteArray) ++ x19))) x87 x88 (wrap64 (x89 + 1))) else (none)) else (none)) else (if x15.length < 8796093022208 then (terrlaw5_FontWraps.l2 k x1 x2 x9 x10 x13 (x15 ++ [x19]) x87 x88 (wrap64 (x89 + 1))) else (none))) else (if x15.length < 8796093022208 then (terrlaw5_FontWraps.l2 k x1 x2 x9 x10 x13 (x15 ++ [x19]) x87 x88 (wrap64 (x89 + 1))) else (none)))) else (none)) else (none)) else (none)) else (none)) else (if x15.length < 8796093022208 then (terrlaw5_FontWraps.l2 k x1 x2 x9 x10 x13 (x15 ++ [x19]) x87 x88 (wrap64 (x89 + 1))) else (none))
end
def terrlaw5_FontWraps.f (k : Nat) (a0 : ByteArray) (a1 : Int) (a2 : Int) : Option (Bool) := (font_Wrap.f k (⟨#[97, 32, 98]⟩ : ByteArray) 1 5).bind fun bt139 => (if bt139.2 = 0 then (terrlaw5_FontWraps.j0 k a0 a1 a2 ((bt139.1.length : Int) != 2)) else (terrlaw5_FontWraps.j0 k a0 a1 a2 true))
theorem terrlaw5_FontWraps.mono_l : ∀ k, (∀ y0 y1 y2 y3, LeO (terrlaw5_FontWraps.j0 k y0 y1 y2 y3) (terrlaw5_FontWraps.j0 (k + 1) y0 y1 y2 y3)) ∧ (∀ y0 y1 y2 y3 y4 y5 y6, LeO (terrlaw5_FontWraps.j1 k y0 y1 y2 y3 y4 y5 y6) (terrlaw5_FontWraps.j1 (k + 1) y0 y1 y2 y3 y4 y5 y6)) ∧ (∀ y0 y1 y2 y3 y4 y5, LeO (terrlaw5_FontWraps.j2 k y0 y1 y2 y3 y4 y5) (terrlaw5_FontWraps.j2 (k + 1) y0 y1 y2 y3 y4 y5)) ∧ (∀ y0 y1 y2 y3 y4 y5 y6 y7, LeO (terrlaw5_FontWraps.l0 k y0 y1 y2 y3 y4 y5 y6 y7) (terrlaw5_FontWraps.l0 (k + 1) y0 y1 y2 y3 y4 y5 y6 y7)) ∧ (∀ y0 y1 y2 y3 y4 y5 y6 y7 y8, LeO (terrlaw5_FontWraps.l1 k y0 y1 y2 y3 y4 y5 y6 y7 y8) (terrlaw5_FontWraps.l1 (k + 1) y0 y1 y2 y3 y4 y5 y6 y7 y8)) ∧ (∀ y0 y1 y2 y3 y4 y5 y6 y7 y8, LeO (terrlaw5_FontWraps.l2 k y0 y1 y2 y3 y4 y5 y6 y7 y8) (terrlaw5_FontWraps.l2 (k + 1) y0 y1 y2 y3 y4 y5 y6 y7 y8)) ∧ (∀ y0 y1 y2 y3 y4 y5 y6 y7 y8 y9 y10, LeO (terrlaw5_FontWraps.j6 k y0 y1 y2 y3 y4 y5 y6 y7 y8 y9 y10) (terrlaw5_FontWraps.j6 (k + 1) y0 y1 y2 y3 y4 y5 y6 y7 y8 y9 y10)) ∧ (∀ y0 y1 y2 y3 y4 y5 y6 y7 y8 y9, LeO (terrlaw5_FontWraps.j7 k y0 y1 y2 y3 y4 y5 y6 y7 y8 y9) (terrlaw5_FontWraps.j7 (k + 1) y0 y1 y2 y3 y4 y5 y6 y7 y8 y9))
  | 0 => ⟨fun _ _ _ _ r h => by simp [terrlaw5_FontWraps.j0] at h, fun _ _ _ _ _ _ _ r h => by simp [terrlaw5_FontWraps.j1] at h, fun _ _ _ _ _ _ r h => by simp [terrlaw5_FontWraps.j2] at h, fun _ _ _ _ _ _ _ _ r h => by simp [terrlaw5_FontWraps.l0] at h, fun _ _ _ _ _ _ _ _ _ r h => by simp [terrlaw5_FontWraps.l1] at h, fun _ _ _ _ _ _ _ _ _ r h => by simp [terrlaw5_FontWraps.l2] at h, fun _ _ _ _ _ _ _ _ _ _ _ r h => by simp [terrlaw5_FontWraps.j6] at h, fun _ _ _ _ _ _ _ _ _ _ r h => by simp [terrlaw5_FontWraps.j7] at h⟩
  | k + 1 => by
    obtain ⟨ih0, ih1, ih2, ih3, ih4, ih5, ih6, ih7⟩ := terrlaw5_FontWraps.mono_l k
    refine ⟨?_, ?_, ?_, ?_, ?_, ?_, ?_, ?_⟩
    · intro y0 y1 y2 y3
      unfold terrlaw5_FontWraps.j0
      repeat' first
      | (with_reducible exact ih0 _ _ _ _)
      | (with_reducible exact ih1 _ _ _ _ _ _ _)
      | (with_reducible exact ih2 _ _ _ _ _ _)
      | (with_reducible exact ih3 _ _ _ _ _ _ _ _)
      | (with_reducible exact ih4 _ _ _ _ _ _ _ _ _)
      | (with_reducible exact ih5 _ _ _ _ _ _ _ _ _)
      | (with_reducible exact ih6 _ _ _ _ _ _ _ _ _ _ _)
      | (with_reducible exact ih7 _ _ _ _ _ _ _ _ _ _)
      | (with_reducible exact font_Wrap.mono _ _ _ _)
      | (with_reducible exact slices_Equal_string_string.mono _ _ _)
      | (with_reducible exact terrref5_TextSize.mono _ _ _)
      | (with_reducible exact LeO.refl _)
      | (with_reducible exact LeO.none _)
      | (with_reducible refine LeO.ite ?_ ?_)
      | (with_reducible refine LeO.bind ?_ (fun _ => ?_))
      | exact ih0 _ _ _ _
      | exact ih1 _ _ _ _ _ _ _
      | exact ih2 _ _ _ _ _ _
      | exact ih3 _ _ _ _ _ _ _ _
      | exact ih4 _ _ _ _ _ _ _ _ _
      | exact ih5 _ _ _ _ _ _ _ _ _
      | exact ih6 _ _ _ _ _ _ _ _ _ _ _
      | exact ih7 _ _ _ _ _ _ _ _ _ _
      | exact font_Wrap.mono _ _ _ _
      | exact slices_Equal_string_string.mono _ _ _
      | exact terrref5_TextSize.mono _ _ _
      | exact LeO.none _
      | refine LeO.ite ?_ ?_
      | refine LeO.bind ?_ (fun _ => ?_)
    · intro y0 y1 y2 y3 y4 y5 y6
      unfold terrlaw5_FontWraps.j1
      repeat' first
      | (with_reducible exact ih0 _ _ _ _)
      | (with_reducible exact ih1 _ _ _ _ _ _ _)
      | (with_reducible exact ih2 _ _ _ _ _ _)
      | (with_reducible exact ih3 _ _ _ _ _ _ _ _)
      | (with_reducible exact ih4 _ _ _ _ _ _ _ _ _)
      | (with_reducible exact ih5 _ _ _ _ _ _ _ _ _)
      | (with_reducible exact ih6 _ _ _ _ _ _ _ _ _ _ _)
      | (with_reducible exact ih7 _ _ _ _ _ _ _ _ _ _)
      | (with_reducible exact font_Wrap.mono _ _ _ _)
      | (with_reducible exact slices_Equal_string_string.mono _ _ _)
      | (with_reducible exact terrref5_TextSize.mono _ _ _)
      | (with_reducible exact LeO.refl _)
      | (with_reducible exact LeO.none _)
      | (with_reducible refine LeO.ite ?_ ?_)
      | (with_reducible refine LeO.bind ?_ (fun _ => ?_))
      | exact ih0 _ _ _ _
      | exact ih1 _ _ _ _ _ _ _
      | exact ih2 _ _ _ _ _ _
      | exact ih3 _ _ _ _ _ _ _ _
      | exact ih4 _ _ _ _ _ _ _ _ _
      | exact ih5 _ _ _ _ _ _ _ _ _
      | exact ih6 _ _ _ _ _ _ _ _ _ _ _
      | exact ih7 _ _ _ _ _ _ _ _ _ _
      | exact font_Wrap.mono _ _ _ _
      | exact slices_Equal_string_string.mono _ _ _
      | exact terrref5_TextSize.mono _ _ _
      | exact LeO.none _
      | refine LeO.ite ?_ ?_
      | refine LeO.bind ?_ (fun _ => ?_)
    · intro y0 y1 y2 y3 y4 y5
      unfold terrlaw5_FontWraps.j2
      repeat' first
      | (with_reducible exact ih0 _ _ _ _)
      | (with_reducible exact ih1 _ _ _ _ _ _ _)
      | (with_reducible exact ih2 _ _ _ _ _ _)
      | (with_reducible exact ih3 _ _ _ _ _ _ _ _)
      | (with_reducible exact ih4 _ _ _ _ _ _ _ _ _)
      | (with_reducible exact ih5 _ _ _ _ _ _ _ _ _)
      | (with_reducible exact ih6 _ _ _ _ _ _ _ _ _ _ _)
      | (with_reducible exact ih7 _ _ _ _ _ _ _ _ _ _)
      | (with_reducible exact font_Wrap.mono _ _ _ _)
      | (with_reducible exact slices_Equal_string_string.mono _ _ _)
      | (with_reducible exact terrref5_TextSize.mono _ _ _)
      | (with_reducible exact LeO.refl _)
      | (with_reducible exact LeO.none _)
      | (with_reducible refine LeO.ite ?_ ?_)
      | (with_reducible refine LeO.bind ?_ (fun _ => ?_))
      | exact ih0 _ _ _ _
      | exact ih1 _ _ _ _ _ _ _
      | exact ih2 _ _ _ _ _ _
      | exact ih3 _ _ _ _ _ _ _ _
      | exact ih4 _ _ _ _ _ _ _ _ _
      | exact ih5 _ _ _ _ _ _ _ _ _
      | exact ih6 _ _ _ _ _ _ _ _ _ _ _
      | exact ih7 _ _ _ _ _ _ _ _ _ _
      | exact font_Wrap.mono _ _ _ _
      | exact slices_Equal_string_string.mono _ _ _
      | exact terrref5_TextSize.mono _ _ _
      | exact LeO.none _
      | refine LeO.ite ?_ ?_
      | refine LeO.bind ?_ (fun _ => ?_)
    · intro y0 y1 y2 y3 y4 y5 y6 y7
      unfold terrlaw5_FontWraps.l0
      repeat' first
      | (with_reducible exact ih0 _ _ _ _)
      | (with_reducible exact ih1 _ _ _ _ _ _ _)
      | (with_reducible exact ih2 _ _ _ _ _ _)
      | (with_reducible exact ih3 _ _ _ _ _ _ _ _)
      | (with_reducible exact ih4 _ _ _ _ _ _ _ _ _)
      | (with_reducible exact ih5 _ _ _ _ _ _ _ _ _)
      | (with_reducible exact ih6 _ _ _ _ _ _ _ _ _ _ _)
      | (with_reducible exact ih7 _ _ _ _ _ _ _ _ _ _)
      | (with_reducible exact font_Wrap.mono _ _ _ _)
      | (with_reducible exact slices_Equal_string_string.mono _ _ _)
      | (with_reducible exact terrref5_TextSize.mono _ _ _)
      | (with_reducible exact LeO.refl _)
      | (with_reducible exact LeO.none _)
      | (with_reducible refine LeO.ite ?_ ?_)
      | (with_reducible refine LeO.bind ?_ (fun _ => ?_))
      | exact ih0 _ _ _ _
      | exact ih1 _ _ _ _ _ _ _
      | exact ih2 _ _ _ _ _ _
      | exact ih3 _ _ _ _ _ _ _ _
      | exact ih4 _ _ _ _ _ _ _ _ _
      | exact ih5 _ _ _ _ _ _ _ _ _
      | exact ih6 _ _ _ _ _ _ _ _ _ _ _
      | exact ih7 _ _ _ _ _ _ _ _ _ _
      | exact font_Wrap.mono _ _ _ _
      | exact slices_Equal_string_string.mono _ _ _
      | exact terrref5_TextSize.mono _ _ _
      | exact LeO.none _
      | refine LeO.ite ?_ ?_
      | refine LeO.bind ?_ (fun _ => ?_)
    · intro y0 y1 y2 y3 y4 y5 y6 y7 y8
      unfold terrlaw5_FontWraps.l1
      repeat' first
      | (with_reducible exact ih0 _ _ _ _)
      | (with_reducible exact ih1 _ _ _ _ _ _ _)
      | (with_reducible exact ih2 _ _ _ _ _ _)
      | (with_reducible exact ih3 _ _ _ _ _ _ _ _)
      | (with_reducible exact ih4 _ _ _ _ _ _ _ _ _)
      | (with_reducible exact ih5 _ _ _ _ _ _ _ _ _)
      | (with_reducible exact ih6 _ _ _ _ _ _ _ _ _ _ _)
      | (with_reducible exact ih7 _ _ _ _ _ _ _ _ _ _)
      | (with_reducible exact font_Wrap.mono _ _ _ _)
      | (with_reducible exact slices_Equal_string_string.mono _ _ _)
      | (with_reducible exact terrref5_TextSize.mono _ _ _)
      | (with_reducible exact LeO.refl _)
      | (with_reducible exact LeO.none _)
      | (with_reducible refine LeO.ite ?_ ?_)
      | (with_reducible refine LeO.bind ?_ (fun _ => ?_))
      | exact ih0 _ _ _ _
      | exact ih1 _ _ _ _ _ _ _
      | exact ih2 _ _ _ _ _ _
      | exact ih3 _ _ _ _ _ _ _ _
      | exact ih4 _ _ _ _ _ _ _ _ _
      | exact ih5 _ _ _ _ _ _ _ _ _
      | exact ih6 _ _ _ _ _ _ _ _ _ _ _
      | exact ih7 _ _ _ _ _ _ _ _ _ _
      | exact font_Wrap.mono _ _ _ _
      | exact slices_Equal_string_string.mono _ _ _
      | exact terrref5_TextSize.mono _ _ _
      | exact LeO.none _
      | refine LeO.ite ?_ ?_
      | refine LeO.bind ?_ (fun _ => ?_)
    · intro y0 y1 y2 y3 y4 y5 y6 y7 y8
      unfold terrlaw5_FontWraps.l2
      repeat' first
      | (with_reducible exact ih0 _ _ _ _)
      | (with_reducible exact ih1 _ _ _ _ _ _ _)
      | (with_reducible exact ih2 _ _ _ _ _ _)
      | (with_reducible exact ih3 _ _ _ _ _ _ _ _)
      | (with_reducible exact ih4 _ _ _ _ _ _ _ _ _)
      | (with_reducible exact ih5 _ _ _ _ _ _ _ _ _)
      | (with_reducible exact ih6 _ _ _ _ _ _ _ _ _ _ _)
      | (with_reducible exact ih7 _ _ _ _ _ _ _ _ _ _)
      | (with_reducible exact font_Wrap.mono _ _ _ _)
      | (with_reducible exact slices_Equal_string_string.mono _ _ _)
      | (with_reducible exact terrref5_TextSize.mono _ _ _)
      | (with_reducible exact LeO.refl _)
      | (with_reducible exact LeO.none _)
      | (with_reducible refine LeO.ite ?_ ?_)
      | (with_reducible refine LeO.bind ?_ (fun _ => ?_))
      | exact ih0 _ _ _ _
      | exact ih1 _ _ _ _ _ _ _
      | exact ih2 _ _ _ _ _ _
      | exact ih3 _ _ _ _ _ _ _ _
      | exact ih4 _ _ _ _ _ _ _ _ _
      | exact ih5 _ _ _ _ _ _ _ _ _
      | exact ih6 _ _ _ _ _ _ _ _ _ _ _
      | exact ih7 _ _ _ _ _ _ _ _ _ _
      | exact font_Wrap.mono _ _ _ _
      | exact slices_Equal_string_string.mono _ _ _
      | exact terrref5_TextSize.mono _ _ _
      | exact LeO.none _
      | refine LeO.ite ?_ ?_
      | refine LeO.bind ?_ (fun _ => ?_)
    · intro y0 y1 y2 y3 y4 y5 y6 y7 y8 y9 y10
      unfold terrlaw5_FontWraps.j6
      repeat' first
      | (with_reducible exact ih0 _ _ _ _)
      | (with_reducible exact ih1 _ _ _ _ _ _ _)
      | (with_reducible exact ih2 _ _ _ _ _ _)
      | (with_reducible exact ih3 _ _ _ _ _ _ _ _)
      | (with_reducible exact ih4 _ _ _ _ _ _ _ _ _)
      | (with_reducible exact ih5 _ _ _ _ _ _ _ _ _)
      | (with_reducible exact ih6 _ _ _ _ _ _ _ _ _ _ _)
      | (with_reducible exact ih7 _ _ _ _ _ _ _ _ _ _)
      | (with_reducible exact font_Wrap.mono _ _ _ _)
      | (with_reducible exact slices_Equal_string_string.mono _ _ _)
      | (with_reducible exact terrref5_TextSize.mono _ _ _)
      | (with_reducible exact LeO.refl _)
      | (with_reducible exact LeO.none _)
      | (with_reducible refine LeO.ite ?_ ?_)
      | (with_reducible refine LeO.bind ?_ (fun _ => ?_))
      | exact ih0 _ _ _ _
      | exact ih1 _ _ _ _ _ _ _
      | exact ih2 _ _ _ _ _ _
      | exact ih3 _ _ _ _ _ _ _ _
      | exact ih4 _ _ _ _ _ _ _ _ _
      | exact ih5 _ _ _ _ _ _ _ _ _
      | exact ih6 _ _ _ _ _ _ _ _ _ _ _
      | exact ih7 _ _ _ _ _ _ _ _ _ _
      | exact font_Wrap.mono _ _ _ _
      | exact slices_Equal_string_string.mono _ _ _
      | exact terrref5_TextSize.mono _ _ _
      | exact LeO.none _
      | refine LeO.ite ?_ ?_
      | refine LeO.bind ?_ (fun _ => ?_)
    · intro y0 y1 y2 y3 y4 y5 y6 y7 y8 y9
      unfold terrlaw5_FontWraps.j7
      repeat' first
      | (with_reducible exact ih0 _ _ _ _)
      | (with_reducible exact ih1 _ _ _ _ _ _ _)
      | (with_reducible exact ih2 _ _ _ _ _ _)
      | (with_reducible exact ih3 _ _ _ _ _ _ _ _)
      | (with_reducible exact ih4 _ _ _ _ _ _ _ _ _)
      | (with_reducible exact ih5 _ _ _ _ _ _ _ _ _)
      | (with_reducible exact ih6 _ _ _ _ _ _ _ _ _ _ _)
      | (with_reducible exact ih7 _ _ _ _ _ _ _ _ _ _)
      | (with_reducible exact font_Wrap.mono _ _ _ _)
      | (with_reducible exact slices_Equal_string_string.mono _ _ _)
      | (with_reducible exact terrref5_TextSize.mono _ _ _)
      | (with_reducible exact LeO.refl _)
      | (with_reducible exact LeO.none _)
      | (with_reducible refine LeO.ite ?_ ?_)
      | (with_reducible refine LeO.bind ?_ (fun _ => ?_))
      | exact ih0 _ _ _ _
      | exact ih1 _ _ _ _ _ _ _
      | exact ih2 _ _ _ _ _ _
      | exact ih3 _ _ _ _ _ _ _ _
      | exact ih4 _ _ _ _ _ _ _ _ _
      | exact ih5 _ _ _ _ _ _ _ _ _
      | exact ih6 _ _ _ _ _ _ _ _ _ _ _
      | exact ih7 _ _ _ _ _ _ _ _ _ _
      | exact font_Wrap.mono _ _ _ _
      | exact slices_Equal_string_string.mono _ _ _
      | exact terrref5_TextSize.mono _ _ _
      | exact LeO.none _
      | refine LeO.ite ?_ ?_
      | refine LeO.bind ?_ (fun _ => ?_)
theorem terrlaw5_FontWraps.mono : ∀ a0 a1 a2 k, LeO (terrlaw5_FontWraps.f k a0 a1 a2) (terrlaw5_FontWraps.f (k + 1) a0 a1 a2) := by
  intro a0 a1 a2 k
  obtain ⟨ih0, ih1, ih2, ih3, ih4, ih5, ih6, ih7⟩ := terrlaw5_FontWraps.mono_l k
  unfold terrlaw5_FontWraps.f
  repeat' first
      | (with_reducible exact ih0 _ _ _ _)
      | (with_reducible exact ih1 _ _ _ _ _ _ _)
      | (with_reducible exact ih2 _ _ _ _ _ _)
      | (with_reducible exact ih3 _ _ _ _ _ _ _ _)
      | (with_reducible exact ih4 _ _ _ _ _ _ _ _ _)
      | (with_reducible exact ih5 _ _ _ _ _ _ _ _ _)
      | (with_reducible exact ih6 _ _ _ _ _ _ _ _ _ _ _)
      | (with_reducible exact ih7 _ _ _ _ _ _ _ _ _ _)
      | (with_reducible exact font_Wrap.mono _ _ _ _)
      | (with_reducible exact slices_Equal_string_string.mono _ _ _)
      | (with_reducible exact terrref5_TextSize.mono _ _ _)
      | (with_reducible exact LeO.refl _)
      | (with_reducible exact LeO.none _)
      | (with_reducible refine LeO.ite ?_ ?_)
      | (with_reducible refine LeO.bind ?_ (fun _ => ?_))
      | exact ih0 _ _ _ _
      | exact ih1 _ _ _ _ _ _ _
      | exact ih2 _ _ _ _ _ _
      | exact ih3 _ _ _ _ _ _ _ _
      | exact ih4 _ _ _ _ _ _ _ _ _
      | exact ih5 _ _ _ _ _ _ _ _ _
      | exact ih6 _ _ _ _ _ _ _ _ _ _ _
      | exact ih7 _ _ _ _ _ _ _ _ _ _
      | exact font_Wrap.mono _ _ _ _
      | exact slices_Equal_string_string.mono _ _ _
      | exact terrref5_TextSize.mono _ _ _
      | exact LeO.none _
      | refine LeO.ite ?_ ?_
      | refine LeO.bind ?_ (fun _ => ?_)
set_option maxHeartbeats 8000000 in
set_option maxRecDepth 100000 in
theorem terrlaw5_FontWraps.calls (k : Nat) (a0 : ByteArray) (a1 : Int) (a2 : Int) (r : Bool) (w : World) (hT : Spaces w) (h : terrlaw5_FontWraps.f k a0 a1 a2 = some r) (hr : r = true) :
    Calls Tryd.prog 3 #[.string a0, .int .i64 a1, .int .i64 a2] w fun e w' => e = .returned (.bool r) ∧ Below w.heap.size w w' := by
  have HB := Aside0.mk (Below.refl w.heap.size w)
  have H : ((font_Wrap.f k (⟨#[97, 32, 98]⟩ : ByteArray) 1 5).bind fun bt139 => (if bt139.2 = 0 then (terrlaw5_FontWraps.j0 k a0 a1 a2 ((bt139.1.length : Int) != 2)) else (terrlaw5_FontWraps.j0 k a0 a1 a2 true))) = some r := h
  clear h
  replace H := Option.bind_eq_some_iff.mp H
  obtain ⟨⟨t139, t140⟩, A40, H⟩ := H
  replace H : (if t140 = 0 then (terrlaw5_FontWraps.j0 k a0 a1 a2 ((t139.length : Int) != 2)) else (terrlaw5_FontWraps.j0 k a0 a1 a2 true)) = some r := H
  have A4 := Aside0.mk A40
  clear A40
  have HC5 := Aside0.mk H
  clear H
  go_enter Tryd.func3, Tryd.ntmps3
  go_upto_region 2 with (first | ((with_reducible refine gate_callee (f := 5) rfl ?_); refine goesL_ (some 28) rfl rfl Tryd.func5 (by kernel_rfl) rfl #[.string (⟨#[97, 32, 98]⟩ : ByteArray), .int .i64 1, .int .i64 5] rfl (by (try simp only [List.map_toArray, List.map_cons, List.map_nil]); first | done | rfl | (simp only [List.length_drop, List.length_take]; rfl)) ?_; (with_reducible refine (font_Wrap.calls k (⟨#[97, 32, 98]⟩ : ByteArray) 1 5 t139 t140 _ (hT.below (by repeat (first | (with_reducible first | exact HB.out | apply below_alloc | apply pw_below_drewN | apply below_drew1) | exact HB.out))) A4.out).mono ?_); rintro e w6 ⟨v141, rfl, ho0, hb⟩; refine ⟨_, rfl, ?_⟩; have n0_ := Aside0.mk (Kd.R_lower ho0 (below_size (by repeat (first | (with_reducible first | exact HB.out | apply below_alloc | apply pw_below_drewN | apply below_drew1) | exact HB.out)))); have n1_ := Aside0.mk (below_step (by repeat (first | (with_reducible first | exact HB.out | apply below_alloc | apply pw_below_drewN | apply below_drew1) | exact HB.out)) hb); clear HB; have HO142 := n0_; have HB := n1_; clear n0_ n1_; (try clear hb); (try clear hb2); (try clear hk); (try clear hi); (try clear ho0)))
  (try simp only [Act.put, List.setIfInBounds_toArray, List.set_cons_zero, List.set_cons_succ])
  go_cut [37] (fun v37 wc => ∃ (kq : Nat) (x37_4 : Bool), v37 = .bool x37_4 ∧ Aside0 (terrlaw5_FontWraps.j0 kq a0 a1 a2 x37_4 = some r) ∧ Aside0 (kq ≤ k) ∧ Aside0 (Below w.heap.size w wc))
  case first =>
    have H := HC5.out
    clear HC5
    by_cases c7 : t140 = 0
    · rw [if_pos c7] at H
      have c7b0 : (t140 == 0) = true := beq_iff_eq.mpr c7
      have c7b1 : (t140 != 0) = false := bne_eq_false_iff_eq.mpr c7
      clear c7
      (first | rw [c7b0] | (simp only [i64_w, i32_w]; rw [c7b0]) | skip)
      have H' := Aside0.mk H
      clear H
      obtain ⟨Ao8, co8, eo8⟩ := Kd.R_slice HO142.out
      subst eo8
      go_wp2
      go_meet
      case rel => exact ⟨_, (((t139.length : Int) != 2)), (by first | rfl | (simp; done) | (simp [*]; done)), H', ⟨by first | omega | exact Nat.le_refl _⟩, ⟨by repeat (first | (with_reducible first | exact HB.out | apply below_alloc | apply pw_below_drewN | apply below_drew1) | exact HB.out)⟩⟩
    · rw [if_neg c7] at H
      have c7b0 : (t140 == 0) = false := beq_eq_false_iff_ne.mpr c7
      have c7b1 : (t140 != 0) = true := bne_iff_ne.mpr c7
      (first | rw [c7b0] | (simp only [i64_w, i32_w]; rw [c7b0]) | skip)
      have H' := Aside0.mk H
      clear H
      go_wp2
      go_meet
      case rel => exact ⟨_, (true), (by first | rfl | (simp; done) | (simp [*]; done)), H', ⟨by first | omega | exact Nat.le_refl _⟩, ⟨by repeat (first | (with_reducible first | exact HB.out | apply below_alloc | apply pw_below_drewN | apply below_drew1) | exact HB.out)⟩⟩
  case rest =>
    clear HC5
    try clear p2
    try clear c3
    try clear c5
    try clear c7
    try clear c7b0
    try clear c7b1
    obtain ⟨kq, x37_4, rfl, HA, HJ4, HB⟩ := hcut
    cases kq with
    | zero => exact absurd HA.out (by simp [terrlaw5_FontWraps.j0])
    | succ kj4 =>
      have H := HA.out
      clear HA
      simp only [terrlaw5_FontWraps.j0] at H
      by_cases c9 : x37_4 = true
      · subst c9
        have H1 : (some false) = some r := by rw [if_pos rfl] at H; exact H
        clear H
        have H := H1
        clear H1
        exact absurd (H.trans (congrArg some hr)) (by decide)
      · replace c9 := Bool.eq_false_iff.mpr c9
        subst c9
        have H1 : ((font_Wrap.f kj4 a0 a1 a2).bind fun bt143 => ((terrref5_TextSize.f kj4 a0 a1).bind fun bt147 => (if bt147.2.2 = 0 then (terrlaw5_FontWraps.j1 kj4 a0 a1 a2 bt143.1 bt143.2 bt147.2.2 (decide (a2 < 1))) else (terrlaw5_FontWraps.j1 kj4 a0 a1 a2 bt143.1 bt143.2 bt147.2.2 false)))) = some r := by rw [if_neg (show ¬ (false = true) by decide)] at H; exact H
        clear H
        have H := H1
        clear H1
        replace H := Option.bind_eq_some_iff.mp H
        obtain ⟨⟨t143, t144⟩, A100, H⟩ := H
        replace H : ((terrref5_TextSize.f kj4 a0 a1).bind fun bt147 => (if bt147.2.2 = 0 then (terrlaw5_FontWraps.j1 kj4 a0 a1 a2 t143 t144 bt147.2.2 (decide (a2 < 1))) else (terrlaw5_FontWraps.j1 kj4 a0 a1 a2 t143 t144 bt147.2.2 false))) = some r := H
        have A10 := Aside0.mk A100
        clear A100
        replace H := Option.bind_eq_some_iff.mp H
        obtain ⟨⟨t147, t148, t149⟩, A110, H⟩ := H
        replace H : (if t149 = 0 then (terrlaw5_FontWraps.j1 kj4 a0 a1 a2 t143 t144 t149 (decide (a2 < 1))) else (terrlaw5_FontWraps.j1 kj4 a0 a1 a2 t143 t144 t149 false)) = some r := H
        have A11 := Aside0.mk A110
        clear A110
        have HC12 := Aside0.mk H
        clear H
        go_upto_region 6 with (first | ((with_reducible refine gate_callee (f := 5) rfl ?_); refine goesL_ (some 42) rfl rfl Tryd.func5 (by kernel_rfl) rfl #[.string a0, .int .i64 a1, .int .i64 a2] rfl (by (try simp only [List.map_toArray, List.map_cons, List.map_nil]); first | done | rfl | (simp only [List.length_drop, List.length_take]; rfl)) ?_; (with_reducible refine (font_Wrap.calls kj4 a0 a1 a2 t143 t144 _ (hT.below (by repeat (first | (with_reducible first | exact HB.out | apply below_alloc | apply pw_below_drewN | apply below_drew1) | exact HB.out))) A10.out).mono ?_); rintro e w13 ⟨v145, rfl, ho0, hb⟩; refine ⟨_, rfl, ?_⟩; have n0_ := Aside0.mk (Kd.R_lower ho0 (below_size (by repeat (first | (with_reducible first | exact HB.out | apply below_alloc | apply pw_below_drewN | apply below_drew1) | exact HB.out)))); have n1_ := Aside0.mk (below_step (by repeat (first | (with_reducible first | exact HB.out | apply below_alloc | apply pw_below_drewN | apply below_drew1) | exact HB.out)) hb); clear HB; have HO146 := n0_; have HB := n1_; clear n0_ n1_; (try clear hb); (try clear hb2); (try clear hk); (try clear hi); (try clear ho0)) | ((with_reducible refine gate_callee (f := 6) rfl ?_); refine goesL_ (some 48) rfl rfl Tryd.func6 (by kernel_rfl) rfl #[.string a0, .int .i64 a1] rfl (by (try simp only [List.map_toArray, List.map_cons, List.map_nil]); first | done | rfl | (simp only [List.length_drop, List.length_take]; rfl)) ?_; (with_reducible refine (terrref5_TextSize.calls kj4 a0 a1 t147 t148 t149 _ A11.out).mono ?_); rintro e w14 ⟨rfl, hb⟩; refine ⟨_, rfl, ?_⟩; have n0_ := Aside0.mk (Kd.R_below (by (with_reducible repeat (first | apply Kd.R_alloc | apply Kd.R_drewN | apply Kd.R_drew)); exact HO146.out) hb); have n1_ := Aside0.mk (below_step (by repeat (first | (with_reducible first | exact HB.out | apply below_alloc | apply pw_below_drewN | apply below_drew1) | exact HB.out)) hb); clear HO146; clear HB; have HO146 := n0_; have HB := n1_; clear n0_ n1_; (try clear hb); (try clear hb2); (try clear hk); (try clear hi)))
        (try simp only [Act.put, List.setIfInBounds_toArray, List.set_cons_zero, List.set_cons_succ])
        go_cut [57] (fun v57 wc => ∃ (kq : Nat) (x57_11 : Bool), v57 = .bool x57_11 ∧ Aside0 (terrlaw5_FontWraps.j1 kq a0 a1 a2 t143 t144 t149 x57_11 = some r) ∧ Aside0 (kq ≤ kj4) ∧ Aside0 (Kd.R Kd.string 9 wc w.heap.size (fun _ => True) v145 t143) ∧ Aside0 (Below w.heap.size w wc))
        case first =>
          have H := HC12.out
          clear HC12
          by_cases c15 : t149 = 0
          · rw [if_pos c15] at H
            have c15b0 : (t149 == 0) = true := beq_iff_eq.mpr c15
            have c15b1 : (t149 != 0) = false := bne_eq_false_iff_eq.mpr c15
            clear c15
            (first | rw [c15b0] | (simp only [i64_w, i32_w]; rw [c15b0]) | skip)
            have H' := Aside0.mk H
            clear H
            go_wp2
            go_meet
            case rel => exact ⟨_, (decide (a2 < 1)), (by first | rfl | (simp; done) | (simp [*]; done)), H', ⟨by have := HJ4.out; first | omega | exact Nat.le_refl _⟩, ⟨by (with_reducible repeat (first | apply Kd.R_alloc | apply Kd.R_drewN | apply Kd.R_drew)); exact HO146.out⟩, ⟨by repeat (first | (with_reducible first | exact HB.out | apply below_alloc | apply pw_below_drewN | apply below_drew1) | exact HB.out)⟩⟩
          · rw [if_neg c15] at H
            have c15b0 : (t149 == 0) = false := beq_eq_false_iff_ne.mpr c15
            have c15b1 : (t149 != 0) = true := bne_iff_ne.mpr c15
            (first | rw [c15b0] | (simp only [i64_w, i32_w]; rw [c15b0]) | skip)
            have H' := Aside0.mk H
            clear H
            go_wp2
            go_meet
            case rel => exact ⟨_, (false), (by first | rfl | (simp; done) | (simp [*]; done)), H', ⟨by have := HJ4.out; first | omega | exact Nat.le_refl _⟩, ⟨by (with_reducible repeat (first | apply Kd.R_alloc | apply Kd.R_drewN | apply Kd.R_drew)); exact HO146.out⟩, ⟨by repeat (first | (with_reducible first | exact HB.out | apply below_alloc | apply pw_below_drewN | apply below_drew1) | exact HB.out)⟩⟩
        case rest =>
          clear HC12
          try clear c1
          try clear p2
          try clear c3
          try clear c5
          try clear c6
          try clear c7
          try clear c7b0
          try clear c7b1
          try clear c9
          try clear c15
          try clear c15b0
          try clear c15b1
          try clear p2
          obtain ⟨kq, x57_11, rfl, HA, HJ11, HO_9, HB⟩ := hcut
          cases kq with
          | zero => exact absurd HA.out (by simp [terrlaw5_FontWraps.j1])
          | succ kj11 =>
            have H := HA.out
            clear HA
            simp only [terrlaw5_FontWraps.j1] at H
            have HC16 := Aside0.mk H
            clear H
            go_upto_if 57 with (fail)
            go_cut [13] (fun v13 wc => ∃ (kq : Nat) (x13_15 : Int), v13 = .int .i64 x13_15 ∧ Aside0 (terrlaw5_FontWraps.j2 kq a0 a1 a2 t143 t144 x13_15 = some r) ∧ Aside0 (kq ≤ kj11) ∧ Aside0 (Kd.R Kd.string 9 wc w.heap.size (fun _ => True) v145 t143) ∧ Aside0 (Below w.heap.size w wc))
            case first =>
              have H := HC16.out
              clear HC16
              by_cases c17 : x57_11 = true
              · subst c17
                have H1 : (terrlaw5_FontWraps.j2 kj11 a0 a1 a2 t143 t144 1) = some r := by rw [if_pos rfl] at H; exact H
                clear H
                have H := H1
                clear H1
                have H' := Aside0.mk H
                clear H
                go_wp2
                go_meet
                case rel => exact ⟨_, (1), (by first | rfl | (simp; done) | (simp [*]; done)), H', ⟨by have := HJ4.out; have := HJ11.out; first | omega | exact Nat.le_refl _⟩, ⟨by (with_reducible repeat (first | apply Kd.R_alloc | apply Kd.R_drewN | apply Kd.R_drew)); exact HO_9.out⟩, ⟨by repeat (first | (with_reducible first | exact HB.out | apply below_alloc | apply pw_below_drewN | apply below_drew1) | exact HB.out)⟩⟩
              · replace c17 := Bool.eq_false_iff.mpr c17
                subst c17
                have H1 : (terrlaw5_FontWraps.j2 kj11 a0 a1 a2 t143 t144 t149) = some r := by rw [if_neg (show ¬ (false = true) by decide)] at H; exact H
                clear H
                have H := H1
                clear H1
                have H' := Aside0.mk H
                clear H
                go_wp2
                go_meet
                case rel => exact ⟨_, (t149), (by first | rfl | (simp; done) | (simp [*]; done)), H', ⟨by have := HJ4.out; have := HJ11.out; first | omega | exact Nat.le_refl _⟩, ⟨by (with_reducible repeat (first | apply Kd.R_alloc | apply Kd.R_drewN | apply Kd.R_drew)); exact HO_9.out⟩, ⟨by repeat (first | (with_reducible first | exact HB.out | apply below_alloc | apply pw_below_drewN | apply below_drew1) | exact HB.out)⟩⟩
            case rest =>
              clear HC16
              try clear c1
              try clear p2
              try clear c3
              try clear c5
              try clear c6
              try clear c7
              try clear c7b0
              try clear c7b1
              try clear c9
              try clear c15
              try clear c15b0
              try clear c15b1
              try clear c17
              try clear p2
              obtain ⟨kq, x13_15, rfl, HA, HJ15, HO_9, HB⟩ := hcut
              cases kq with
              | zero => exact absurd HA.out (by simp [terrlaw5_FontWraps.j2])
              | succ kj15 =>
                have H := HA.out
                clear HA
                simp only [terrlaw5_FontWraps.j2] at H
                have H' := Aside0.mk H
                clear H
                go_wp2
                go_loopg [14, 16] kj15 (fun kq v14 v16 w' => ∃ (x14_4 : List ByteArray) (x16_4 : Int), v16 = .int .i64 x16_4 ∧ Aside0 (terrlaw5_FontWraps.l0 kq a0 a1 a2 t143 t144 x13_15 x14_4 x16_4 = some r) ∧ Aside0 (kq ≤ kj15) ∧ Aside0 (Kd.R Kd.string 9 w' w.heap.size (fun k_ => some k_ ≠ (v14 : Value).ownBlock) v145 t143) ∧ Aside0 (Kd.R Kd.string 9 w' w.heap.size (fun k_ => some k_ ≠ (v145 : Value).ownBlock) v14 x14_4) ∧ Aside0 (Below w.heap.size w w'))
                case atStart => exact ⟨(([] : List ByteArray)), (0), (by first | rfl | (simp; done) | (simp [*]; done)), H', ⟨Nat.le_refl _⟩, ⟨by (with_reducible repeat (first | apply Kd.R_alloc | apply Kd.R_drewN | apply Kd.R_drew)); exact Kd.R_mono HO_9.out (fun _ hk => (by simp [Value.ownBlock]))⟩, ⟨by first | exact Kd.R_nil _ _ _ _ _ | exact Kd.N_nil _ _ _ _ _ | exact Kd.V_nil _ _ _ _ _ | exact Kd.Q_nil _ _ _ _ _ | exact Kd.S_nil _ _ _ _ _⟩, ⟨by repeat (first | (with_reducible first | exact HB.out | apply below_alloc | apply pw_below_drewN | apply below_drew1) | exact HB.out)⟩⟩
                case round =>
                  clear H'
                  try clear c1
                  try clear p2
                  try clear c3
                  try clear c5
                  try clear c6
                  try clear c7
                  try clear c7b0
                  try clear c7b1
                  try clear c9
                  try clear c15
                  try clear c15b0
                  try clear c15b1
                  try clear c17
                  try clear p2
                  obtain ⟨x14_4, x16_4, rfl, HA, HK4, HO_9, HO_14, HB⟩ := hrel
                  cases gk with
                  | zero => exact absurd HA.out (by simp [terrlaw5_FontWraps.l0])
                  | succ k4 =>
                    have H := HA.out
                    clear HA
                    simp only [terrlaw5_FontWraps.l0] at H
                    by_cases c18 : x16_4 < (a0.size : Int)
                    · rw [if_pos c18] at H
                      have c18b0 : decide (x16_4 < (a0.size : Int)) = true := decide_eq_true c18
                      clear c18
                      have H' := Aside0.mk H
                      clear H
                      go_wp2
                      go_loopg [17] k4 (fun kq v17 w' => ∃ (x17_5 : Int), v17 = .int .i64 x17_5 ∧ Aside0 (terrlaw5_FontWraps.l1 kq a0 a1 a2 t143 t144 x13_15 x14_4 x16_4 x17_5 = some r) ∧ Aside0 (kq ≤ k4) ∧ Aside0 (Kd.R Kd.string 9 w' w.heap.size (fun k_ => some k_ ≠ (u14 : Value).ownBlock) v145 t143) ∧ Aside0 (Kd.R Kd.string 9 w' w.heap.size (fun k_ => some k_ ≠ (v145 : Value).ownBlock) u14 x14_4) ∧ Aside0 (Below w.heap.size w w'))
                      case atStart => exact ⟨(x16_4), (by first | rfl | (simp; done) | (simp [*]; done)), H', ⟨Nat.le_refl _⟩, ⟨by (with_reducible repeat (first | apply Kd.R_alloc | apply Kd.R_drewN | apply Kd.R_drew)); exact HO_9.out⟩, ⟨by (with_reducible repeat (first | apply Kd.R_alloc | apply Kd.R_drewN | apply Kd.R_drew)); exact HO_14.out⟩, ⟨by repeat (first | (with_reducible first | exact HB.out | apply below_alloc | apply pw_below_drewN | apply below_drew1) | exact HB.out)⟩⟩
                      case round =>
                        clear H'
                        try clear c1
                        try clear p2
                        try clear c3
                        try clear c5
                        try clear c6
                        try clear c7
                        try clear c7b0
                        try clear c7b1
                        try clear c9
                        try clear c15
                        try clear c15b0
                        try clear c15b1
                        try clear c17
                        try clear c18
                        try clear c18b0
                        try clear p2
                        obtain ⟨x17_5, rfl, HA, HK5, HO_9, HO_14, HB⟩ := hrel
                        cases gk with
                        | zero => exact absurd HA.out (by simp [terrlaw5_FontWraps.l1])
                        | succ k5 =>
                          have H := HA.out
                          clear HA
                          simp only [terrlaw5_FontWraps.l1] at H
                          by_cases c19 : x17_5 < (a0.size : Int)
                          · rw [if_pos c19] at H
                            have c19b0 : decide (x17_5 < (a0.size : Int)) = true := decide_eq_true c19
                            clear c19
                            by_cases c20 : 0 ≤ x17_5
                            · rw [if_pos c20] at H
                              have c20b0 : decide (0 ≤ x17_5) = true := decide_eq_true c20
                              clear c20
                              by_cases c22 : (bt a0 x17_5) = 32
                              · rw [if_pos c22] at H
                                have c22b0 : ((bt a0 x17_5) == 32) = true := beq_iff_eq.mpr c22
                                have c22b1 : ((bt a0 x17_5) != 32) = false := bne_eq_false_iff_eq.mpr c22
                                clear c22
                                by_cases c23 : x17_5 > x16_4
                                · rw [if_pos c23] at H
                                  have c23b0 : decide (x16_4 < x17_5) = true := decide_eq_true c23
                                  clear c23
                                  by_cases c24 : 0 ≤ x16_4
                                  · rw [if_pos c24] at H
                                    have c24b0 := eq_true c24
                                    have c24b1 : decide (0 ≤ x16_4) = true := decide_eq_true c24
                                    clear c24
                                    by_cases c25 : x16_4 ≤ x17_5
                                    · rw [if_pos c25] at H
                                      have c25b0 := eq_true c25
                                      have c25b1 : decide (x16_4 ≤ x17_5) = true := decide_eq_true c25
                                      clear c25
                                      by_cases c26 : x17_5 ≤ (a0.size : Int)
                                      · rw [if_pos c26] at H
                                        have c26b0 := eq_true c26
                                        have c26b1 : decide (x17_5 ≤ (a0.size : Int)) = true := decide_eq_true c26
                                        clear c26
                                        by_cases c27 : x14_4.length < 8796093022208
                                        · rw [if_pos c27] at H
                                          have LMc27 := Aside0.mk c27
                                          clear c27
                                          obtain ⟨y150, hy150⟩ : ∃ y_ : List ByteArray, y_ = (x14_4 ++ [a0.extract (x16_4 : Int).toNat (x17_5 : Int).toNat]) := ⟨_, rfl⟩
                                          replace H : (terrlaw5_FontWraps.l0 k5 a0 a1 a2 t143 t144 x13_15 y150 (wrap64 (x17_5 + 1))) = some r := by first | (rw [hy150]; with_reducible exact H) | (have H2_ := (Option.bind_some _ _).symm.trans H; rw [hy150]; with_reducible exact H2_) | (have H2_ := (Option.bind_some _ _).symm.trans H; with_reducible exact H2_) | with_reducible exact H | (rw [hy150]; exact H) | exact H
                                          have Ny150 := Aside0.mk hy150
                                          clear hy150
                                          have H' := Aside0.mk H
                                          clear H
                                          have p21 : 0 ≤ (x17_5 : Int) := of_decide_eq_true (by first | (with_reducible assumption) | assumption)
                                          have q21 : x17_5 < (a0.size : Int) := of_decide_eq_true (by first | (with_reducible assumption) | assumption)
                                          have hx21 := bt_at a0 x17_5
                                          replace p21 := eq_true p21
                                          replace q21 := eq_true q21
                                          go_wp2_with (first | ((with_reducible refine gate_builtin (b := .append) (xs := #[.tmp 78, .tmp 83]) rfl ?_); (try (refine gate_guard (by rfl) ?_; dsimp only)); at_builtin; refine Kd.R_append Kd.string (w0 := w) w.heap.size rfl (.tmp 78) (.tmp 83) 22 9 (.string ⟨#[]⟩) 16 rfl Tryd.underlying22 info9 rfl (by decide) (by omega) u14 x14_4 (a0.extract (x16_4 : Int).toNat (x17_5 : Int).toNat) [.string (a0.extract (x16_4 : Int).toNat (x17_5 : Int).toNat)] (fun k_ => some k_ ≠ (v145 : Value).ownBlock) (fun _ => False) rfl rfl ?aP (fun _ hk => hk.elim) ?aF ?aO ?aB ?aS ?aL ?_; (case aP => exact rfl); (case aB => exact (by repeat (first | (with_reducible first | exact HB.out | apply below_alloc | apply pw_below_drewN | apply below_drew1) | exact HB.out))); (case aF => exact (fun k_ hk => Kd.fresh' (Kd.R_lt (by (with_reducible repeat (first | apply Kd.R_alloc | apply Kd.R_drewN | apply Kd.R_drew)); exact HO_9.out)) k_ hk)); (case aO => exact (by (with_reducible repeat (first | apply Kd.R_alloc | apply Kd.R_drewN | apply Kd.R_drew)); exact HO_14.out)); (case aS => exact (below_size (by repeat (first | (with_reducible first | exact HB.out | apply below_alloc | apply pw_below_drewN | apply below_drew1) | exact HB.out)))); (case aL => have := LMc27.out; omega); intro v151 w28 ho hb hg hat; rw [← Ny150.out] at ho; have n0_ := Aside0.mk (Kd.R_after (ok := (fun _ => True)) (by (with_reducible repeat (first | apply Kd.R_alloc | apply Kd.R_drewN | apply Kd.R_drew)); exact Kd.R_mono HO_9.out (fun _ hk => ⟨trivial, hk⟩)) hg hat); have n1_ := Aside0.mk (hb); have n2_ := Aside0.mk (ho); clear HO_9; clear HB; clear HO_14; have HO_9 := n0_; have HB := n1_; have HO152 := n2_; clear n0_ n1_ n2_; clear ho hb hg hat))
                                          go_roundg k5
                                          case measure => have := HJ4.out; have := HJ11.out; have := HJ15.out; have := HK4.out; have := HK5.out; omega
                                          case rel => exact ⟨(y150), (wrap64 (x17_5 + 1)), (by first | rfl | (simp; done) | (simp [*]; done)), H', ⟨by have := HJ4.out; have := HJ11.out; have := HJ15.out; have := HK4.out; have := HK5.out; omega⟩, ⟨by (with_reducible repeat (first | apply Kd.R_alloc | apply Kd.R_drewN | apply Kd.R_drew)); exact Kd.R_mono HO_9.out (fun _ hk => hk.2)⟩, ⟨by (with_reducible repeat (first | apply Kd.R_alloc | apply Kd.R_drewN | apply Kd.R_drew)); exact HO152.out⟩, ⟨by repeat (first | (with_reducible first | exact HB.out | apply below_alloc | apply pw_below_drewN | apply below_drew1) | exact HB.out)⟩⟩
                                        · rw [if_neg c27] at H
                                          exact absurd H (by simp)
                                      · rw [if_neg c26] at H
                                        exact absurd H (by simp)
                                    · rw [if_neg c25] at H
                                      exact absurd H (by simp)
                                  · rw [if_neg c24] at H
                                    exact absurd H (by simp)
                                · rw [if_neg c23] at H
                                  have c23b0 : decide (x16_4 < x17_5) = false := decide_eq_false c23
                                  clear c23
                                  have H' := Aside0.mk H
                                  clear H
                                  have p21 : 0 ≤ (x17_5 : Int) := of_decide_eq_true (by first | (with_reducible assumption) | assumption)
                                  have q21 : x17_5 < (a0.size : Int) := of_decide_eq_true (by first | (with_reducible assumption) | assumption)
                                  have hx21 := bt_at a0 x17_5
                                  replace p21 := eq_true p21
                                  replace q21 := eq_true q21
                                  go_wp2
                                  go_roundg k5
                                  case measure => have := HJ4.out; have := HJ11.out; have := HJ15.out; have := HK4.out; have := HK5.out; omega
                                  case rel => exact ⟨(x14_4), (wrap64 (x17_5 + 1)), (by first | rfl | (simp; done) | (simp [*]; done)), H', ⟨by have := HJ4.out; have := HJ11.out; have := HJ15.out; have := HK4.out; have := HK5.out; omega⟩, ⟨by (with_reducible repeat (first | apply Kd.R_alloc | apply Kd.R_drewN | apply Kd.R_drew)); exact HO_9.out⟩, ⟨by (with_reducible repeat (first | apply Kd.R_alloc | apply Kd.R_drewN | apply Kd.R_drew)); exact HO_14.out⟩, ⟨by repeat (first | (with_reducible first | exact HB.out | apply below_alloc | apply pw_below_drewN | apply below_drew1) | exact HB.out)⟩⟩
                              · rw [if_neg c22] at H
                                have c22b0 : ((bt a0 x17_5) == 32) = false := beq_eq_false_iff_ne.mpr c22
                                have c22b1 : ((bt a0 x17_5) != 32) = true := bne_iff_ne.mpr c22
                                have H' := Aside0.mk H
                                clear H
                                have p21 : 0 ≤ (x17_5 : Int) := of_decide_eq_true (by first | (with_reducible assumption) | assumption)
                                have q21 : x17_5 < (a0.size : Int) := of_decide_eq_true (by first | (with_reducible assumption) | assumption)
                                have hx21 := bt_at a0 x17_5
                                replace p21 := eq_true p21
                                replace q21 := eq_true q21
                                go_wp2
                                go_roundg k5
                                case measure => have := HJ4.out; have := HJ11.out; have := HJ15.out; have := HK4.out; have := HK5.out; omega
                                case rel => exact ⟨(wrap64 (x17_5 + 1)), (by first | rfl | (simp; done) | (simp [*]; done)), H', ⟨by have := HJ4.out; have := HJ11.out; have := HJ15.out; have := HK4.out; have := HK5.out; omega⟩, ⟨by (with_reducible repeat (first | apply Kd.R_alloc | apply Kd.R_drewN | apply Kd.R_drew)); exact HO_9.out⟩, ⟨by (with_reducible repeat (first | apply Kd.R_alloc | apply Kd.R_drewN | apply Kd.R_drew)); exact HO_14.out⟩, ⟨by repeat (first | (with_reducible first | exact HB.out | apply below_alloc | apply pw_below_drewN | apply below_drew1) | exact HB.out)⟩⟩
                            · rw [if_neg c20] at H
                              exact absurd H (by simp)
                          · rw [if_neg c19] at H
                            have c19b0 : decide (x17_5 < (a0.size : Int)) = false := decide_eq_false c19
                            clear c19
                            by_cases c29 : x17_5 > x16_4
                            · rw [if_pos c29] at H
                              have c29b0 : decide (x16_4 < x17_5) = true := decide_eq_true c29
                              clear c29
                              by_cases c30 : 0 ≤ x16_4
                              · rw [if_pos c30] at H
                                have c30b0 := eq_true c30
                                have c30b1 : decide (0 ≤ x16_4) = true := decide_eq_true c30
                                clear c30
                                by_cases c31 : x16_4 ≤ x17_5
                                · rw [if_pos c31] at H
                                  have c31b0 := eq_true c31
                                  have c31b1 : decide (x16_4 ≤ x17_5) = true := decide_eq_true c31
                                  clear c31
                                  by_cases c32 : x17_5 ≤ (a0.size : Int)
                                  · rw [if_pos c32] at H
                                    have c32b0 := eq_true c32
                                    have c32b1 : decide (x17_5 ≤ (a0.size : Int)) = true := decide_eq_true c32
                                    clear c32
                                    by_cases c33 : x14_4.length < 8796093022208
                                    · rw [if_pos c33] at H
                                      have LMc33 := Aside0.mk c33
                                      clear c33
                                      obtain ⟨y153, hy153⟩ : ∃ y_ : List ByteArray, y_ = (x14_4 ++ [a0.extract (x16_4 : Int).toNat (x17_5 : Int).toNat]) := ⟨_, rfl⟩
                                      replace H : (terrlaw5_FontWraps.l0 k5 a0 a1 a2 t143 t144 x13_15 y153 (wrap64 (x17_5 + 1))) = some r := by first | (rw [hy153]; with_reducible exact H) | (have H2_ := (Option.bind_some _ _).symm.trans H; rw [hy153]; with_reducible exact H2_) | (have H2_ := (Option.bind_some _ _).symm.trans H; with_reducible exact H2_) | with_reducible exact H | (rw [hy153]; exact H) | exact H
                                      have Ny153 := Aside0.mk hy153
                                      clear hy153
                                      have H' := Aside0.mk H
                                      clear H
                                      go_wp2_with (first | ((with_reducible refine gate_builtin (b := .append) (xs := #[.tmp 78, .tmp 83]) rfl ?_); (try (refine gate_guard (by rfl) ?_; dsimp only)); at_builtin; refine Kd.R_append Kd.string (w0 := w) w.heap.size rfl (.tmp 78) (.tmp 83) 22 9 (.string ⟨#[]⟩) 16 rfl Tryd.underlying22 info9 rfl (by decide) (by omega) u14 x14_4 (a0.extract (x16_4 : Int).toNat (x17_5 : Int).toNat) [.string (a0.extract (x16_4 : Int).toNat (x17_5 : Int).toNat)] (fun k_ => some k_ ≠ (v145 : Value).ownBlock) (fun _ => False) rfl rfl ?aP (fun _ hk => hk.elim) ?aF ?aO ?aB ?aS ?aL ?_; (case aP => exact rfl); (case aB => exact (by repeat (first | (with_reducible first | exact HB.out | apply below_alloc | apply pw_below_drewN | apply below_drew1) | exact HB.out))); (case aF => exact (fun k_ hk => Kd.fresh' (Kd.R_lt (by (with_reducible repeat (first | apply Kd.R_alloc | apply Kd.R_drewN | apply Kd.R_drew)); exact HO_9.out)) k_ hk)); (case aO => exact (by (with_reducible repeat (first | apply Kd.R_alloc | apply Kd.R_drewN | apply Kd.R_drew)); exact HO_14.out)); (case aS => exact (below_size (by repeat (first | (with_reducible first | exact HB.out | apply below_alloc | apply pw_below_drewN | apply below_drew1) | exact HB.out)))); (case aL => have := LMc33.out; omega); intro v154 w34 ho hb hg hat; rw [← Ny153.out] at ho; have n0_ := Aside0.mk (Kd.R_after (ok := (fun _ => True)) (by (with_reducible repeat (first | apply Kd.R_alloc | apply Kd.R_drewN | apply Kd.R_drew)); exact Kd.R_mono HO_9.out (fun _ hk => ⟨trivial, hk⟩)) hg hat); have n1_ := Aside0.mk (hb); have n2_ := Aside0.mk (ho); clear HO_9; clear HB; clear HO_14; have HO_9 := n0_; have HB := n1_; have HO155 := n2_; clear n0_ n1_ n2_; clear ho hb hg hat))
                                      go_roundg k5
                                      case measure => have := HJ4.out; have := HJ11.out; have := HJ15.out; have := HK4.out; have := HK5.out; omega
                                      case rel => exact ⟨(y153), (wrap64 (x17_5 + 1)), (by first | rfl | (simp; done) | (simp [*]; done)), H', ⟨by have := HJ4.out; have := HJ11.out; have := HJ15.out; have := HK4.out; have := HK5.out; omega⟩, ⟨by (with_reducible repeat (first | apply Kd.R_alloc | apply Kd.R_drewN | apply Kd.R_drew)); exact Kd.R_mono HO_9.out (fun _ hk => hk.2)⟩, ⟨by (with_reducible repeat (first | apply Kd.R_alloc | apply Kd.R_drewN | apply Kd.R_drew)); exact HO155.out⟩, ⟨by repeat (first | (with_reducible first | exact HB.out | apply below_alloc | apply pw_below_drewN | apply below_drew1) | exact HB.out)⟩⟩
                                    · rw [if_neg c33] at H
                                      exact absurd H (by simp)
                                  · rw [if_neg c32] at H
                                    exact absurd H (by simp)
                                · rw [if_neg c31] at H
                                  exact absurd H (by simp)
                              · rw [if_neg c30] at H
                                exact absurd H (by simp)
                            · rw [if_neg c29] at H
                              have c29b0 : decide (x16_4 < x17_5) = false := decide_eq_false c29
                              clear c29
                              have H' := Aside0.mk H
                              clear H
                              go_wp2
                              go_roundg k5
                              case measure => have := HJ4.out; have := HJ11.out; have := HJ15.out; have := HK4.out; have := HK5.out; omega
                              case rel => exact ⟨(x14_4), (wrap64 (x17_5 + 1)), (by first | rfl | (simp; done) | (simp [*]; done)), H', ⟨by have := HJ4.out; have := HJ11.out; have := HJ15.out; have := HK4.out; have := HK5.out; omega⟩, ⟨by (with_reducible repeat (first | apply Kd.R_alloc | apply Kd.R_drewN | apply Kd.R_drew)); exact HO_9.out⟩, ⟨by (with_reducible repeat (first | apply Kd.R_alloc | apply Kd.R_drewN | apply Kd.R_drew)); exact HO_14.out⟩, ⟨by repeat (first | (with_reducible first | exact HB.out | apply below_alloc | apply pw_below_drewN | apply below_drew1) | exact HB.out)⟩⟩
                    · rw [if_neg c18] at H
                      have c18b0 : decide (x16_4 < (a0.size : Int)) = false := decide_eq_false c18
                      clear c18
                      have H' := Aside0.mk H
                      clear H
                      obtain ⟨Ao35, co35, eo35⟩ := Kd.R_slice HO_14.out
                      subst eo35
                      go_wp2
                      go_loopg [13, 15, 89] k4 (fun kq v13 v15 v89 w' => ∃ (x9_5 : List ByteArray) (x13_5 : Int) (x15_5 : List ByteArray) (x87_5 : List ByteArray) (x89_5 : Int), v13 = .int .i64 x13_5 ∧ v89 = .int .i64 x89_5 ∧ Aside0 (terrlaw5_FontWraps.l2 kq a1 a2 x9_5 t144 x13_5 x15_5 x87_5 (x14_4.length : Int) x89_5 = some r) ∧ Aside0 (kq ≤ k4) ∧ Aside0 (Kd.R Kd.string 9 w' w.heap.size (fun k_ => some k_ ≠ (v15 : Value).ownBlock ∧ some k_ ≠ ((.slice Ao35 x14_4.length co35) : Value).ownBlock) v145 x9_5) ∧ Aside0 (Kd.R Kd.string 9 w' w.heap.size (fun k_ => some k_ ≠ (v145 : Value).ownBlock ∧ some k_ ≠ ((.slice Ao35 x14_4.length co35) : Value).ownBlock) v15 x15_5) ∧ Aside0 (Kd.R Kd.string 9 w' w.heap.size (fun k_ => some k_ ≠ (v145 : Value).ownBlock ∧ some k_ ≠ (v15 : Value).ownBlock) (.slice Ao35 x14_4.length co35) x87_5) ∧ Aside0 (Below w.heap.size w w'))
                      case atStart => exact ⟨(t143), (x13_15), (([] : List ByteArray)), (x14_4), (0), (by first | rfl | (simp; done) | (simp [*]; done)), (by first | rfl | (simp; done) | (simp [*]; done)), H', ⟨Nat.le_refl _⟩, ⟨by (with_reducible repeat (first | apply Kd.R_alloc | apply Kd.R_drewN | apply Kd.R_drew)); exact Kd.R_mono HO_9.out (fun _ hk => ⟨(by simp [Value.ownBlock]), hk⟩)⟩, ⟨by first | exact Kd.R_nil _ _ _ _ _ | exact Kd.N_nil _ _ _ _ _ | exact Kd.V_nil _ _ _ _ _ | exact Kd.Q_nil _ _ _ _ _ | exact Kd.S_nil _ _ _ _ _⟩, ⟨by (with_reducible repeat (first | apply Kd.R_alloc | apply Kd.R_drewN | apply Kd.R_drew)); exact Kd.R_mono HO_14.out (fun _ hk => ⟨hk, (by simp [Value.ownBlock])⟩)⟩, ⟨by repeat (first | (with_reducible first | exact HB.out | apply below_alloc | apply pw_below_drewN | apply below_drew1) | exact HB.out)⟩⟩
                      case round =>
                        clear H'
                        try clear c1
                        try clear c2
                        try clear p2
                        try clear q2
                        try clear hx2
                        try clear c3
                        try clear c5
                        try clear c6
                        try clear p6
                        try clear c7
                        try clear c7b0
                        try clear c7b1
                        try clear c9
                        try clear c15
                        try clear c15b0
                        try clear c15b1
                        try clear c17
                        try clear c18
                        try clear c18b0
                        try clear c19
                        try clear c19b0
                        try clear c20
                        try clear c20b0
                        try clear p21
                        try clear q21
                        try clear hx21
                        try clear c22
                        try clear c22b0
                        try clear c22b1
                        try clear c23
                        try clear c23b0
                        try clear c24
                        try clear c24b0
                        try clear c24b1
                        try clear c25
                        try clear c25b0
                        try clear c25b1
                        try clear c26
                        try clear c26b0
                        try clear c26b1
                        try clear c27
                        try clear c29
                        try clear c29b0
                        try clear c30
                        try clear c30b0
                        try clear c30b1
                        try clear c31
                        try clear c31b0
                        try clear c31b1
                        try clear c32
                        try clear c32b0
                        try clear c32b1
                        try clear c33
                        try clear p2
                        try clear p21
                        try clear q21
                        obtain ⟨x9_5, x13_5, x15_5, x87_5, x89_5, rfl, rfl, HA, HK5, HO_9, HO_15, HO_87, HB⟩ := hrel
                        have hl87_5 := (Kd.R_reads' HO_87.out).1
                        rw [hl87_5] at HO_87
                        (try simp only [hl87_5])
                        (try simp only [hl87_5] at HO_9)
                        (try simp only [hl87_5] at HO_15)
                        cases gk with
                        | zero => exact absurd HA.out (by simp [terrlaw5_FontWraps.l2])
                        | succ k5 =>
                          have H := HA.out
                          clear HA
                          simp only [terrlaw5_FontWraps.l2] at H
                          by_cases c36 : x89_5 < (x14_4.length : Int)
                          · rw [if_pos c36] at H
                            have c36b0 : decide (x89_5 < (x14_4.length : Int)) = true := decide_eq_true c36
                            have c36b9 : decide (x89_5 < (x87_5.length : Int)) = true := by first | (rw [hl87_5]; exact c36b0) | (rw [← hl87_5]; exact c36b0)
                            clear c36
                            by_cases c37 : 0 ≤ x89_5
                            · rw [if_pos c37] at H
                              have c37b0 : decide (0 ≤ x89_5) = true := decide_eq_true c37
                              clear c37
                              by_cases c38 : x89_5 < (x87_5.length : Int)
                              · rw [if_pos c38] at H
                                have c38b0 : decide (x89_5 < (x87_5.length : Int)) = true := decide_eq_true c38
                                clear c38
                                replace H := Option.bind_eq_some_iff.mp H
                                obtain ⟨⟨t158, t159, t160⟩, A390, H⟩ := H
                                replace H : (if x13_5 = 0 then (terrlaw5_FontWraps.j6 k5 a1 a2 x9_5 t144 x13_5 x15_5 (rdOf ByteArray.empty x87_5 x89_5) x87_5 (x14_4.length : Int) x89_5 (decide (t158 > a2))) else (terrlaw5_FontWraps.j6 k5 a1 a2 x9_5 t144 x13_5 x15_5 (rdOf ByteArray.empty x87_5 x89_5) x87_5 (x14_4.length : Int) x89_5 false)) = some r := H
                                have A39 := Aside0.mk A390
                                clear A390
                                have HC40 := Aside0.mk H
                                clear H
                                have p157 : 0 ≤ (x89_5 : Int) := of_decide_eq_true (by first | (with_reducible assumption) | assumption)
                                have q157 : x89_5 < (x87_5.length : Int) := of_decide_eq_true (by first | (with_reducible assumption) | assumption)
                                obtain ⟨ad157, e157, hx157_0⟩ := Kd.at_string (Kd.R_reads' HO_87.out).2.2 x89_5 p157 q157
                                cases e157
                                replace p157 := eq_true p157
                                replace q157 := eq_true q157
                                go_upto_region 21 with (first | ((with_reducible refine gate_callee (f := 6) rfl ?_); refine goesL_ (some 96) rfl rfl Tryd.func6 (by kernel_rfl) rfl #[.string (rdOf ByteArray.empty x87_5 x89_5), .int .i64 a1] rfl (by (try simp only [List.map_toArray, List.map_cons, List.map_nil]); first | done | rfl | (simp only [List.length_drop, List.length_take]; rfl)) ?_; (with_reducible refine (terrref5_TextSize.calls k5 (rdOf ByteArray.empty x87_5 x89_5) a1 t158 t159 t160 _ A39.out).mono ?_); rintro e w41 ⟨rfl, hb⟩; refine ⟨_, rfl, ?_⟩; have n0_ := Aside0.mk (Kd.R_below (by (with_reducible repeat (first | apply Kd.R_alloc | apply Kd.R_drewN | apply Kd.R_drew)); exact HO_9.out) hb); have n1_ := Aside0.mk (Kd.R_below (by (with_reducible repeat (first | apply Kd.R_alloc | apply Kd.R_drewN | apply Kd.R_drew)); exact HO_15.out) hb); have n2_ := Aside0.mk (Kd.R_below (by (with_reducible repeat (first | apply Kd.R_alloc | apply Kd.R_drewN | apply Kd.R_drew)); exact HO_87.out) hb); have n3_ := Aside0.mk (below_step (by repeat (first | (with_reducible first | exact HB.out | apply below_alloc | apply pw_below_drewN | apply below_drew1) | exact HB.out)) hb); clear HO_9; clear HO_15; clear HO_87; clear HB; have HO_9 := n0_; have HO_15 := n1_; have HO_87 := n2_; have HB := n3_; clear n0_ n1_ n2_ n3_; (try clear hb); (try clear hb2); (try clear hk); (try clear hi)))
                                (try simp only [Act.put, List.setIfInBounds_toArray, List.set_cons_zero, List.set_cons_succ])
                                go_cut [106] (fun v106 wc => ∃ (kq : Nat) (x106_39 : Bool), v106 = .bool x106_39 ∧ Aside0 (terrlaw5_FontWraps.j6 kq a1 a2 x9_5 t144 x13_5 x15_5 (rdOf ByteArray.empty x87_5 x89_5) x87_5 (x14_4.length : Int) x89_5 x106_39 = some r) ∧ Aside0 (kq ≤ k5) ∧ Aside0 (Kd.R Kd.string 9 wc w.heap.size (fun k_ => some k_ ≠ (u15 : Value).ownBlock ∧ some k_ ≠ ((.slice (some ad157) x87_5.length co35) : Value).ownBlock) v145 x9_5) ∧ Aside0 (Kd.R Kd.string 9 wc w.heap.size (fun k_ => some k_ ≠ (v145 : Value).ownBlock ∧ some k_ ≠ ((.slice (some ad157) x87_5.length co35) : Value).ownBlock) u15 x15_5) ∧ Aside0 (Kd.R Kd.string 9 wc w.heap.size (fun k_ => some k_ ≠ (v145 : Value).ownBlock ∧ some k_ ≠ (u15 : Value).ownBlock) (.slice (some ad157) x87_5.length co35) x87_5) ∧ Aside0 (Below w.heap.size w wc))
                                case first =>
                                  have H := HC40.out
                                  clear HC40
                                  by_cases c42 : x13_5 = 0
                                  · rw [if_pos c42] at H
                                    have c42b0 : (x13_5 == 0) = true := beq_iff_eq.mpr c42
                                    have c42b1 : (x13_5 != 0) = false := bne_eq_false_iff_eq.mpr c42
                                    clear c42
                                    (first | rw [c42b0] | (simp only [i64_w, i32_w]; rw [c42b0]) | skip)
                                    have H' := Aside0.mk H
                                    clear H
                                    go_wp2
                                    go_meet
                                    case rel => exact ⟨_, (decide (t158 > a2)), (by first | rfl | (simp; done) | (simp [*]; done)), H', ⟨by have := HJ4.out; have := HJ11.out; have := HJ15.out; have := HK4.out; have := HK5.out; first | omega | exact Nat.le_refl _⟩, ⟨by (try simp only [hl87_5]); (with_reducible repeat (first | apply Kd.R_alloc | apply Kd.R_drewN | apply Kd.R_drew)); exact HO_9.out⟩, ⟨by (try simp only [hl87_5]); (with_reducible repeat (first | apply Kd.R_alloc | apply Kd.R_drewN | apply Kd.R_drew)); exact HO_15.out⟩, ⟨by (try simp only [hl87_5]); (with_reducible repeat (first | apply Kd.R_alloc | apply Kd.R_drewN | apply Kd.R_drew)); exact HO_87.out⟩, ⟨by repeat (first | (with_reducible first | exact HB.out | apply below_alloc | apply pw_below_drewN | apply below_drew1) | exact HB.out)⟩⟩
                                  · rw [if_neg c42] at H
                                    have c42b0 : (x13_5 == 0) = false := beq_eq_false_iff_ne.mpr c42
                                    have c42b1 : (x13_5 != 0) = true := bne_iff_ne.mpr c42
                                    (first | rw [c42b0] | (simp only [i64_w, i32_w]; rw [c42b0]) | skip)
                                    have H' := Aside0.mk H
                                    clear H
                                    go_wp2
                                    go_meet
                                    case rel => exact ⟨_, (false), (by first | rfl | (simp; done) | (simp [*]; done)), H', ⟨by have := HJ4.out; have := HJ11.out; have := HJ15.out; have := HK4.out; have := HK5.out; first | omega | exact Nat.le_refl _⟩, ⟨by (try simp only [hl87_5]); (with_reducible repeat (first | apply Kd.R_alloc | apply Kd.R_drewN | apply Kd.R_drew)); exact HO_9.out⟩, ⟨by (try simp only [hl87_5]); (with_reducible repeat (first | apply Kd.R_alloc | apply Kd.R_drewN | apply Kd.R_drew)); exact HO_15.out⟩, ⟨by (try simp only [hl87_5]); (with_reducible repeat (first | apply Kd.R_alloc | apply Kd.R_drewN | apply Kd.R_drew)); exact HO_87.out⟩, ⟨by repeat (first | (with_reducible first | exact HB.out | apply below_alloc | apply pw_below_drewN | apply below_drew1) | exact HB.out)⟩⟩
                                case rest =>
                                  clear HC40
                                  try clear c1
                                  try clear p1
                                  try clear q1
                                  try clear hx1
                                  try clear c2
                                  try clear p2
                                  try clear q2
                                  try clear hx2
                                  try clear c3
                                  try clear c4
                                  try clear c5
                                  try clear c6
                                  try clear p6
                                  try clear c7
                                  try clear c7b0
                                  try clear c7b1
                                  try clear c9
                                  try clear c15
                                  try clear c15b0
                                  try clear c15b1
                                  try clear p15
                                  try clear q15
                                  try clear hx15
                                  try clear c17
                                  try clear c18
                                  try clear c18b0
                                  try clear c19
                                  try clear c19b0
                                  try clear c20
                                  try clear c20b0
                                  try clear p21
                                  try clear q21
                                  try clear hx21
                                  try clear c22
                                  try clear c22b0
                                  try clear c22b1
                                  try clear c23
                                  try clear c23b0
                                  try clear c24
                                  try clear c24b0
                                  try clear c24b1
                                  try clear c25
                                  try clear c25b0
                                  try clear c25b1
                                  try clear c26
                                  try clear c26b0
                                  try clear c26b1
                                  try clear c27
                                  try clear c29
                                  try clear c29b0
                                  try clear c30
                                  try clear c30b0
                                  try clear c30b1
                                  try clear c31
                                  try clear c31b0
                                  try clear c31b1
                                  try clear c32
                                  try clear c32b0
                                  try clear c32b1
                                  try clear c33
                                  try clear c36
                                  try clear c36b0
                                  try clear c37
                                  try clear c37b0
                                  try clear c38
                                  try clear c38b0
                                  try clear c42
                                  try clear c42b0
                                  try clear c42b1
                                  try clear hx157_0
                                  try clear p157
                                  try clear p2
                                  try clear p21
                                  try clear p6
                                  try clear q157
                                  try clear q2
                                  try clear q21
                                  obtain ⟨kq, x106_39, rfl, HA, HJ39, HO_9, HO_15, HO_87, HB⟩ := hcut
                                  cases kq with
                                  | zero => exact absurd HA.out (by simp [terrlaw5_FontWraps.j6])
                                  | succ kj39 =>
                                    have H := HA.out
                                    clear HA
                                    simp only [terrlaw5_FontWraps.j6] at H
                                    have HC43 := Aside0.mk H
                                    clear H
                                    go_upto_if 106 with (fail)
                                    go_cut [13] (fun v13 wc => ∃ (kq : Nat) (x13_42 : Int), v13 = .int .i64 x13_42 ∧ Aside0 (terrlaw5_FontWraps.j7 kq a1 a2 x9_5 t144 x13_42 x15_5 (rdOf ByteArray.empty x87_5 x89_5) x87_5 (x14_4.length : Int) x89_5 = some r) ∧ Aside0 (kq ≤ kj39) ∧ Aside0 (Kd.R Kd.string 9 wc w.heap.size (fun k_ => some k_ ≠ (u15 : Value).ownBlock ∧ some k_ ≠ ((.slice (some ad157) x87_5.length co35) : Value).ownBlock) v145 x9_5) ∧ Aside0 (Kd.R Kd.string 9 wc w.heap.size (fun k_ => some k_ ≠ (v145 : Value).ownBlock ∧ some k_ ≠ ((.slice (some ad157) x87_5.length co35) : Value).ownBlock) u15 x15_5) ∧ Aside0 (Kd.R Kd.string 9 wc w.heap.size (fun k_ => some k_ ≠ (v145 : Value).ownBlock ∧ some k_ ≠ (u15 : Value).ownBlock) (.slice (some ad157) x87_5.length co35) x87_5) ∧ Aside0 (Below w.heap.size w wc))
                                    case first =>
                                      have H := HC43.out
                                      clear HC43
                                      by_cases c44 : x106_39 = true
                                      · subst c44
                                        have H1 : (terrlaw5_FontWraps.j7 kj39 a1 a2 x9_5 t144 17 x15_5 (rdOf ByteArray.empty x87_5 x89_5) x87_5 (x14_4.length : Int) x89_5) = some r := by rw [if_pos rfl] at H; exact H
                                        clear H
                                        have H := H1
                                        clear H1
                                        have H' := Aside0.mk H
                                        clear H
                                        go_wp2
                                        go_meet
                                        case rel => exact ⟨_, (17), (by first | rfl | (simp; done) | (simp [*]; done)), H', ⟨by have := HJ4.out; have := HJ11.out; have := HJ15.out; have := HK4.out; have := HK5.out; have := HJ39.out; first | omega | exact Nat.le_refl _⟩, ⟨by (try simp only [hl87_5]); (with_reducible repeat (first | apply Kd.R_alloc | apply Kd.R_drewN | apply Kd.R_drew)); exact HO_9.out⟩, ⟨by (try simp only [hl87_5]); (with_reducible repeat (first | apply Kd.R_alloc | apply Kd.R_drewN | apply Kd.R_drew)); exact HO_15.out⟩, ⟨by (try simp only [hl87_5]); (with_reducible repeat (first | apply Kd.R_alloc | apply Kd.R_drewN | apply Kd.R_drew)); exact HO_87.out⟩, ⟨by repeat (first | (with_reducible first | exact HB.out | apply below_alloc | apply pw_below_drewN | apply below_drew1) | exact HB.out)⟩⟩
                                      · replace c44 := Bool.eq_false_iff.mpr c44
                                        subst c44
                                        have H1 : (terrlaw5_FontWraps.j7 kj39 a1 a2 x9_5 t144 x13_5 x15_5 (rdOf ByteArray.empty x87_5 x89_5) x87_5 (x14_4.length : Int) x89_5) = some r := by rw [if_neg (show ¬ (false = true) by decide)] at H; exact H
                                        clear H
                                        have H := H1
                                        clear H1
                                        have H' := Aside0.mk H
                                        clear H
                                        go_wp2
                                        go_meet
                                        case rel => exact ⟨_, (x13_5), (by first | rfl | (simp; done) | (simp [*]; done)), H', ⟨by have := HJ4.out; have := HJ11.out; have := HJ15.out; have := HK4.out; have := HK5.out; have := HJ39.out; first | omega | exact Nat.le_refl _⟩, ⟨by (try simp only [hl87_5]); (with_reducible repeat (first | apply Kd.R_alloc | apply Kd.R_drewN | apply Kd.R_drew)); exact HO_9.out⟩, ⟨by (try simp only [hl87_5]); (with_reducible repeat (first | apply Kd.R_alloc | apply Kd.R_drewN | apply Kd.R_drew)); exact HO_15.out⟩, ⟨by (try simp only [hl87_5]); (with_reducible repeat (first | apply Kd.R_alloc | apply Kd.R_drewN | apply Kd.R_drew)); exact HO_87.out⟩, ⟨by repeat (first | (with_reducible first | exact HB.out | apply below_alloc | apply pw_below_drewN | apply below_drew1) | exact HB.out)⟩⟩
                                    case rest =>
                                      clear HC43
                                      try clear c1
                                      try clear p1
                                      try clear q1
                                      try clear hx1
                                      try clear c2
                                      try clear p2
                                      try clear q2
                                      try clear hx2
                                      try clear c3
                                      try clear c4
                                      try clear c5
                                      try clear c6
                                      try clear p6
                                      try clear c7
                                      try clear c7b0
                                      try clear c7b1
                                      try clear c9
                                      try clear c15
                                      try clear c15b0
                                      try clear c15b1
                                      try clear p15
                                      try clear q15
                                      try clear hx15
                                      try clear c17
                                      try clear c18
                                      try clear c18b0
                                      try clear c19
                                      try clear c19b0
                                      try clear c20
                                      try clear c20b0
                                      try clear p21
                                      try clear q21
                                      try clear hx21
                                      try clear c22
                                      try clear c22b0
                                      try clear c22b1
                                      try clear c23
                                      try clear c23b0
                                      try clear c24
                                      try clear c24b0
                                      try clear c24b1
                                      try clear c25
                                      try clear c25b0
                                      try clear c25b1
                                      try clear c26
                                      try clear c26b0
                                      try clear c26b1
                                      try clear c27
                                      try clear c29
                                      try clear c29b0
                                      try clear c30
                                      try clear c30b0
                                      try clear c30b1
                                      try clear c31
                                      try clear c31b0
                                      try clear c31b1
                                      try clear c32
                                      try clear c32b0
                                      try clear c32b1
                                      try clear c33
                                      try clear c36
                                      try clear c36b0
                                      try clear c37
                                      try clear c37b0
                                      try clear c38
                                      try clear c38b0
                                      try clear c42
                                      try clear c42b0
                                      try clear c42b1
                                      try clear c44
                                      try clear hx157_0
                                      try clear p1
                                      try clear p15
                                      try clear p157
                                      try clear p2
                                      try clear p21
                                      try clear p6
                                      try clear q1
                                      try clear q15
                                      try clear q157
                                      try clear q2
                                      try clear q21
                                      obtain ⟨kq, x13_42, rfl, HA, HJ42, HO_9, HO_15, HO_87, HB⟩ := hcut
                                      cases kq with
                                      | zero => exact absurd HA.out (by simp [terrlaw5_FontWraps.j7])
                                      | succ kj42 =>
                                        have H := HA.out
                                        clear HA
                                        simp only [terrlaw5_FontWraps.j7] at H
                                        by_cases c45 : (wrap64 ((x15_5.length : Int) - 1)) ≥ 0
                                        · rw [if_pos c45] at H
                                          have c45b0 : decide (0 ≤ (wrap64 ((x15_5.length : Int) - 1))) = true := decide_eq_true c45
                                          clear c45
                                          obtain ⟨ji46, hji46⟩ : ∃ j_ : Int, (wrap64 ((x15_5.length : Int) - 1)) = j_ := ⟨_, rfl⟩
                                          replace H : (if 0 ≤ (ji46) then (if (ji46) < (x15_5.length : Int) then (if (rdOf ByteArray.empty x15_5 (ji46)).size + 1 ≤ 9223372036854775807 then (if ((rdOf ByteArray.empty x15_5 (ji46)) ++ (⟨#[32]⟩ : ByteArray)).size + (rdOf ByteArray.empty x87_5 x89_5).size ≤ 9223372036854775807 then ((terrref5_TextSize.f kj42 (((rdOf ByteArray.empty x15_5 (ji46)) ++ (⟨#[32]⟩ : ByteArray)) ++ (rdOf ByteArray.empty x87_5 x89_5)) a1).bind fun bt162 => (if bt162.2.2 = 0 then (if bt162.1 ≤ a2 then (if 1 + (rdOf ByteArray.empty x87_5 x89_5).size ≤ 9223372036854775807 then (if (rdOf ByteArray.empty x15_5 (ji46)).size + ((⟨#[32]⟩ : ByteArray) ++ (rdOf ByteArray.empty x87_5 x89_5)).size ≤ 9223372036854775807 then (terrlaw5_FontWraps.l2 kj42 a1 a2 x9_5 t144 x13_42 (x15_5.set ((ji46) : Int).toNat ((rdOf ByteArray.empty x15_5 (ji46)) ++ ((⟨#[32]⟩ : ByteArray) ++ (rdOf ByteArray.empty x87_5 x89_5)))) x87_5 (x14_4.length : Int) (wrap64 (x89_5 + 1))) else (none)) else (none)) else (if x15_5.length < 8796093022208 then (terrlaw5_FontWraps.l2 kj42 a1 a2 x9_5 t144 x13_42 (x15_5 ++ [(rdOf ByteArray.empty x87_5 x89_5)]) x87_5 (x14_4.length : Int) (wrap64 (x89_5 + 1))) else (none))) else (if x15_5.length < 8796093022208 then (terrlaw5_FontWraps.l2 kj42 a1 a2 x9_5 t144 x13_42 (x15_5 ++ [(rdOf ByteArray.empty x87_5 x89_5)]) x87_5 (x14_4.length : Int) (wrap64 (x89_5 + 1))) else (none)))) else (none)) else (none)) else (none)) else (none)) = some r := by first | (rw [hji46] at H; exact H) | (simp only [hji46] at H ⊢; exact H)
                                          (try rw [hji46] at c45b0)
                                          have hji46w : (IntKind.i64.wrap ((x15_5.length : Int) - 1)) = ji46 := (i64_w _).trans hji46
                                          by_cases c47 : 0 ≤ (ji46)
                                          · rw [if_pos c47] at H
                                            have c47b0 : decide (0 ≤ (ji46)) = true := decide_eq_true c47
                                            clear c47
                                            by_cases c48 : (ji46) < (x15_5.length : Int)
                                            · rw [if_pos c48] at H
                                              have c48b0 : decide ((ji46) < (x15_5.length : Int)) = true := decide_eq_true c48
                                              clear c48
                                              by_cases c49 : (rdOf ByteArray.empty x15_5 (ji46)).size + 1 ≤ 9223372036854775807
                                              · rw [if_pos c49] at H
                                                have c49b0 := eq_true c49
                                                have c49b1 : decide ((rdOf ByteArray.empty x15_5 (ji46)).size + 1 ≤ 9223372036854775807) = true := decide_eq_true c49
                                                try have c49b2 : (9223372036854775807 < (rdOf ByteArray.empty x15_5 (ji46)).size + 1) = False := eq_false (Nat.not_lt.2 c49)
                                                by_cases c50 : ((rdOf ByteArray.empty x15_5 (ji46)) ++ (⟨#[32]⟩ : ByteArray)).size + (rdOf ByteArray.empty x87_5 x89_5).size ≤ 9223372036854775807
                                                · rw [if_pos c50] at H
                                                  have c50b0 := eq_true c50
                                                  have c50b1 : decide (((rdOf ByteArray.empty x15_5 (ji46)) ++ (⟨#[32]⟩ : ByteArray)).size + (rdOf ByteArray.empty x87_5 x89_5).size ≤ 9223372036854775807) = true := decide_eq_true c50
                                                  try have c50b2 : (9223372036854775807 < ((rdOf ByteArray.empty x15_5 (ji46)) ++ (⟨#[32]⟩ : ByteArray)).size + (rdOf ByteArray.empty x87_5 x89_5).size) = False := eq_false (Nat.not_lt.2 c50)
                                                  replace H := Option.bind_eq_some_iff.mp H
                                                  obtain ⟨⟨t162, t163, t164⟩, A510, H⟩ := H
                                                  replace H : (if t164 = 0 then (if t162 ≤ a2 then (if 1 + (rdOf ByteArray.empty x87_5 x89_5).size ≤ 9223372036854775807 then (if (rdOf ByteArray.empty x15_5 (ji46)).size + ((⟨#[32]⟩ : ByteArray) ++ (rdOf ByteArray.empty x87_5 x89_5)).size ≤ 9223372036854775807 then (terrlaw5_FontWraps.l2 kj42 a1 a2 x9_5 t144 x13_42 (x15_5.set ((ji46) : Int).toNat ((rdOf ByteArray.empty x15_5 (ji46)) ++ ((⟨#[32]⟩ : ByteArray) ++ (rdOf ByteArray.empty x87_5 x89_5)))) x87_5 (x14_4.length : Int) (wrap64 (x89_5 + 1))) else (none)) else (none)) else (if x15_5.length < 8796093022208 then (terrlaw5_FontWraps.l2 kj42 a1 a2 x9_5 t144 x13_42 (x15_5 ++ [(rdOf ByteArray.empty x87_5 x89_5)]) x87_5 (x14_4.length : Int) (wrap64 (x89_5 + 1))) else (none))) else (if x15_5.length < 8796093022208 then (terrlaw5_FontWraps.l2 kj42 a1 a2 x9_5 t144 x13_42 (x15_5 ++ [(rdOf ByteArray.empty x87_5 x89_5)]) x87_5 (x14_4.length : Int) (wrap64 (x89_5 + 1))) else (none))) = some r := H
                                                  have A51 := Aside0.mk A510
                                                  clear A510
                                                  by_cases c52 : t164 = 0
                                                  · rw [if_pos c52] at H
                                                    have c52b0 : (t164 == 0) = true := beq_iff_eq.mpr c52
                                                    have c52b1 : (t164 != 0) = false := bne_eq_false_iff_eq.mpr c52
                                                    clear c52
                                                    by_cases c53 : t162 ≤ a2
                                                    · rw [if_pos c53] at H
                                                      have c53b0 : decide (t162 ≤ a2) = true := decide_eq_true c53
                                                      clear c53
                                                      by_cases c54 : 1 + (rdOf ByteArray.empty x87_5 x89_5).size ≤ 9223372036854775807
                                                      · rw [if_pos c54] at H
                                                        have c54b0 := eq_true c54
                                                        have c54b1 : decide (1 + (rdOf ByteArray.empty x87_5 x89_5).size ≤ 9223372036854775807) = true := decide_eq_true c54
                                                        try have c54b2 : (9223372036854775807 < 1 + (rdOf ByteArray.empty x87_5 x89_5).size) = False := eq_false (Nat.not_lt.2 c54)
                                                        by_cases c55 : (rdOf ByteArray.empty x15_5 (ji46)).size + ((⟨#[32]⟩ : ByteArray) ++ (rdOf ByteArray.empty x87_5 x89_5)).size ≤ 9223372036854775807
                                                        · rw [if_pos c55] at H
                                                          have c55b0 := eq_true c55
                                                          have c55b1 : decide ((rdOf ByteArray.empty x15_5 (ji46)).size + ((⟨#[32]⟩ : ByteArray) ++ (rdOf ByteArray.empty x87_5 x89_5)).size ≤ 9223372036854775807) = true := decide_eq_true c55
                                                          try have c55b2 : (9223372036854775807 < (rdOf ByteArray.empty x15_5 (ji46)).size + ((⟨#[32]⟩ : ByteArray) ++ (rdOf ByteArray.empty x87_5 x89_5)).size) = False := eq_false (Nat.not_lt.2 c55)
                                                          obtain ⟨y166, hy166⟩ : ∃ y_ : List ByteArray, y_ = (x15_5.set ((ji46) : Int).toNat ((rdOf ByteArray.empty x15_5 (ji46)) ++ ((⟨#[32]⟩ : ByteArray) ++ (rdOf ByteArray.empty x87_5 x89_5)))) := ⟨_, rfl⟩
                                                          replace H : (terrlaw5_FontWraps.l2 kj42 a1 a2 x9_5 t144 x13_42 y166 x87_5 (x14_4.length : Int) (wrap64 (x89_5 + 1))) = some r := by first | (rw [hy166]; with_reducible exact H) | (have H2_ := (Option.bind_some _ _).symm.trans H; rw [hy166]; with_reducible exact H2_) | (have H2_ := (Option.bind_some _ _).symm.trans H; with_reducible exact H2_) | with_reducible exact H | (rw [hy166]; exact H) | exact H
                                                          have Ny166 := Aside0.mk hy166
                                                          clear hy166
                                                          have H' := Aside0.mk H
                                                          clear H
                                                          obtain ⟨Ao57, co57, eo57⟩ := Kd.R_slice HO_15.out
                                                          subst eo57
                                                          have p161 : 0 ≤ ((ji46) : Int) := of_decide_eq_true (by first | (with_reducible assumption) | assumption)
                                                          have q161 : (ji46) < (x15_5.length : Int) := of_decide_eq_true (by first | (with_reducible assumption) | assumption)
                                                          obtain ⟨ad161, e161, hx161_0⟩ := Kd.at_string (Kd.R_reads' HO_15.out).2.2 (ji46) p161 q161
                                                          cases e161
                                                          replace p161 := eq_true p161
                                                          replace q161 := eq_true q161
                                                          go_wp2_with (first | ((with_reducible refine gate_callee (f := 6) rfl ?_); refine goesL_ (some 121) rfl rfl Tryd.func6 (by kernel_rfl) rfl #[.string (((rdOf ByteArray.empty x15_5 (ji46)) ++ (⟨#[32]⟩ : ByteArray)) ++ (rdOf ByteArray.empty x87_5 x89_5)), .int .i64 a1] rfl (by (try simp only [List.map_toArray, List.map_cons, List.map_nil]); first | done | (simp only [hji46]; rfl) | rfl | (simp only [List.length_drop, List.length_take]; rfl)) ?_; (with_reducible refine (terrref5_TextSize.calls kj42 (((rdOf ByteArray.empty x15_5 (ji46)) ++ (⟨#[32]⟩ : ByteArray)) ++ (rdOf ByteArray.empty x87_5 x89_5)) a1 t162 t163 t164 _ A51.out).mono ?_); rintro e w58 ⟨rfl, hb⟩; refine ⟨_, rfl, ?_⟩; have n0_ := Aside0.mk (Kd.R_below (by (with_reducible repeat (first | apply Kd.R_alloc | apply Kd.R_drewN | apply Kd.R_drew)); exact HO_9.out) hb); have n1_ := Aside0.mk (Kd.R_below (by (with_reducible repeat (first | apply Kd.R_alloc | apply Kd.R_drewN | apply Kd.R_drew)); exact HO_15.out) hb); have n2_ := Aside0.mk (Kd.R_below (by (with_reducible repeat (first | apply Kd.R_alloc | apply Kd.R_drewN | apply Kd.R_drew)); exact HO_87.out) hb); have n3_ := Aside0.mk (below_step (by repeat (first | (with_reducible first | exact HB.out | apply below_alloc | apply pw_below_drewN | apply below_drew1) | exact HB.out)) hb); clear HO_9; clear HO_15; clear HO_87; clear HB; have HO_9 := n0_; have HO_15 := n1_; have HO_87 := n2_; have HB := n3_; clear n0_ n1_ n2_ n3_; (try clear hb); (try clear hb2); (try clear hk); (try clear hi); have p165 : 0 ≤ ((ji46) : Int) := of_decide_eq_true (by first | (with_reducible assumption) | assumption); have q165 : (ji46) < (x15_5.length : Int) := of_decide_eq_true (by first | (with_reducible assumption) | assumption); obtain ⟨ad165, e165, hx165_0⟩ := Kd.at_string (Kd.R_reads' HO_15.out).2.2 (ji46) p165 q165; obtain rfl : ad161 = ad165 := (by injection e165); replace p165 := eq_true p165; replace q165 := eq_true q165; have p56 : 0 ≤ ((ji46) : Int) := of_decide_eq_true (by first | (with_reducible assumption) | assumption); have q56 : ((ji46) : Int) < ((x15_5.length : Int) : Int) := of_decide_eq_true (by first | (with_reducible assumption) | assumption); obtain ⟨go56, co56, eo56, gb56, gl56, cl56, HG56⟩ := Kd.R_form HO_15.out (by omega); (first | cases eo56 | (injection eo56 with ea_ en_ ec_; (first | subst ea_ | (injection ea_ with ea_; subst ea_)); subst ec_; clear en_)); have GB56 := Aside0.mk gb56; have GG56 := Aside0.mk HG56; clear gb56 gl56 HG56; (first | simp only [add_plain] at hx161_0 | skip); (first | simp only [add_plain] at hx165_0 | skip); obtain ⟨hx56_0, hf56_0⟩ := Kd.R_celln (⟨#[]⟩ : ByteArray) HO_15.out ((ji46) : Int) p56 q56; replace p56 := eq_true p56; replace q56 := eq_true q56; obtain ⟨hy59_, hz59_⟩ := Kd.R_celln (⟨#[]⟩ : ByteArray) HO_15.out ((ji46) : Int) (of_decide_eq_true (by first | (with_reducible assumption) | assumption)) (of_decide_eq_true (by first | (with_reducible assumption) | assumption)); have HP59 := Kd.R_putg HO_15.out ((ji46) : Int) ((rdOf ByteArray.empty x15_5 (ji46)) ++ ((⟨#[32]⟩ : ByteArray) ++ (rdOf ByteArray.empty x87_5 x89_5)))) | ((with_reducible refine gate_store (t := 9) (p := 139) rfl ?_); refine store_event (t := 9) (p := 139) (v := ?vo_w60) (w1 := (w58.setCell ⟨go56, ((ji46) : Int).toNat, none⟩ (.string ((rdOf ByteArray.empty x15_5 (ji46)) ++ ((⟨#[32]⟩ : ByteArray) ++ (rdOf ByteArray.empty x87_5 x89_5)))))) ?hg ?ho ?hn ?hr ?_; (case ho => rfl); (case hg => rfl); (case hn => rfl); (case hr => first | (go_simp; done) | (go_simp; rfl)); intro w60 hw; have hg : w58.grownBy w60 (some go56) := (by rw [hw]; exact HP59.2); have hp_ : Kd.R Kd.string 9 w60 w.heap.size (fun k_ => some k_ ≠ (v145 : Value).ownBlock ∧ some k_ ≠ (.slice (some ad157) x87_5.length co35 : Value).ownBlock) (.slice (some ⟨go56, 0, none⟩) x15_5.length co57) y166 := (by rw [hw, Ny166.out]; exact HP59.1); clear HP59; have n0_ := Aside0.mk (Kd.R_after (v := (.slice (some ⟨go56, 0, none⟩) x15_5.length co57)) (v1 := (.slice (some ⟨go56, 0, none⟩) x15_5.length co57)) (ok := (fun k_ => some k_ ≠ (.slice (some ad157) x87_5.length co35 : Value).ownBlock)) (by (with_reducible repeat (first | apply Kd.R_alloc | apply Kd.R_drewN | apply Kd.R_drew)); exact Kd.R_mono HO_9.out (fun _ hk => ⟨hk.2, hk.1⟩)) hg (.inl rfl)); have n1_ := Aside0.mk (hp_); have n2_ := Aside0.mk (Kd.R_after (v := (.slice (some ⟨go56, 0, none⟩) x15_5.length co57)) (v1 := (.slice (some ⟨go56, 0, none⟩) x15_5.length co57)) (ok := (fun k_ => some k_ ≠ (v145 : Value).ownBlock)) (by (with_reducible repeat (first | apply Kd.R_alloc | apply Kd.R_drewN | apply Kd.R_drew)); exact HO_87.out) hg (.inl rfl)); have n3_ := Aside0.mk ((by rw [hw]; exact below_set (HB.out) GB56.out : Below w.heap.size w w60)); clear HO_9; clear HO_15; clear HO_87; clear HB; have HO_9 := n0_; have HO_15 := n1_; have HO_87 := n2_; have HB := n3_; clear n0_ n1_ n2_ n3_; clear hg hw hp_))
                                                          (try simp only [← hl87_5])
                                                          go_roundg kj42
                                                          case measure => have := HJ4.out; have := HJ11.out; have := HJ15.out; have := HK4.out; have := HK5.out; have := HJ39.out; have := HJ42.out; omega
                                                          case rel => exact ⟨(x9_5), (x13_42), (y166), (x87_5), (wrap64 (x89_5 + 1)), (by first | rfl | (simp; done) | (simp [*]; done)), (by first | rfl | (simp; done) | (simp [*]; done)), H', ⟨by have := HJ4.out; have := HJ11.out; have := HJ15.out; have := HK4.out; have := HK5.out; have := HJ39.out; have := HJ42.out; omega⟩, ⟨by (try simp only [hl87_5]); (with_reducible repeat (first | apply Kd.R_alloc | apply Kd.R_drewN | apply Kd.R_drew)); exact Kd.R_mono HO_9.out (fun _ hk => ⟨hk.2, hk.1⟩)⟩, ⟨by (try simp only [hl87_5]); (with_reducible repeat (first | apply Kd.R_alloc | apply Kd.R_drewN | apply Kd.R_drew)); exact HO_15.out⟩, ⟨by (try simp only [hl87_5]); (with_reducible repeat (first | apply Kd.R_alloc | apply Kd.R_drewN | apply Kd.R_drew)); exact HO_87.out⟩, ⟨by repeat (first | (with_reducible first | exact HB.out | apply below_alloc | apply pw_below_drewN | apply below_drew1) | exact HB.out)⟩⟩
                                                        · rw [if_neg c55] at H
                                                          exact absurd H (by simp)
                                                      · rw [if_neg c54] at H
                                                        exact absurd H (by simp)
                                                    · rw [if_neg c53] at H
                                                      have c53b0 : decide (t162 ≤ a2) = false := decide_eq_false c53
                                                      clear c53
                                                      by_cases c61 : x15_5.length < 8796093022208
                                                      · rw [if_pos c61] at H
                                                        have LMc61 := Aside0.mk c61
                                                        clear c61
                                                        obtain ⟨y167, hy167⟩ : ∃ y_ : List ByteArray, y_ = (x15_5 ++ [(rdOf ByteArray.empty x87_5 x89_5)]) := ⟨_, rfl⟩
                                                        replace H : (terrlaw5_FontWraps.l2 kj42 a1 a2 x9_5 t144 x13_42 y167 x87_5 (x14_4.length : Int) (wrap64 (x89_5 + 1))) = some r := by first | (rw [hy167]; with_reducible exact H) | (have H2_ := (Option.bind_some _ _).symm.trans H; rw [hy167]; with_reducible exact H2_) | (have H2_ := (Option.bind_some _ _).symm.trans H; with_reducible exact H2_) | with_reducible exact H | (rw [hy167]; exact H) | exact H
                                                        have Ny167 := Aside0.mk hy167
                                                        clear hy167
                                                        have H' := Aside0.mk H
                                                        clear H
                                                        obtain ⟨Ao62, co62, eo62⟩ := Kd.R_slice HO_15.out
                                                        subst eo62
                                                        have p161 : 0 ≤ ((ji46) : Int) := of_decide_eq_true (by first | (with_reducible assumption) | assumption)
                                                        have q161 : (ji46) < (x15_5.length : Int) := of_decide_eq_true (by first | (with_reducible assumption) | assumption)
                                                        obtain ⟨ad161, e161, hx161_0⟩ := Kd.at_string (Kd.R_reads' HO_15.out).2.2 (ji46) p161 q161
                                                        cases e161
                                                        replace p161 := eq_true p161
                                                        replace q161 := eq_true q161
                                                        go_wp2_with (first | ((with_reducible refine gate_callee (f := 6) rfl ?_); refine goesL_ (some 121) rfl rfl Tryd.func6 (by kernel_rfl) rfl #[.string (((rdOf ByteArray.empty x15_5 (ji46)) ++ (⟨#[32]⟩ : ByteArray)) ++ (rdOf ByteArray.empty x87_5 x89_5)), .int .i64 a1] rfl (by (try simp only [List.map_toArray, List.map_cons, List.map_nil]); first | done | (simp only [hji46]; rfl) | rfl | (simp only [List.length_drop, List.length_take]; rfl)) ?_; (with_reducible refine (terrref5_TextSize.calls kj42 (((rdOf ByteArray.empty x15_5 (ji46)) ++ (⟨#[32]⟩ : ByteArray)) ++ (rdOf ByteArray.empty x87_5 x89_5)) a1 t162 t163 t164 _ A51.out).mono ?_); rintro e w63 ⟨rfl, hb⟩; refine ⟨_, rfl, ?_⟩; have n0_ := Aside0.mk (Kd.R_below (by (with_reducible repeat (first | apply Kd.R_alloc | apply Kd.R_drewN | apply Kd.R_drew)); exact HO_9.out) hb); have n1_ := Aside0.mk (Kd.R_below (by (with_reducible repeat (first | apply Kd.R_alloc | apply Kd.R_drewN | apply Kd.R_drew)); exact HO_15.out) hb); have n2_ := Aside0.mk (Kd.R_below (by (with_reducible repeat (first | apply Kd.R_alloc | apply Kd.R_drewN | apply Kd.R_drew)); exact HO_87.out) hb); have n3_ := Aside0.mk (below_step (by repeat (first | (with_reducible first | exact HB.out | apply below_alloc | apply pw_below_drewN | apply below_drew1) | exact HB.out)) hb); clear HO_9; clear HO_15; clear HO_87; clear HB; have HO_9 := n0_; have HO_15 := n1_; have HO_87 := n2_; have HB := n3_; clear n0_ n1_ n2_ n3_; (try clear hb); (try clear hb2); (try clear hk); (try clear hi)) | ((with_reducible refine gate_builtin (b := .append) (xs := #[.tmp 140, .tmp 142]) rfl ?_); (try (refine gate_guard (by rfl) ?_; dsimp only)); at_builtin; refine Kd.R_append Kd.string (w0 := w) w.heap.size rfl (.tmp 140) (.tmp 142) 22 9 (.string ⟨#[]⟩) 16 rfl Tryd.underlying22 info9 rfl (by decide) (by omega) (.slice (some ad161) x15_5.length co62) x15_5 (rdOf ByteArray.empty x87_5 x89_5) [.string (rdOf ByteArray.empty x87_5 x89_5)] (fun k_ => some k_ ≠ (v145 : Value).ownBlock ∧ some k_ ≠ (.slice (some ad157) x87_5.length co35 : Value).ownBlock) (fun _ => False) rfl rfl ?aP (fun _ hk => hk.elim) ?aF ?aO ?aB ?aS ?aL ?_; (case aP => exact rfl); (case aB => exact (by repeat (first | (with_reducible first | exact HB.out | apply below_alloc | apply pw_below_drewN | apply below_drew1) | exact HB.out))); (case aF => exact (fun k_ hk => ⟨Kd.fresh' (Kd.R_lt (by (with_reducible repeat (first | apply Kd.R_alloc | apply Kd.R_drewN | apply Kd.R_drew)); exact HO_9.out)) k_ hk, Kd.fresh' (Kd.R_lt (by (with_reducible repeat (first | apply Kd.R_alloc | apply Kd.R_drewN | apply Kd.R_drew)); exact HO_87.out)) k_ hk⟩)); (case aO => exact (by (with_reducible repeat (first | apply Kd.R_alloc | apply Kd.R_drewN | apply Kd.R_drew)); exact HO_15.out)); (case aS => exact (below_size (by repeat (first | (with_reducible first | exact HB.out | apply below_alloc | apply pw_below_drewN | apply below_drew1) | exact HB.out)))); (case aL => have := LMc61.out; omega); intro v168 w64 ho hb hg hat; rw [← Ny167.out] at ho; have n0_ := Aside0.mk (Kd.R_after (ok := (fun k_ => some k_ ≠ (.slice (some ad157) x87_5.length co35 : Value).ownBlock)) (by (with_reducible repeat (first | apply Kd.R_alloc | apply Kd.R_drewN | apply Kd.R_drew)); exact Kd.R_mono HO_9.out (fun _ hk => ⟨hk.2, hk.1⟩)) hg hat); have n1_ := Aside0.mk (Kd.R_after (ok := (fun k_ => some k_ ≠ (v145 : Value).ownBlock)) (by (with_reducible repeat (first | apply Kd.R_alloc | apply Kd.R_drewN | apply Kd.R_drew)); exact HO_87.out) hg hat); have n2_ := Aside0.mk (hb); have n3_ := Aside0.mk (ho); clear HO_9; clear HO_87; clear HB; clear HO_15; have HO_9 := n0_; have HO_87 := n1_; have HB := n2_; have HO169 := n3_; clear n0_ n1_ n2_ n3_; clear ho hb hg hat))
                                                        (try simp only [← hl87_5])
                                                        go_roundg kj42
                                                        case measure => have := HJ4.out; have := HJ11.out; have := HJ15.out; have := HK4.out; have := HK5.out; have := HJ39.out; have := HJ42.out; omega
                                                        case rel => exact ⟨(x9_5), (x13_42), (y167), (x87_5), (wrap64 (x89_5 + 1)), (by first | rfl | (simp; done) | (simp [*]; done)), (by first | rfl | (simp; done) | (simp [*]; done)), H', ⟨by have := HJ4.out; have := HJ11.out; have := HJ15.out; have := HK4.out; have := HK5.out; have := HJ39.out; have := HJ42.out; omega⟩, ⟨by (try simp only [hl87_5]); (with_reducible repeat (first | apply Kd.R_alloc | apply Kd.R_drewN | apply Kd.R_drew)); exact Kd.R_mono HO_9.out (fun _ hk => ⟨hk.2, hk.1⟩)⟩, ⟨by (try simp only [hl87_5]); (with_reducible repeat (first | apply Kd.R_alloc | apply Kd.R_drewN | apply Kd.R_drew)); exact HO169.out⟩, ⟨by (try simp only [hl87_5]); (with_reducible repeat (first | apply Kd.R_alloc | apply Kd.R_drewN | apply Kd.R_drew)); exact HO_87.out⟩, ⟨by repeat (first | (with_reducible first | exact HB.out | apply below_alloc | apply pw_below_drewN | apply below_drew1) | exact HB.out)⟩⟩
                                                      · rw [if_neg c61] at H
                                                        exact absurd H (by simp)
                                                  · rw [if_neg c52] at H
                                                    have c52b0 : (t164 == 0) = false := beq_eq_false_iff_ne.mpr c52
                                                    have c52b1 : (t164 != 0) = true := bne_iff_ne.mpr c52
                                                    by_cases c65 : x15_5.length < 8796093022208
                                                    · rw [if_pos c65] at H
                                                      have LMc65 := Aside0.mk c65
                                                      clear c65
                                                      obtain ⟨y170, hy170⟩ : ∃ y_ : List ByteArray, y_ = (x15_5 ++ [(rdOf ByteArray.empty x87_5 x89_5)]) := ⟨_, rfl⟩
                                                      replace H : (terrlaw5_FontWraps.l2 kj42 a1 a2 x9_5 t144 x13_42 y170 x87_5 (x14_4.length : Int) (wrap64 (x89_5 + 1))) = some r := by first | (rw [hy170]; with_reducible exact H) | (have H2_ := (Option.bind_some _ _).symm.trans H; rw [hy170]; with_reducible exact H2_) | (have H2_ := (Option.bind_some _ _).symm.trans H; with_reducible exact H2_) | with_reducible exact H | (rw [hy170]; exact H) | exact H
                                                      have Ny170 := Aside0.mk hy170
                                                      clear hy170
                                                      have H' := Aside0.mk H
                                                      clear H
                                                      obtain ⟨Ao66, co66, eo66⟩ := Kd.R_slice HO_15.out
                                                      subst eo66
                                                      have p161 : 0 ≤ ((ji46) : Int) := of_decide_eq_true (by first | (with_reducible assumption) | assumption)
                                                      have q161 : (ji46) < (x15_5.length : Int) := of_decide_eq_true (by first | (with_reducible assumption) | assumption)
                                                      obtain ⟨ad161, e161, hx161_0⟩ := Kd.at_string (Kd.R_reads' HO_15.out).2.2 (ji46) p161 q161
                                                      cases e161
                                                      replace p161 := eq_true p161
                                                      replace q161 := eq_true q161
                                                      go_wp2_with (first | ((with_reducible refine gate_callee (f := 6) rfl ?_); refine goesL_ (some 121) rfl rfl Tryd.func6 (by kernel_rfl) rfl #[.string (((rdOf ByteArray.empty x15_5 (ji46)) ++ (⟨#[32]⟩ : ByteArray)) ++ (rdOf ByteArray.empty x87_5 x89_5)), .int .i64 a1] rfl (by (try simp only [List.map_toArray, List.map_cons, List.map_nil]); first | done | (simp only [hji46]; rfl) | rfl | (simp only [List.length_drop, List.length_take]; rfl)) ?_; (with_reducible refine (terrref5_TextSize.calls kj42 (((rdOf ByteArray.empty x15_5 (ji46)) ++ (⟨#[32]⟩ : ByteArray)) ++ (rdOf ByteArray.empty x87_5 x89_5)) a1 t162 t163 t164 _ A51.out).mono ?_); rintro e w67 ⟨rfl, hb⟩; refine ⟨_, rfl, ?_⟩; have n0_ := Aside0.mk (Kd.R_below (by (with_reducible repeat (first | apply Kd.R_alloc | apply Kd.R_drewN | apply Kd.R_drew)); exact HO_9.out) hb); have n1_ := Aside0.mk (Kd.R_below (by (with_reducible repeat (first | apply Kd.R_alloc | apply Kd.R_drewN | apply Kd.R_drew)); exact HO_15.out) hb); have n2_ := Aside0.mk (Kd.R_below (by (with_reducible repeat (first | apply Kd.R_alloc | apply Kd.R_drewN | apply Kd.R_drew)); exact HO_87.out) hb); have n3_ := Aside0.mk (below_step (by repeat (first | (with_reducible first | exact HB.out | apply below_alloc | apply pw_below_drewN | apply below_drew1) | exact HB.out)) hb); clear HO_9; clear HO_15; clear HO_87; clear HB; have HO_9 := n0_; have HO_15 := n1_; have HO_87 := n2_; have HB := n3_; clear n0_ n1_ n2_ n3_; (try clear hb); (try clear hb2); (try clear hk); (try clear hi)) | ((with_reducible refine gate_builtin (b := .append) (xs := #[.tmp 140, .tmp 142]) rfl ?_); (try (refine gate_guard (by rfl) ?_; dsimp only)); at_builtin; refine Kd.R_append Kd.string (w0 := w) w.heap.size rfl (.tmp 140) (.tmp 142) 22 9 (.string ⟨#[]⟩) 16 rfl Tryd.underlying22 info9 rfl (by decide) (by omega) (.slice (some ad161) x15_5.length co66) x15_5 (rdOf ByteArray.empty x87_5 x89_5) [.string (rdOf ByteArray.empty x87_5 x89_5)] (fun k_ => some k_ ≠ (v145 : Value).ownBlock ∧ some k_ ≠ (.slice (some ad157) x87_5.length co35 : Value).ownBlock) (fun _ => False) rfl rfl ?aP (fun _ hk => hk.elim) ?aF ?aO ?aB ?aS ?aL ?_; (case aP => exact rfl); (case aB => exact (by repeat (first | (with_reducible first | exact HB.out | apply below_alloc | apply pw_below_drewN | apply below_drew1) | exact HB.out))); (case aF => exact (fun k_ hk => ⟨Kd.fresh' (Kd.R_lt (by (with_reducible repeat (first | apply Kd.R_alloc | apply Kd.R_drewN | apply Kd.R_drew)); exact HO_9.out)) k_ hk, Kd.fresh' (Kd.R_lt (by (with_reducible repeat (first | apply Kd.R_alloc | apply Kd.R_drewN | apply Kd.R_drew)); exact HO_87.out)) k_ hk⟩)); (case aO => exact (by (with_reducible repeat (first | apply Kd.R_alloc | apply Kd.R_drewN | apply Kd.R_drew)); exact HO_15.out)); (case aS => exact (below_size (by repeat (first | (with_reducible first | exact HB.out | apply below_alloc | apply pw_below_drewN | apply below_drew1) | exact HB.out)))); (case aL => have := LMc65.out; omega); intro v171 w68 ho hb hg hat; rw [← Ny170.out] at ho; have n0_ := Aside0.mk (Kd.R_after (ok := (fun k_ => some k_ ≠ (.slice (some ad157) x87_5.length co35 : Value).ownBlock)) (by (with_reducible repeat (first | apply Kd.R_alloc | apply Kd.R_drewN | apply Kd.R_drew)); exact Kd.R_mono HO_9.out (fun _ hk => ⟨hk.2, hk.1⟩)) hg hat); have n1_ := Aside0.mk (Kd.R_after (ok := (fun k_ => some k_ ≠ (v145 : Value).ownBlock)) (by (with_reducible repeat (first | apply Kd.R_alloc | apply Kd.R_drewN | apply Kd.R_drew)); exact HO_87.out) hg hat); have n2_ := Aside0.mk (hb); have n3_ := Aside0.mk (ho); clear HO_9; clear HO_87; clear HB; clear HO_15; have HO_9 := n0_; have HO_87 := n1_; have HB := n2_; have HO172 := n3_; clear n0_ n1_ n2_ n3_; clear ho hb hg hat))
                                                      (try simp only [← hl87_5])
                                                      go_roundg kj42
                                                      case measure => have := HJ4.out; have := HJ11.out; have := HJ15.out; have := HK4.out; have := HK5.out; have := HJ39.out; have := HJ42.out; omega
                                                      case rel => exact ⟨(x9_5), (x13_42), (y170), (x87_5), (wrap64 (x89_5 + 1)), (by first | rfl | (simp; done) | (simp [*]; done)), (by first | rfl | (simp; done) | (simp [*]; done)), H', ⟨by have := HJ4.out; have := HJ11.out; have := HJ15.out; have := HK4.out; have := HK5.out; have := HJ39.out; have := HJ42.out; omega⟩, ⟨by (try simp only [hl87_5]); (with_reducible repeat (first | apply Kd.R_alloc | apply Kd.R_drewN | apply Kd.R_drew)); exact Kd.R_mono HO_9.out (fun _ hk => ⟨hk.2, hk.1⟩)⟩, ⟨by (try simp only [hl87_5]); (with_reducible repeat (first | apply Kd.R_alloc | apply Kd.R_drewN | apply Kd.R_drew)); exact HO172.out⟩, ⟨by (try simp only [hl87_5]); (with_reducible repeat (first | apply Kd.R_alloc | apply Kd.R_drewN | apply Kd.R_drew)); exact HO_87.out⟩, ⟨by repeat (first | (with_reducible first | exact HB.out | apply below_alloc | apply pw_below_drewN | apply below_drew1) | exact HB.out)⟩⟩
                                                    · rw [if_neg c65] at H
                                                      exact absurd H (by simp)
                                                · rw [if_neg c50] at H
                                                  exact absurd H (by simp)
                                              · rw [if_neg c49] at H
                                                exact absurd H (by simp)
                                            · rw [if_neg c48] at H
                                              exact absurd H (by simp)
                                          · rw [if_neg c47] at H
                                            exact absurd H (by simp)
                                        · rw [if_neg c45] at H
                                          have c45b0 : decide (0 ≤ (wrap64 ((x15_5.length : Int) - 1))) = false := decide_eq_false c45
                                          clear c45
                                          by_cases c69 : x15_5.length < 8796093022208
                                          · rw [if_pos c69] at H
                                            have LMc69 := Aside0.mk c69
                                            clear c69
                                            obtain ⟨y173, hy173⟩ : ∃ y_ : List ByteArray, y_ = (x15_5 ++ [(rdOf ByteArray.empty x87_5 x89_5)]) := ⟨_, rfl⟩
                                            replace H : (terrlaw5_FontWraps.l2 kj42 a1 a2 x9_5 t144 x13_42 y173 x87_5 (x14_4.length : Int) (wrap64 (x89_5 + 1))) = some r := by first | (rw [hy173]; with_reducible exact H) | (have H2_ := (Option.bind_some _ _).symm.trans H; rw [hy173]; with_reducible exact H2_) | (have H2_ := (Option.bind_some _ _).symm.trans H; with_reducible exact H2_) | with_reducible exact H | (rw [hy173]; exact H) | exact H
                                            have Ny173 := Aside0.mk hy173
                                            clear hy173
                                            have H' := Aside0.mk H
                                            clear H
                                            obtain ⟨Ao70, co70, eo70⟩ := Kd.R_slice HO_15.out
                                            subst eo70
                                            go_wp2_with (first | ((with_reducible refine gate_builtin (b := .append) (xs := #[.tmp 140, .tmp 142]) rfl ?_); (try (refine gate_guard (by rfl) ?_; dsimp only)); at_builtin; refine Kd.R_append Kd.string (w0 := w) w.heap.size rfl (.tmp 140) (.tmp 142) 22 9 (.string ⟨#[]⟩) 16 rfl Tryd.underlying22 info9 rfl (by decide) (by omega) (.slice Ao70 x15_5.length co70) x15_5 (rdOf ByteArray.empty x87_5 x89_5) [.string (rdOf ByteArray.empty x87_5 x89_5)] (fun k_ => some k_ ≠ (v145 : Value).ownBlock ∧ some k_ ≠ (.slice (some ad157) x87_5.length co35 : Value).ownBlock) (fun _ => False) rfl rfl ?aP (fun _ hk => hk.elim) ?aF ?aO ?aB ?aS ?aL ?_; (case aP => exact rfl); (case aB => exact (by repeat (first | (with_reducible first | exact HB.out | apply below_alloc | apply pw_below_drewN | apply below_drew1) | exact HB.out))); (case aF => exact (fun k_ hk => ⟨Kd.fresh' (Kd.R_lt (by (with_reducible repeat (first | apply Kd.R_alloc | apply Kd.R_drewN | apply Kd.R_drew)); exact HO_9.out)) k_ hk, Kd.fresh' (Kd.R_lt (by (with_reducible repeat (first | apply Kd.R_alloc | apply Kd.R_drewN | apply Kd.R_drew)); exact HO_87.out)) k_ hk⟩)); (case aO => exact (by (with_reducible repeat (first | apply Kd.R_alloc | apply Kd.R_drewN | apply Kd.R_drew)); exact HO_15.out)); (case aS => exact (below_size (by repeat (first | (with_reducible first | exact HB.out | apply below_alloc | apply pw_below_drewN | apply below_drew1) | exact HB.out)))); (case aL => have := LMc69.out; omega); intro v174 w71 ho hb hg hat; rw [← Ny173.out] at ho; have n0_ := Aside0.mk (Kd.R_after (ok := (fun k_ => some k_ ≠ (.slice (some ad157) x87_5.length co35 : Value).ownBlock)) (by (with_reducible repeat (first | apply Kd.R_alloc | apply Kd.R_drewN | apply Kd.R_drew)); exact Kd.R_mono HO_9.out (fun _ hk => ⟨hk.2, hk.1⟩)) hg hat); have n1_ := Aside0.mk (Kd.R_after (ok := (fun k_ => some k_ ≠ (v145 : Value).ownBlock)) (by (with_reducible repeat (first | apply Kd.R_alloc | apply Kd.R_drewN | apply Kd.R_drew)); exact HO_87.out) hg hat); have n2_ := Aside0.mk (hb); have n3_ := Aside0.mk (ho); clear HO_9; clear HO_87; clear HB; clear HO_15; have HO_9 := n0_; have HO_87 := n1_; have HB := n2_; have HO175 := n3_; clear n0_ n1_ n2_ n3_; clear ho hb hg hat))
                                            (try simp only [← hl87_5])
                                            go_roundg kj42
                                            case measure => have := HJ4.out; have := HJ11.out; have := HJ15.out; have := HK4.out; have := HK5.out; have := HJ39.out; have := HJ42.out; omega
                                            case rel => exact ⟨(x9_5), (x13_42), (y173), (x87_5), (wrap64 (x89_5 + 1)), (by first | rfl | (simp; done) | (simp [*]; done)), (by first | rfl | (simp; done) | (simp [*]; done)), H', ⟨by have := HJ4.out; have := HJ11.out; have := HJ15.out; have := HK4.out; have := HK5.out; have := HJ39.out; have := HJ42.out; omega⟩, ⟨by (try simp only [hl87_5]); (with_reducible repeat (first | apply Kd.R_alloc | apply Kd.R_drewN | apply Kd.R_drew)); exact Kd.R_mono HO_9.out (fun _ hk => ⟨hk.2, hk.1⟩)⟩, ⟨by (try simp only [hl87_5]); (with_reducible repeat (first | apply Kd.R_alloc | apply Kd.R_drewN | apply Kd.R_drew)); exact HO175.out⟩, ⟨by (try simp only [hl87_5]); (with_reducible repeat (first | apply Kd.R_alloc | apply Kd.R_drewN | apply Kd.R_drew)); exact HO_87.out⟩, ⟨by repeat (first | (with_reducible first | exact HB.out | apply below_alloc | apply pw_below_drewN | apply below_drew1) | exact HB.out)⟩⟩
                                          · rw [if_neg c69] at H
                                            exact absurd H (by simp)
                              · rw [if_neg c38] at H
                                exact absurd H (by simp)
                            · rw [if_neg c37] at H
                              exact absurd H (by simp)
                          · rw [if_neg c36] at H
                            have c36b0 : decide (x89_5 < (x14_4.length : Int)) = false := decide_eq_false c36
                            have c36b9 : decide (x89_5 < (x87_5.length : Int)) = false := by first | (rw [hl87_5]; exact c36b0) | (rw [← hl87_5]; exact c36b0)
                            clear c36
                            by_cases c72 : x13_5 = 0
                            · rw [if_pos c72] at H
                              have c72b0 : (x13_5 == 0) = true := beq_iff_eq.mpr c72
                              have c72b1 : (x13_5 != 0) = false := bne_eq_false_iff_eq.mpr c72
                              clear c72
                              by_cases c73 : t144 = 0
                              · rw [if_pos c73] at H
                                have c73b0 : (t144 == 0) = true := beq_iff_eq.mpr c73
                                have c73b1 : (t144 != 0) = false := bne_eq_false_iff_eq.mpr c73
                                clear c73
                                replace H := Option.bind_eq_some_iff.mp H
                                obtain ⟨t156, A740, H⟩ := H
                                replace H : (some t156) = some r := H
                                have A74 := Aside0.mk A740
                                clear A740
                                clear hr
                                obtain rfl := Option.some.inj H
                                obtain ⟨Ao75, co75, eo75⟩ := Kd.R_slice HO_9.out
                                subst eo75
                                obtain ⟨Ao76, co76, eo76⟩ := Kd.R_slice HO_15.out
                                subst eo76
                                go_wp2_with (first | (go_at_call 7; (with_reducible refine (slices_Equal_string_string.calls k5 _ _ x9_5 _ _ x15_5 t156 _ ?side1 ?side2 ?side3 ?side4 A74.out).mono ?_); (case side1 => repeat (first | exact (Kd.R_reads' HO_9.out).2.2 | (with_reducible refine Kd.C_alloc ?_ _) | (with_reducible refine Kd.C_drewN ?_ _) | (with_reducible refine Kd.C_drew ?_))); (case side2 => exact (Kd.R_reads' HO_9.out).2.1); (case side3 => repeat (first | exact (Kd.R_reads' HO_15.out).2.2 | (with_reducible refine Kd.C_alloc ?_ _) | (with_reducible refine Kd.C_drewN ?_ _) | (with_reducible refine Kd.C_drew ?_))); (case side4 => exact (Kd.R_reads' HO_15.out).2.1); rintro e w' ⟨rfl, ⟨nd, rfl⟩⟩))
                                go_ret
                                exact ⟨by first | rfl | (simp [errW_none, errW_some] <;> rfl) | (simp [*, errW_none, errW_some] <;> rfl), by repeat (first | (with_reducible first | exact HB.out | apply below_alloc | apply pw_below_drewN | apply below_drew1) | exact HB.out)⟩
                              · rw [if_neg c73] at H
                                have c73b0 : (t144 == 0) = false := beq_eq_false_iff_ne.mpr c73
                                have c73b1 : (t144 != 0) = true := bne_iff_ne.mpr c73
                                exact absurd (H.trans (congrArg some hr)) (by decide)
                            · rw [if_neg c72] at H
                              have c72b0 : (x13_5 == 0) = false := beq_eq_false_iff_ne.mpr c72
                              have c72b1 : (x13_5 != 0) = true := bne_iff_ne.mpr c72
                              by_cases c77 : t144 = x13_5
                              · rw [if_pos c77] at H
                                have c77b0 : (t144 == x13_5) = true := beq_iff_eq.mpr c77
                                have c77b1 : (t144 != x13_5) = false := bne_eq_false_iff_eq.mpr c77
                                clear c77
                                clear hr
                                obtain rfl := Option.some.inj H
                                obtain ⟨Ao78, co78, eo78⟩ := Kd.R_slice HO_9.out
                                subst eo78
                                go_wp2
                                go_ret
                                exact ⟨by first | rfl | (simp [errW_none, errW_some] <;> rfl) | (simp [*, errW_none, errW_some] <;> rfl), by repeat (first | (with_reducible first | exact HB.out | apply below_alloc | apply pw_below_drewN | apply below_drew1) | exact HB.out)⟩
                              · rw [if_neg c77] at H
                                have c77b0 : (t144 == x13_5) = false := beq_eq_false_iff_ne.mpr c77
                                have c77b1 : (t144 != x13_5) = true := bne_iff_ne.mpr c77
                                exact absurd (H.trans (congrArg some hr)) (by decide)

end Go.Proofs.YtojehbkadlmbjaaDoor.Q
