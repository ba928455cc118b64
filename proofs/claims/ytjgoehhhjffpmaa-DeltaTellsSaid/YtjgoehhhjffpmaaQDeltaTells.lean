/- What the Go function terrlaw5_DeltaTells comes to, and its contract. Condition: its printed twin gives an answer, which is true. -/
import Derived.Test.YtjgoehhhjffpmaaQf14
import Derived.Test.YtjgoehhhjffpmaaQf15
import Derived.Test.YtjgoehhhjffpmaaQf16
import Derived.Test.YtjgoehhhjffpmaaQf17
import Derived.Test.YtjgoehhhjffpmaaQf18
import Derived.Test.YtjgoehhhjffpmaaQf19
import Derived.Test.YtjgoehhhjffpmaaQf21
import Derived.Test.YtjgoehhhjffpmaaQf20
import Derived.Test.YtjgoehhhjffpmaaQf22
namespace Go.Proofs.Ytjgoehhhjffpmaa.Q
open Go.RowKit Go.Proofs.YtjgoehhhjffpmaaW.PrintWords Go.Proofs.YtjgoehhhjffpmaaW.PrintLast Go.Proofs.YtjgoehhhjffpmaaW.PrintMore
attribute [local go_sem] max2_int min2_int max_two min_two max_three min_three max_four min_four
set_option linter.unusedVariables false
set_option linter.unusedSimpArgs false
/-! ### terrlaw5_DeltaTells: function 4 -/
/-- A list of two rows, read: the rows may be anybody's. -/
theorem C_lit2 {P : Program} {ops : Array Oper} {rest : List Oper} {o : Oper} {a : Act} {Q : Exit → Act → World → Prop} {W : World} (hgd : o.guard = none) {N : Tmp} (_hd : o.dst = some N) {A1 A2 : Option Addr} {c1 c2 : Nat} {l1 l2 : List Int}
    (hrun : (execOp a.eval o).run P W = .ok (.value (.slice (some ⟨W.heap.size, 0, none⟩) 2 2)) (W.alloc (.cells #[.slice A1 l1.length c1, .slice A2 l2.length c2] 22)))
    (h1 : Kd.C (Kd.int .u8) W A1 l1.length l1) (hc1 : l1.length ≤ c1) (h2 : Kd.C (Kd.int .u8) W A2 l2.length l2) (hc2 : l2.length ≤ c2)
    (h : ∀ g w1, Kd.C (Kd.slice 5 (Kd.int .u8)) w1 (some ⟨g, 0, none⟩) 2 [l1, l2] → Below W.heap.size W w1 → wpList P ops Q rest (a.put o.dst (.slice (some ⟨g, 0, none⟩) 2 2)) w1) : wpList P ops Q (o :: rest) a W := by
  have hb : Below W.heap.size W (W.alloc (.cells #[.slice A1 l1.length c1, .slice A2 l2.length c2] 22)) := below_alloc (Below.refl _ _) _
  have hg := blk_new W (.cells #[.slice A1 l1.length c1, .slice A2 l2.length c2] 22)
  refine Kd.event_run hgd hrun (h W.heap.size _ ⟨rfl, by decide, fun _ => ⟨_, rfl, fun j p hj => ?_⟩⟩ hb)
  have hg' : (W.alloc (.cells #[.slice A1 l1.length c1, .slice A2 l2.length c2] 22)).heap[W.heap.size]? = some (.cells #[.slice A1 l1.length c1, .slice A2 l2.length c2] 22 (0, 0)) := hg
  have hj2 : j < 2 := (List.getElem?_eq_some_iff.1 hj).1
  have e : j = 0 ∨ j = 1 := by omega
  rcases e with rfl | rfl
  · obtain rfl : l1 = p := by simpa using hj
    refine ⟨[.slice A1 l1.length c1], rfl, ⟨A1, c1, rfl, hc1, Kd.C_below h1 hb⟩, fun i u hu => ?_⟩
    have hi : i < 1 := (List.getElem?_eq_some_iff.1 hu).1
    obtain rfl : i = 0 := by omega
    obtain rfl : Value.slice A1 l1.length c1 = u := by simpa using hu
    exact (blk_cell hg' 0).trans rfl
  · obtain rfl : l2 = p := by simpa using hj
    refine ⟨[.slice A2 l2.length c2], rfl, ⟨A2, c2, rfl, hc2, Kd.C_below h2 hb⟩, fun i u hu => ?_⟩
    have hi : i < 1 := (List.getElem?_eq_some_iff.1 hu).1
    obtain rfl : i = 0 := by omega
    obtain rfl : Value.slice A2 l2.length c2 = u := by simpa using hu
    exact (blk_cell hg' 1).trans rfl
mutual
def terrlaw5_DeltaTells.j0 : Nat → List (List (S44)) → Bool → Option (Bool)
  | 0, _, _ => none
  | k + 1, x2, x74 => if x74 = true then (some false) else (terrlaw5_DeltaTells.l0 k x2 0 x2 (x2.length : Int) 0)
def terrlaw5_DeltaTells.l0 : Nat → List (List (S44)) → Int → List (List (S44)) → Int → Int → Option (Bool)
  | 0, _, _, _, _, _ => none
  | k + 1, x2, x13, x75, x76, x77 => if x77 < x76 then (if 0 ≤ x77 then (if x77 < (x75.length : Int) then (terrlaw5_DeltaTells.l0 k x2 (wrap64 (x13 + ((rd_L4 x75 x77).length : Int))) x75 x76 (wrap64 (x77 + 1))) else (none)) else (none)) else ((delta_Write.f k x2).bind fun bt256 => (if (x2.length : Int) > 1000 then (terrlaw5_DeltaTells.j2 k x2 bt256.1 bt256.2 true) else (terrlaw5_DeltaTells.j2 k x2 bt256.1 bt256.2 (decide (x13 > 20000)))))
def terrlaw5_DeltaTells.j2 : Nat → List (List (S44)) → List Int → Int → Bool → Option (Bool)
  | 0, _, _, _, _ => none
  | k + 1, x2, x16, x17, x97 => if x97 = true then ((delta_Check.f k x2).bind fun t260 => (if t260 = 2 then (if x17 = 2 then (some ((x16.length : Int) == 0)) else (some false)) else (some false))) else ((delta_Check.f k x2).bind fun t261 => (if t261 = 0 then (if x17 = 0 then ((terrref5_Lists.f k x2).bind fun t262 => ((slices_Equal_byte_byte.f k x16 t262).bind fun t265 => (some t265))) else (some false)) else (some false)))
end
def terrlaw5_DeltaTells.f (k : Nat) (a0 : Int) (l1 : List Int) (l2 : List (List (S44))) : Option (Bool) := (delta_Num.f k ([] : List Int) (-65)).bind fun t221 => ((slices_Equal_byte_byte.f k t221 (([129, 1] : List Int))).bind fun t227 => (if t227 = true then ((delta_Num.f k l1 a0).bind fun t228 => ((some l1).bind fun t231 => ((terrref5_Digits.f k a0).bind fun t234 => ((slices_Concat_byte_byte.f k (([t231, t234] : List (List Int)))).bind fun t240 => ((slices_Equal_byte_byte.f k t228 t240).bind fun t243 => (if t243 = true then ((delta_Take.f k l1).bind fun bt244 => ((terrref5_Number.f k l1).bind fun bt249 => (if bt244.2.2 = bt249.2.2 then (if bt249.2.2 = 0 then (if bt244.1 = bt249.1 then ((slices_Equal_byte_byte.f k bt244.2.1 bt249.2.1).bind fun t254 => (if t254 = true then (terrlaw5_DeltaTells.j0 k l2 false) else (terrlaw5_DeltaTells.j0 k l2 true))) else (terrlaw5_DeltaTells.j0 k l2 true)) else (if bt244.1 = 0 then (terrlaw5_DeltaTells.j0 k l2 (decide ((bt244.2.1.length : Int) > 0))) else (terrlaw5_DeltaTells.j0 k l2 true))) else (terrlaw5_DeltaTells.j0 k l2 true)))) else (some false))))))) else (some false)))
theorem terrlaw5_DeltaTells.mono_l : ∀ k, (∀ y0 y1, LeO (terrlaw5_DeltaTells.j0 k y0 y1) (terrlaw5_DeltaTells.j0 (k + 1) y0 y1)) ∧ (∀ y0 y1 y2 y3 y4, LeO (terrlaw5_DeltaTells.l0 k y0 y1 y2 y3 y4) (terrlaw5_DeltaTells.l0 (k + 1) y0 y1 y2 y3 y4)) ∧ (∀ y0 y1 y2 y3, LeO (terrlaw5_DeltaTells.j2 k y0 y1 y2 y3) (terrlaw5_DeltaTells.j2 (k + 1) y0 y1 y2 y3))
  | 0 => ⟨fun _ _ r h => by simp [terrlaw5_DeltaTells.j0] at h, fun _ _ _ _ _ r h => by simp [terrlaw5_DeltaTells.l0] at h, fun _ _ _ _ r h => by simp [terrlaw5_DeltaTells.j2] at h⟩
  | k + 1 => by
    obtain ⟨ih0, ih1, ih2⟩ := terrlaw5_DeltaTells.mono_l k
    refine ⟨?_, ?_, ?_⟩
    · intro y0 y1
      unfold terrlaw5_DeltaTells.j0
      repeat' first
      | (with_reducible exact ih0 _ _)
      | (with_reducible exact ih1 _ _ _ _ _)
      | (with_reducible exact ih2 _ _ _ _)
      | (with_reducible exact delta_Check.mono _ _)
      | (with_reducible exact delta_Num.mono _ _ _)
      | (with_reducible exact delta_Take.mono _ _)
      | (with_reducible exact delta_Write.mono _ _)
      | (with_reducible exact slices_Concat_byte_byte.mono _ _)
      | (with_reducible exact slices_Equal_byte_byte.mono _ _ _)
      | (with_reducible exact terrref5_Digits.mono _ _)
      | (with_reducible exact terrref5_Lists.mono _ _)
      | (with_reducible exact terrref5_Number.mono _ _)
      | (with_reducible exact LeO.refl _)
      | (with_reducible exact LeO.none _)
      | (with_reducible refine LeO.ite ?_ ?_)
      | (with_reducible refine LeO.bind ?_ (fun _ => ?_))
      | exact ih0 _ _
      | exact ih1 _ _ _ _ _
      | exact ih2 _ _ _ _
      | exact delta_Check.mono _ _
      | exact delta_Num.mono _ _ _
      | exact delta_Take.mono _ _
      | exact delta_Write.mono _ _
      | exact slices_Concat_byte_byte.mono _ _
      | exact slices_Equal_byte_byte.mono _ _ _
      | exact terrref5_Digits.mono _ _
      | exact terrref5_Lists.mono _ _
      | exact terrref5_Number.mono _ _
      | exact LeO.none _
      | refine LeO.ite ?_ ?_
      | refine LeO.bind ?_ (fun _ => ?_)
    · intro y0 y1 y2 y3 y4
      unfold terrlaw5_DeltaTells.l0
      repeat' first
      | (with_reducible exact ih0 _ _)
      | (with_reducible exact ih1 _ _ _ _ _)
      | (with_reducible exact ih2 _ _ _ _)
      | (with_reducible exact delta_Check.mono _ _)
      | (with_reducible exact delta_Num.mono _ _ _)
      | (with_reducible exact delta_Take.mono _ _)
      | (with_reducible exact delta_Write.mono _ _)
      | (with_reducible exact slices_Concat_byte_byte.mono _ _)
      | (with_reducible exact slices_Equal_byte_byte.mono _ _ _)
      | (with_reducible exact terrref5_Digits.mono _ _)
      | (with_reducible exact terrref5_Lists.mono _ _)
      | (with_reducible exact terrref5_Number.mono _ _)
      | (with_reducible exact LeO.refl _)
      | (with_reducible exact LeO.none _)
      | (with_reducible refine LeO.ite ?_ ?_)
      | (with_reducible refine LeO.bind ?_ (fun _ => ?_))
      | exact ih0 _ _
      | exact ih1 _ _ _ _ _
      | exact ih2 _ _ _ _
      | exact delta_Check.mono _ _
      | exact delta_Num.mono _ _ _
      | exact delta_Take.mono _ _
      | exact delta_Write.mono _ _
      | exact slices_Concat_byte_byte.mono _ _
      | exact slices_Equal_byte_byte.mono _ _ _
      | exact terrref5_Digits.mono _ _
      | exact terrref5_Lists.mono _ _
      | exact terrref5_Number.mono _ _
      | exact LeO.none _
      | refine LeO.ite ?_ ?_
      | refine LeO.bind ?_ (fun _ => ?_)
    · intro y0 y1 y2 y3
      unfold terrlaw5_DeltaTells.j2
      repeat' first
      | (with_reducible exact ih0 _ _)
      | (with_reducible exact ih1 _ _ _ _ _)
      | (with_reducible exact ih2 _ _ _ _)
      | (with_reducible exact delta_Check.mono _ _)
      | (with_reducible exact delta_Num.mono _ _ _)
      | (with_reducible exact delta_Take.mono _ _)
      | (with_reducible exact delta_Write.mono _ _)
      | (with_reducible exact slices_Concat_byte_byte.mono _ _)
      | (with_reducible exact slices_Equal_byte_byte.mono _ _ _)
      | (with_reducible exact terrref5_Digits.mono _ _)
      | (with_reducible exact terrref5_Lists.mono _ _)
      | (with_reducible exact terrref5_Number.mono _ _)
      | (with_reducible exact LeO.refl _)
      | (with_reducible exact LeO.none _)
      | (with_reducible refine LeO.ite ?_ ?_)
      | (with_reducible refine LeO.bind ?_ (fun _ => ?_))
      | exact ih0 _ _
      | exact ih1 _ _ _ _ _
      | exact ih2 _ _ _ _
      | exact delta_Check.mono _ _
      | exact delta_Num.mono _ _ _
      | exact delta_Take.mono _ _
      | exact delta_Write.mono _ _
      | exact slices_Concat_byte_byte.mono _ _
      | exact slices_Equal_byte_byte.mono _ _ _
      | exact terrref5_Digits.mono _ _
      | exact terrref5_Lists.mono _ _
      | exact terrref5_Number.mono _ _
      | exact LeO.none _
      | refine LeO.ite ?_ ?_
      | refine LeO.bind ?_ (fun _ => ?_)
theorem terrlaw5_DeltaTells.mono : ∀ a0 a1 a2 k, LeO (terrlaw5_DeltaTells.f k a0 a1 a2) (terrlaw5_DeltaTells.f (k + 1) a0 a1 a2) := by
  intro a0 a1 a2 k
  obtain ⟨ih0, ih1, ih2⟩ := terrlaw5_DeltaTells.mono_l k
  unfold terrlaw5_DeltaTells.f
  repeat' first
      | (with_reducible exact ih0 _ _)
      | (with_reducible exact ih1 _ _ _ _ _)
      | (with_reducible exact ih2 _ _ _ _)
      | (with_reducible exact delta_Check.mono _ _)
      | (with_reducible exact delta_Num.mono _ _ _)
      | (with_reducible exact delta_Take.mono _ _)
      | (with_reducible exact delta_Write.mono _ _)
      | (with_reducible exact slices_Concat_byte_byte.mono _ _)
      | (with_reducible exact slices_Equal_byte_byte.mono _ _ _)
      | (with_reducible exact terrref5_Digits.mono _ _)
      | (with_reducible exact terrref5_Lists.mono _ _)
      | (with_reducible exact terrref5_Number.mono _ _)
      | (with_reducible exact LeO.refl _)
      | (with_reducible exact LeO.none _)
      | (with_reducible refine LeO.ite ?_ ?_)
      | (with_reducible refine LeO.bind ?_ (fun _ => ?_))
      | exact ih0 _ _
      | exact ih1 _ _ _ _ _
      | exact ih2 _ _ _ _
      | exact delta_Check.mono _ _
      | exact delta_Num.mono _ _ _
      | exact delta_Take.mono _ _
      | exact delta_Write.mono _ _
      | exact slices_Concat_byte_byte.mono _ _
      | exact slices_Equal_byte_byte.mono _ _ _
      | exact terrref5_Digits.mono _ _
      | exact terrref5_Lists.mono _ _
      | exact terrref5_Number.mono _ _
      | exact LeO.none _
      | refine LeO.ite ?_ ?_
      | refine LeO.bind ?_ (fun _ => ?_)
set_option maxHeartbeats 8000000 in
set_option maxRecDepth 100000 in
theorem terrlaw5_DeltaTells.calls (k : Nat) (a0 : Int) (A1 : Option Addr) (c1 : Nat) (l1 : List Int) (A2 : Option Addr) (c2 : Nat) (l2 : List (List (S44))) (r : Bool) (w : World) (hr1 : Kd.C (Kd.int .u8) w A1 l1.length l1) (hc1 : l1.length ≤ c1) (hr2 : Kd.C (Kd.slice 44 k44) w A2 l2.length l2) (hc2 : l2.length ≤ c2) (h : terrlaw5_DeltaTells.f k a0 l1 l2 = some r) (hr : r = true) :
    Calls Try.prog 4 #[.int .i64 a0, .slice A1 l1.length c1, .slice A2 l2.length c2] w fun e w' => e = .returned (.bool r) ∧ Below w.heap.size w w' := by
  have HR1 := Aside0.mk hr1
  have HC1 := Aside0.mk hc1
  clear hr1 hc1
  have HR2 := Aside0.mk hr2
  have HC2 := Aside0.mk hc2
  clear hr2 hc2
  have HB := Aside0.mk (Below.refl w.heap.size w)
  have H : ((delta_Num.f k ([] : List Int) (-65)).bind fun t221 => ((slices_Equal_byte_byte.f k t221 (([129, 1] : List Int))).bind fun t227 => (if t227 = true then ((delta_Num.f k l1 a0).bind fun t228 => ((some l1).bind fun t231 => ((terrref5_Digits.f k a0).bind fun t234 => ((slices_Concat_byte_byte.f k (([t231, t234] : List (List Int)))).bind fun t240 => ((slices_Equal_byte_byte.f k t228 t240).bind fun t243 => (if t243 = true then ((delta_Take.f k l1).bind fun bt244 => ((terrref5_Number.f k l1).bind fun bt249 => (if bt244.2.2 = bt249.2.2 then (if bt249.2.2 = 0 then (if bt244.1 = bt249.1 then ((slices_Equal_byte_byte.f k bt244.2.1 bt249.2.1).bind fun t254 => (if t254 = true then (terrlaw5_DeltaTells.j0 k l2 false) else (terrlaw5_DeltaTells.j0 k l2 true))) else (terrlaw5_DeltaTells.j0 k l2 true)) else (if bt244.1 = 0 then (terrlaw5_DeltaTells.j0 k l2 (decide ((bt244.2.1.length : Int) > 0))) else (terrlaw5_DeltaTells.j0 k l2 true))) else (terrlaw5_DeltaTells.j0 k l2 true)))) else (some false))))))) else (some false)))) = some r := h
  clear h
  replace H := Option.bind_eq_some_iff.mp H
  obtain ⟨t221, A40, H⟩ := H
  replace H : ((slices_Equal_byte_byte.f k t221 (([129, 1] : List Int))).bind fun t227 => (if t227 = true then ((delta_Num.f k l1 a0).bind fun t228 => ((some l1).bind fun t231 => ((terrref5_Digits.f k a0).bind fun t234 => ((slices_Concat_byte_byte.f k (([t231, t234] : List (List Int)))).bind fun t240 => ((slices_Equal_byte_byte.f k t228 t240).bind fun t243 => (if t243 = true then ((delta_Take.f k l1).bind fun bt244 => ((terrref5_Number.f k l1).bind fun bt249 => (if bt244.2.2 = bt249.2.2 then (if bt249.2.2 = 0 then (if bt244.1 = bt249.1 then ((slices_Equal_byte_byte.f k bt244.2.1 bt249.2.1).bind fun t254 => (if t254 = true then (terrlaw5_DeltaTells.j0 k l2 false) else (terrlaw5_DeltaTells.j0 k l2 true))) else (terrlaw5_DeltaTells.j0 k l2 true)) else (if bt244.1 = 0 then (terrlaw5_DeltaTells.j0 k l2 (decide ((bt244.2.1.length : Int) > 0))) else (terrlaw5_DeltaTells.j0 k l2 true))) else (terrlaw5_DeltaTells.j0 k l2 true)))) else (some false))))))) else (some false))) = some r := H
  have A4 := Aside0.mk A40
  clear A40
  obtain ⟨y224, hy224⟩ : ∃ y_ : List Int, y_ = (([129, 1] : List Int)) := ⟨_, rfl⟩
  replace H : ((slices_Equal_byte_byte.f k t221 y224).bind fun t227 => (if t227 = true then ((delta_Num.f k l1 a0).bind fun t228 => ((some l1).bind fun t231 => ((terrref5_Digits.f k a0).bind fun t234 => ((slices_Concat_byte_byte.f k (([t231, t234] : List (List Int)))).bind fun t240 => ((slices_Equal_byte_byte.f k t228 t240).bind fun t243 => (if t243 = true then ((delta_Take.f k l1).bind fun bt244 => ((terrref5_Number.f k l1).bind fun bt249 => (if bt244.2.2 = bt249.2.2 then (if bt249.2.2 = 0 then (if bt244.1 = bt249.1 then ((slices_Equal_byte_byte.f k bt244.2.1 bt249.2.1).bind fun t254 => (if t254 = true then (terrlaw5_DeltaTells.j0 k l2 false) else (terrlaw5_DeltaTells.j0 k l2 true))) else (terrlaw5_DeltaTells.j0 k l2 true)) else (if bt244.1 = 0 then (terrlaw5_DeltaTells.j0 k l2 (decide ((bt244.2.1.length : Int) > 0))) else (terrlaw5_DeltaTells.j0 k l2 true))) else (terrlaw5_DeltaTells.j0 k l2 true)))) else (some false))))))) else (some false))) = some r := by first | (rw [hy224]; with_reducible exact H) | (have H2_ := (Option.bind_some _ _).symm.trans H; rw [hy224]; with_reducible exact H2_) | (have H2_ := (Option.bind_some _ _).symm.trans H; with_reducible exact H2_) | with_reducible exact H | (rw [hy224]; exact H) | exact H
  have Ny224 := Aside0.mk hy224
  clear hy224
  replace H := Option.bind_eq_some_iff.mp H
  obtain ⟨t227, A50, H⟩ := H
  replace H : (if t227 = true then ((delta_Num.f k l1 a0).bind fun t228 => ((some l1).bind fun t231 => ((terrref5_Digits.f k a0).bind fun t234 => ((slices_Concat_byte_byte.f k (([t231, t234] : List (List Int)))).bind fun t240 => ((slices_Equal_byte_byte.f k t228 t240).bind fun t243 => (if t243 = true then ((delta_Take.f k l1).bind fun bt244 => ((terrref5_Number.f k l1).bind fun bt249 => (if bt244.2.2 = bt249.2.2 then (if bt249.2.2 = 0 then (if bt244.1 = bt249.1 then ((slices_Equal_byte_byte.f k bt244.2.1 bt249.2.1).bind fun t254 => (if t254 = true then (terrlaw5_DeltaTells.j0 k l2 false) else (terrlaw5_DeltaTells.j0 k l2 true))) else (terrlaw5_DeltaTells.j0 k l2 true)) else (if bt244.1 = 0 then (terrlaw5_DeltaTells.j0 k l2 (decide ((bt244.2.1.length : Int) > 0))) else (terrlaw5_DeltaTells.j0 k l2 true))) else (terrlaw5_DeltaTells.j0 k l2 true)))) else (some false))))))) else (some false)) = some r := H
  have A5 := Aside0.mk A50
  clear A50
  by_cases c6 : t227 = true
  · subst c6
    have H1 : ((delta_Num.f k l1 a0).bind fun t228 => ((some l1).bind fun t231 => ((terrref5_Digits.f k a0).bind fun t234 => ((slices_Concat_byte_byte.f k (([t231, t234] : List (List Int)))).bind fun t240 => ((slices_Equal_byte_byte.f k t228 t240).bind fun t243 => (if t243 = true then ((delta_Take.f k l1).bind fun bt244 => ((terrref5_Number.f k l1).bind fun bt249 => (if bt244.2.2 = bt249.2.2 then (if bt249.2.2 = 0 then (if bt244.1 = bt249.1 then ((slices_Equal_byte_byte.f k bt244.2.1 bt249.2.1).bind fun t254 => (if t254 = true then (terrlaw5_DeltaTells.j0 k l2 false) else (terrlaw5_DeltaTells.j0 k l2 true))) else (terrlaw5_DeltaTells.j0 k l2 true)) else (if bt244.1 = 0 then (terrlaw5_DeltaTells.j0 k l2 (decide ((bt244.2.1.length : Int) > 0))) else (terrlaw5_DeltaTells.j0 k l2 true))) else (terrlaw5_DeltaTells.j0 k l2 true)))) else (some false))))))) = some r := by rw [if_pos rfl] at H; exact H
    clear H
    have H := H1
    clear H1
    replace H := Option.bind_eq_some_iff.mp H
    obtain ⟨t228, A70, H⟩ := H
    replace H : ((some l1).bind fun t231 => ((terrref5_Digits.f k a0).bind fun t234 => ((slices_Concat_byte_byte.f k (([t231, t234] : List (List Int)))).bind fun t240 => ((slices_Equal_byte_byte.f k t228 t240).bind fun t243 => (if t243 = true then ((delta_Take.f k l1).bind fun bt244 => ((terrref5_Number.f k l1).bind fun bt249 => (if bt244.2.2 = bt249.2.2 then (if bt249.2.2 = 0 then (if bt244.1 = bt249.1 then ((slices_Equal_byte_byte.f k bt244.2.1 bt249.2.1).bind fun t254 => (if t254 = true then (terrlaw5_DeltaTells.j0 k l2 false) else (terrlaw5_DeltaTells.j0 k l2 true))) else (terrlaw5_DeltaTells.j0 k l2 true)) else (if bt244.1 = 0 then (terrlaw5_DeltaTells.j0 k l2 (decide ((bt244.2.1.length : Int) > 0))) else (terrlaw5_DeltaTells.j0 k l2 true))) else (terrlaw5_DeltaTells.j0 k l2 true)))) else (some false)))))) = some r := H
    have A7 := Aside0.mk A70
    clear A70
    replace H := Option.bind_eq_some_iff.mp H
    obtain ⟨t231, A80, H⟩ := H
    replace H : ((terrref5_Digits.f k a0).bind fun t234 => ((slices_Concat_byte_byte.f k (([t231, t234] : List (List Int)))).bind fun t240 => ((slices_Equal_byte_byte.f k t228 t240).bind fun t243 => (if t243 = true then ((delta_Take.f k l1).bind fun bt244 => ((terrref5_Number.f k l1).bind fun bt249 => (if bt244.2.2 = bt249.2.2 then (if bt249.2.2 = 0 then (if bt244.1 = bt249.1 then ((slices_Equal_byte_byte.f k bt244.2.1 bt249.2.1).bind fun t254 => (if t254 = true then (terrlaw5_DeltaTells.j0 k l2 false) else (terrlaw5_DeltaTells.j0 k l2 true))) else (terrlaw5_DeltaTells.j0 k l2 true)) else (if bt244.1 = 0 then (terrlaw5_DeltaTells.j0 k l2 (decide ((bt244.2.1.length : Int) > 0))) else (terrlaw5_DeltaTells.j0 k l2 true))) else (terrlaw5_DeltaTells.j0 k l2 true)))) else (some false))))) = some r := H
    have A8 := Aside0.mk A80
    clear A80
    have e8 := Option.some.inj A8.out
    subst e8
    replace H := Option.bind_eq_some_iff.mp H
    obtain ⟨t234, A90, H⟩ := H
    replace H : ((slices_Concat_byte_byte.f k (([l1, t234] : List (List Int)))).bind fun t240 => ((slices_Equal_byte_byte.f k t228 t240).bind fun t243 => (if t243 = true then ((delta_Take.f k l1).bind fun bt244 => ((terrref5_Number.f k l1).bind fun bt249 => (if bt244.2.2 = bt249.2.2 then (if bt249.2.2 = 0 then (if bt244.1 = bt249.1 then ((slices_Equal_byte_byte.f k bt244.2.1 bt249.2.1).bind fun t254 => (if t254 = true then (terrlaw5_DeltaTells.j0 k l2 false) else (terrlaw5_DeltaTells.j0 k l2 true))) else (terrlaw5_DeltaTells.j0 k l2 true)) else (if bt244.1 = 0 then (terrlaw5_DeltaTells.j0 k l2 (decide ((bt244.2.1.length : Int) > 0))) else (terrlaw5_DeltaTells.j0 k l2 true))) else (terrlaw5_DeltaTells.j0 k l2 true)))) else (some false)))) = some r := H
    have A9 := Aside0.mk A90
    clear A90
    obtain ⟨y237, hy237⟩ : ∃ y_ : List (List Int), y_ = (([l1, t234] : List (List Int))) := ⟨_, rfl⟩
    replace H : ((slices_Concat_byte_byte.f k y237).bind fun t240 => ((slices_Equal_byte_byte.f k t228 t240).bind fun t243 => (if t243 = true then ((delta_Take.f k l1).bind fun bt244 => ((terrref5_Number.f k l1).bind fun bt249 => (if bt244.2.2 = bt249.2.2 then (if bt249.2.2 = 0 then (if bt244.1 = bt249.1 then ((slices_Equal_byte_byte.f k bt244.2.1 bt249.2.1).bind fun t254 => (if t254 = true then (terrlaw5_DeltaTells.j0 k l2 false) else (terrlaw5_DeltaTells.j0 k l2 true))) else (terrlaw5_DeltaTells.j0 k l2 true)) else (if bt244.1 = 0 then (terrlaw5_DeltaTells.j0 k l2 (decide ((bt244.2.1.length : Int) > 0))) else (terrlaw5_DeltaTells.j0 k l2 true))) else (terrlaw5_DeltaTells.j0 k l2 true)))) else (some false)))) = some r := by first | (rw [hy237]; with_reducible exact H) | (have H2_ := (Option.bind_some _ _).symm.trans H; rw [hy237]; with_reducible exact H2_) | (have H2_ := (Option.bind_some _ _).symm.trans H; with_reducible exact H2_) | with_reducible exact H | (rw [hy237]; exact H) | exact H
    have Ny237 := Aside0.mk hy237
    clear hy237
    replace H := Option.bind_eq_some_iff.mp H
    obtain ⟨t240, A100, H⟩ := H
    replace H : ((slices_Equal_byte_byte.f k t228 t240).bind fun t243 => (if t243 = true then ((delta_Take.f k l1).bind fun bt244 => ((terrref5_Number.f k l1).bind fun bt249 => (if bt244.2.2 = bt249.2.2 then (if bt249.2.2 = 0 then (if bt244.1 = bt249.1 then ((slices_Equal_byte_byte.f k bt244.2.1 bt249.2.1).bind fun t254 => (if t254 = true then (terrlaw5_DeltaTells.j0 k l2 false) else (terrlaw5_DeltaTells.j0 k l2 true))) else (terrlaw5_DeltaTells.j0 k l2 true)) else (if bt244.1 = 0 then (terrlaw5_DeltaTells.j0 k l2 (decide ((bt244.2.1.length : Int) > 0))) else (terrlaw5_DeltaTells.j0 k l2 true))) else (terrlaw5_DeltaTells.j0 k l2 true)))) else (some false))) = some r := H
    have A10 := Aside0.mk A100
    clear A100
    replace H := Option.bind_eq_some_iff.mp H
    obtain ⟨t243, A110, H⟩ := H
    replace H : (if t243 = true then ((delta_Take.f k l1).bind fun bt244 => ((terrref5_Number.f k l1).bind fun bt249 => (if bt244.2.2 = bt249.2.2 then (if bt249.2.2 = 0 then (if bt244.1 = bt249.1 then ((slices_Equal_byte_byte.f k bt244.2.1 bt249.2.1).bind fun t254 => (if t254 = true then (terrlaw5_DeltaTells.j0 k l2 false) else (terrlaw5_DeltaTells.j0 k l2 true))) else (terrlaw5_DeltaTells.j0 k l2 true)) else (if bt244.1 = 0 then (terrlaw5_DeltaTells.j0 k l2 (decide ((bt244.2.1.length : Int) > 0))) else (terrlaw5_DeltaTells.j0 k l2 true))) else (terrlaw5_DeltaTells.j0 k l2 true)))) else (some false)) = some r := H
    have A11 := Aside0.mk A110
    clear A110
    by_cases c12 : t243 = true
    · subst c12
      have H1 : ((delta_Take.f k l1).bind fun bt244 => ((terrref5_Number.f k l1).bind fun bt249 => (if bt244.2.2 = bt249.2.2 then (if bt249.2.2 = 0 then (if bt244.1 = bt249.1 then ((slices_Equal_byte_byte.f k bt244.2.1 bt249.2.1).bind fun t254 => (if t254 = true then (terrlaw5_DeltaTells.j0 k l2 false) else (terrlaw5_DeltaTells.j0 k l2 true))) else (terrlaw5_DeltaTells.j0 k l2 true)) else (if bt244.1 = 0 then (terrlaw5_DeltaTells.j0 k l2 (decide ((bt244.2.1.length : Int) > 0))) else (terrlaw5_DeltaTells.j0 k l2 true))) else (terrlaw5_DeltaTells.j0 k l2 true)))) = some r := by rw [if_pos rfl] at H; exact H
      clear H
      have H := H1
      clear H1
      replace H := Option.bind_eq_some_iff.mp H
      obtain ⟨⟨t244, t245, t246⟩, A130, H⟩ := H
      replace H : ((terrref5_Number.f k l1).bind fun bt249 => (if t246 = bt249.2.2 then (if bt249.2.2 = 0 then (if t244 = bt249.1 then ((slices_Equal_byte_byte.f k t245 bt249.2.1).bind fun t254 => (if t254 = true then (terrlaw5_DeltaTells.j0 k l2 false) else (terrlaw5_DeltaTells.j0 k l2 true))) else (terrlaw5_DeltaTells.j0 k l2 true)) else (if t244 = 0 then (terrlaw5_DeltaTells.j0 k l2 (decide ((t245.length : Int) > 0))) else (terrlaw5_DeltaTells.j0 k l2 true))) else (terrlaw5_DeltaTells.j0 k l2 true))) = some r := H
      have A13 := Aside0.mk A130
      clear A130
      replace H := Option.bind_eq_some_iff.mp H
      obtain ⟨⟨t249, t250, t251⟩, A140, H⟩ := H
      replace H : (if t246 = t251 then (if t251 = 0 then (if t244 = t249 then ((slices_Equal_byte_byte.f k t245 t250).bind fun t254 => (if t254 = true then (terrlaw5_DeltaTells.j0 k l2 false) else (terrlaw5_DeltaTells.j0 k l2 true))) else (terrlaw5_DeltaTells.j0 k l2 true)) else (if t244 = 0 then (terrlaw5_DeltaTells.j0 k l2 (decide ((t245.length : Int) > 0))) else (terrlaw5_DeltaTells.j0 k l2 true))) else (terrlaw5_DeltaTells.j0 k l2 true)) = some r := H
      have A14 := Aside0.mk A140
      clear A140
      have HC15 := Aside0.mk H
      clear H
      go_enter Try.func4, Try.ntmps4
      go_upto_region 7 with (first | ((with_reducible refine gate_callee (f := 15) rfl ?_); refine goesL_ (some 18) rfl rfl Try.func15 (by kernel_rfl) rfl #[.slice none 0 0, .int .i64 (-65)] rfl (by (try simp only [List.map_toArray, List.map_cons, List.map_nil]); first | done | rfl | (simp only [List.length_drop, List.length_take]; rfl)) ?_; (refine (delta_Num.calls k _ _ ([] : List Int) (-65) t221 _ ?side1 ?side2 A4.out).mono ?_); (case side1 => exact Kd.C_nil _ _); (case side2 => exact Nat.le_refl _); rintro e w16 ⟨v222, rfl, ho0, hb⟩; refine ⟨_, rfl, ?_⟩; have nb_ := Aside0.mk (below_step (by repeat (first | (with_reducible first | exact HB.out | apply below_alloc | apply pw_below_drewN | apply below_drew1) | exact HB.out)) hb); clear HB; have HB := nb_; clear nb_; have HO223 := Aside0.mk ho0; clear hb ho0) | ((with_reducible refine gate_dst (N := 19) rfl ?_); (try (refine gate_guard (by rfl) ?_; dsimp only)); refine Kd.R_lit (Kd.int .u8) _ 5 ?hg (N := 19) ?hd (xs := ([129, 1] : List Int)) (inner := [.int .u8 129, .int .u8 1]) (ok := fun _ => True) (okp := fun _ => True) ?hr ?hp (fun _ hk => hk) trivial (Below.refl _ _) (Nat.le_refl _) (by simp) ?_; (case hd => rfl); (case hg => rfl); (case hr => first | (go_simp; done) | (go_simp; rfl)); (case hp => exact (Reps.one (show Kd.M (Kd.int .u8) _ _ _ 129 [.int .u8 129] from rfl) (Reps.one (show Kd.M (Kd.int .u8) _ _ _ 1 [.int .u8 1] from rfl) (Reps.none _ _)))); intro v225 w17 ho18 hb hg_ hnew_; clear hg_ hnew_; (first | rw [← Ny224.out] at ho18 | (simp only [Int.reduceToNat] at ho18; rw [← Ny224.out] at ho18)); have n0_ := Aside0.mk (Kd.R_below (by (with_reducible repeat (first | apply Kd.R_alloc | apply Kd.R_drewN | apply Kd.R_drew)); exact HO223.out) hb); clear HO223; have HO223 := n0_; clear n0_; have HO226 := Aside0.mk ho18; have nb_ := Aside0.mk (below_step (by repeat (first | (with_reducible first | exact HB.out | apply below_alloc | apply pw_below_drewN | apply below_drew1) | exact HB.out)) hb); clear HB; have HB := nb_; clear nb_; clear hb ho18; obtain ⟨Ao19, co19, eo19⟩ := Kd.R_slice HO223.out; subst eo19; obtain ⟨Ao20, co20, eo20⟩ := Kd.R_slice HO226.out; subst eo20) | ((with_reducible refine gate_callee (f := 14) rfl ?_); refine goesL_ (some 20) rfl rfl Try.func14 (by kernel_rfl) rfl #[.slice Ao19 t221.length co19, .slice Ao20 y224.length co20] rfl (by (try simp only [List.map_toArray, List.map_cons, List.map_nil]); first | done | rfl | (simp only [List.length_drop, List.length_take]; rfl)) ?_; (with_reducible refine (slices_Equal_byte_byte.calls k _ _ t221 _ _ y224 true _ ?side1 ?side2 ?side3 ?side4 A5.out).mono ?_); (case side1 => repeat (first | exact (Kd.R_reads' HO223.out).2.2 | (with_reducible refine Kd.C_alloc ?_ _) | (with_reducible refine Kd.C_drewN ?_ _) | (with_reducible refine Kd.C_drew ?_))); (case side2 => exact (Kd.R_reads' HO223.out).2.1); (case side3 => repeat (first | exact (Kd.R_reads' HO226.out).2.2 | (with_reducible refine Kd.C_alloc ?_ _) | (with_reducible refine Kd.C_drewN ?_ _) | (with_reducible refine Kd.C_drew ?_))); (case side4 => exact (Kd.R_reads' HO226.out).2.1); rintro e w' ⟨rfl, ⟨nd, rfl⟩⟩; refine ⟨_, rfl, ?_⟩) | ((with_reducible refine gate_callee (f := 15) rfl ?_); refine goesL_ (some 24) rfl rfl Try.func15 (by kernel_rfl) rfl #[.slice A1 l1.length c1, .int .i64 a0] rfl (by (try simp only [List.map_toArray, List.map_cons, List.map_nil]); first | done | rfl | (simp only [List.length_drop, List.length_take]; rfl)) ?_; (refine (delta_Num.calls k _ _ l1 a0 t228 _ (Kd.C_below HR1.out (by repeat (first | (with_reducible first | exact HB.out | apply below_alloc | apply pw_below_drewN | apply below_drew1) | exact HB.out))) HC1.out A7.out).mono ?_); rintro e w21 ⟨v229, rfl, ho0, hb⟩; refine ⟨_, rfl, ?_⟩; clear HO223 HO226; have nb_ := Aside0.mk (below_step (by repeat (first | (with_reducible first | exact HB.out | apply below_alloc | apply pw_below_drewN | apply below_drew1) | exact HB.out)) hb); clear HB; have HB := nb_; clear nb_; have HO230 := Aside0.mk ho0; clear hb ho0) | ((with_reducible refine gate_callee (f := 17) rfl ?_); refine goesL_ (some 27) rfl rfl Try.func17 (by kernel_rfl) rfl #[.int .i64 a0] rfl (by (try simp only [List.map_toArray, List.map_cons, List.map_nil]); first | done | rfl | (simp only [List.length_drop, List.length_take]; rfl)) ?_; (with_reducible refine (terrref5_Digits.calls k a0 t234 _ A9.out).mono ?_); rintro e w23 ⟨v235, rfl, ho0, hb⟩; refine ⟨_, rfl, ?_⟩; have n0_ := Aside0.mk (Kd.R_below (by (with_reducible repeat (first | apply Kd.R_alloc | apply Kd.R_drewN | apply Kd.R_drew)); exact HO230.out) hb); clear HO230; have HO230 := n0_; clear n0_; have nb_ := Aside0.mk (below_step (by repeat (first | (with_reducible first | exact HB.out | apply below_alloc | apply pw_below_drewN | apply below_drew1) | exact HB.out)) hb); clear HB; have HB := nb_; clear nb_; have HO236 := Aside0.mk ho0; clear hb ho0; obtain ⟨Ao25, co25, eo25⟩ := Kd.R_slice HO236.out; subst eo25) | ((with_reducible refine gate_dst (N := 28) rfl ?_); (try (refine gate_guard (by rfl) ?_; dsimp only)); refine C_lit2 ?hg (N := 28) ?hd (A1 := A1) (c1 := c1) (l1 := l1) (A2 := Ao25) (c2 := co25) (l2 := t234) ?hr (Kd.C_below HR1.out (by repeat (first | (with_reducible first | exact HB.out | apply below_alloc | apply pw_below_drewN | apply below_drew1) | exact HB.out))) HC1.out ?h2 (Kd.R_reads' HO236.out).2.1 ?_; (case hd => rfl); (case hg => rfl); (case hr => first | (go_simp; done) | (go_simp; rfl)); (case h2 => repeat (first | exact (Kd.R_reads' HO236.out).2.2 | (with_reducible refine Kd.C_alloc ?_ _) | (with_reducible refine Kd.C_drewN ?_ _) | (with_reducible refine Kd.C_drew ?_))); intro gC wC hC hb; have n0_ := Aside0.mk (Kd.R_below (by (with_reducible repeat (first | apply Kd.R_alloc | apply Kd.R_drewN | apply Kd.R_drew)); exact HO230.out) hb); clear HO230 HO236; have HO230 := n0_; clear n0_; have nb_ := Aside0.mk (below_step (by repeat (first | (with_reducible first | exact HB.out | apply below_alloc | apply pw_below_drewN | apply below_drew1) | exact HB.out)) hb); clear HB; have HB := nb_; clear nb_; have HCC := Aside0.mk hC; clear hb hC) | ((with_reducible refine gate_callee (f := 16) rfl ?_); refine goesL_ (some 29) rfl rfl Try.func16 (by kernel_rfl) rfl #[.slice (some ⟨gC, 0, none⟩) 2 2] rfl (by (try simp only [List.map_toArray, List.map_cons, List.map_nil]); first | done | rfl | (simp only [List.length_drop, List.length_take]; rfl)) ?_; (refine (slices_Concat_byte_byte.calls k _ _ [l1, t234] t240 _ HCC.out (Nat.le_refl 2) (by rw [← Ny237.out]; exact A10.out)).mono ?_); rintro e w29 ⟨v241, rfl, ho0, hb⟩; refine ⟨_, rfl, ?_⟩; have n0_ := Aside0.mk (Kd.R_below (by (with_reducible repeat (first | apply Kd.R_alloc | apply Kd.R_drewN | apply Kd.R_drew)); exact HO230.out) hb); clear HO230 HCC; have HO230 := n0_; clear n0_; have nb_ := Aside0.mk (below_step (by repeat (first | (with_reducible first | exact HB.out | apply below_alloc | apply pw_below_drewN | apply below_drew1) | exact HB.out)) hb); clear HB; have HB := nb_; clear nb_; have HO242 := Aside0.mk ho0; clear hb ho0; obtain ⟨Ao30, co30, eo30⟩ := Kd.R_slice HO230.out; subst eo30; obtain ⟨Ao31, co31, eo31⟩ := Kd.R_slice HO242.out; subst eo31) | ((with_reducible refine gate_callee (f := 14) rfl ?_); refine goesL_ (some 30) rfl rfl Try.func14 (by kernel_rfl) rfl #[.slice Ao30 t228.length co30, .slice Ao31 t240.length co31] rfl (by (try simp only [List.map_toArray, List.map_cons, List.map_nil]); first | done | rfl | (simp only [List.length_drop, List.length_take]; rfl)) ?_; (with_reducible refine (slices_Equal_byte_byte.calls k _ _ t228 _ _ t240 true _ ?side1 ?side2 ?side3 ?side4 A11.out).mono ?_); (case side1 => repeat (first | exact (Kd.R_reads' HO230.out).2.2 | (with_reducible refine Kd.C_alloc ?_ _) | (with_reducible refine Kd.C_drewN ?_ _) | (with_reducible refine Kd.C_drew ?_))); (case side2 => exact (Kd.R_reads' HO230.out).2.1); (case side3 => repeat (first | exact (Kd.R_reads' HO242.out).2.2 | (with_reducible refine Kd.C_alloc ?_ _) | (with_reducible refine Kd.C_drewN ?_ _) | (with_reducible refine Kd.C_drew ?_))); (case side4 => exact (Kd.R_reads' HO242.out).2.1); rintro e w' ⟨rfl, ⟨nd, rfl⟩⟩; refine ⟨_, rfl, ?_⟩) | ((with_reducible refine gate_callee (f := 18) rfl ?_); refine goesL_ (some 34) rfl rfl Try.func18 (by kernel_rfl) rfl #[.slice A1 l1.length c1] rfl (by (try simp only [List.map_toArray, List.map_cons, List.map_nil]); first | done | rfl | (simp only [List.length_drop, List.length_take]; rfl)) ?_; (refine (delta_Take.calls k _ _ l1 t244 t245 t246 _ (Kd.C_below HR1.out (by repeat (first | (with_reducible first | exact HB.out | apply below_alloc | apply pw_below_drewN | apply below_drew1) | exact HB.out))) HC1.out A13.out).mono ?_); rintro e w32 ⟨v247, rfl, ho0, hb⟩; refine ⟨_, rfl, ?_⟩; clear HO230 HO242; have nb_ := Aside0.mk (below_step (by repeat (first | (with_reducible first | exact HB.out | apply below_alloc | apply pw_below_drewN | apply below_drew1) | exact HB.out)) hb); clear HB; have HB := nb_; clear nb_; have HO248 := Aside0.mk ho0; clear hb ho0) | ((with_reducible refine gate_callee (f := 19) rfl ?_); refine goesL_ (some 40) rfl rfl Try.func19 (by kernel_rfl) rfl #[.slice A1 l1.length c1] rfl (by (try simp only [List.map_toArray, List.map_cons, List.map_nil]); first | done | rfl | (simp only [List.length_drop, List.length_take]; rfl)) ?_; (refine (terrref5_Number.calls k _ _ l1 t249 t250 t251 _ (Kd.C_below HR1.out (by repeat (first | (with_reducible first | exact HB.out | apply below_alloc | apply pw_below_drewN | apply below_drew1) | exact HB.out))) HC1.out A14.out).mono ?_); rintro e w33 ⟨A253, c253, rfl, hc253, hC253, hb⟩; refine ⟨_, rfl, ?_⟩; have n0_ := Aside0.mk (Kd.R_below (by (with_reducible repeat (first | apply Kd.R_alloc | apply Kd.R_drewN | apply Kd.R_drew)); exact HO248.out) hb); clear HO248; have HO248 := n0_; clear n0_; have HR253 := Aside0.mk (Kd.C_below hC253 hb); have HC253 := Aside0.mk hc253; have nb_ := Aside0.mk (below_step (by repeat (first | (with_reducible first | exact HB.out | apply below_alloc | apply pw_below_drewN | apply below_drew1) | exact HB.out)) hb); clear HB; have HB := nb_; clear nb_; clear hb hc253 hC253))
      (try simp only [Act.put, List.setIfInBounds_toArray, List.set_cons_zero, List.set_cons_succ])
      go_cut [74] (fun v74 wc => ∃ (kq : Nat) (x74_14 : Bool), v74 = .bool x74_14 ∧ Aside0 (terrlaw5_DeltaTells.j0 kq l2 x74_14 = some r) ∧ Aside0 (kq ≤ k) ∧ Aside0 (Below w.heap.size w wc))
      case first =>
        have H := HC15.out
        clear HC15
        by_cases c34 : t246 = t251
        · rw [if_pos c34] at H
          have c34b0 : (t246 == t251) = true := beq_iff_eq.mpr c34
          have c34b1 : (t246 != t251) = false := bne_eq_false_iff_eq.mpr c34
          clear c34
          (first | rw [c34b0] | (simp only [i64_w, i32_w]; rw [c34b0]) | skip)
          by_cases c35 : t251 = 0
          · rw [if_pos c35] at H
            have c35b0 : (t251 == 0) = true := beq_iff_eq.mpr c35
            have c35b1 : (t251 != 0) = false := bne_eq_false_iff_eq.mpr c35
            clear c35
            by_cases c36 : t244 = t249
            · rw [if_pos c36] at H
              have c36b0 : (t244 == t249) = true := beq_iff_eq.mpr c36
              have c36b1 : (t244 != t249) = false := bne_eq_false_iff_eq.mpr c36
              clear c36
              replace H := Option.bind_eq_some_iff.mp H
              obtain ⟨t254, A370, H⟩ := H
              replace H : (if t254 = true then (terrlaw5_DeltaTells.j0 k l2 false) else (terrlaw5_DeltaTells.j0 k l2 true)) = some r := H
              have A37 := Aside0.mk A370
              clear A370
              by_cases c38 : t254 = true
              · subst c38
                have H1 : (terrlaw5_DeltaTells.j0 k l2 false) = some r := by rw [if_pos rfl] at H; exact H
                clear H
                have H := H1
                clear H1
                have H' := Aside0.mk H
                clear H
                obtain ⟨Ao39, co39, eo39⟩ := Kd.R_slice HO248.out
                subst eo39
                go_wp2_with (first | (go_at_call 14; (with_reducible refine (slices_Equal_byte_byte.calls k _ _ t245 _ _ t250 true _ ?side1 ?side2 ?side3 ?side4 A37.out).mono ?_); (case side1 => repeat (first | exact (Kd.R_reads' HO248.out).2.2 | (with_reducible refine Kd.C_alloc ?_ _) | (with_reducible refine Kd.C_drewN ?_ _) | (with_reducible refine Kd.C_drew ?_))); (case side2 => exact (Kd.R_reads' HO248.out).2.1); (case side3 => repeat (first | exact HR253.out | (with_reducible refine Kd.C_alloc ?_ _) | (with_reducible refine Kd.C_drewN ?_ _) | (with_reducible refine Kd.C_drew ?_))); (case side4 => exact HC253.out); rintro e w' ⟨rfl, ⟨nd, rfl⟩⟩))
                go_meet
                case rel => exact ⟨_, (false), (by first | rfl | (simp; done) | (simp [*]; done)), H', ⟨by first | omega | exact Nat.le_refl _⟩, ⟨by repeat (first | (with_reducible first | exact HB.out | apply below_alloc | apply pw_below_drewN | apply below_drew1) | exact HB.out)⟩⟩
              · replace c38 := Bool.eq_false_iff.mpr c38
                subst c38
                have H1 : (terrlaw5_DeltaTells.j0 k l2 true) = some r := by rw [if_neg (show ¬ (false = true) by decide)] at H; exact H
                clear H
                have H := H1
                clear H1
                have H' := Aside0.mk H
                clear H
                obtain ⟨Ao41, co41, eo41⟩ := Kd.R_slice HO248.out
                subst eo41
                go_wp2_with (first | (go_at_call 14; (with_reducible refine (slices_Equal_byte_byte.calls k _ _ t245 _ _ t250 false _ ?side1 ?side2 ?side3 ?side4 A37.out).mono ?_); (case side1 => repeat (first | exact (Kd.R_reads' HO248.out).2.2 | (with_reducible refine Kd.C_alloc ?_ _) | (with_reducible refine Kd.C_drewN ?_ _) | (with_reducible refine Kd.C_drew ?_))); (case side2 => exact (Kd.R_reads' HO248.out).2.1); (case side3 => repeat (first | exact HR253.out | (with_reducible refine Kd.C_alloc ?_ _) | (with_reducible refine Kd.C_drewN ?_ _) | (with_reducible refine Kd.C_drew ?_))); (case side4 => exact HC253.out); rintro e w' ⟨rfl, ⟨nd, rfl⟩⟩))
                go_meet
                case rel => exact ⟨_, (true), (by first | rfl | (simp; done) | (simp [*]; done)), H', ⟨by first | omega | exact Nat.le_refl _⟩, ⟨by repeat (first | (with_reducible first | exact HB.out | apply below_alloc | apply pw_below_drewN | apply below_drew1) | exact HB.out)⟩⟩
            · rw [if_neg c36] at H
              have c36b0 : (t244 == t249) = false := beq_eq_false_iff_ne.mpr c36
              have c36b1 : (t244 != t249) = true := bne_iff_ne.mpr c36
              have H' := Aside0.mk H
              clear H
              go_wp2
              go_meet
              case rel => exact ⟨_, (true), (by first | rfl | (simp; done) | (simp [*]; done)), H', ⟨by first | omega | exact Nat.le_refl _⟩, ⟨by repeat (first | (with_reducible first | exact HB.out | apply below_alloc | apply pw_below_drewN | apply below_drew1) | exact HB.out)⟩⟩
          · rw [if_neg c35] at H
            have c35b0 : (t251 == 0) = false := beq_eq_false_iff_ne.mpr c35
            have c35b1 : (t251 != 0) = true := bne_iff_ne.mpr c35
            by_cases c43 : t244 = 0
            · rw [if_pos c43] at H
              have c43b0 : (t244 == 0) = true := beq_iff_eq.mpr c43
              have c43b1 : (t244 != 0) = false := bne_eq_false_iff_eq.mpr c43
              clear c43
              have H' := Aside0.mk H
              clear H
              obtain ⟨Ao44, co44, eo44⟩ := Kd.R_slice HO248.out
              subst eo44
              go_wp2
              go_meet
              case rel => exact ⟨_, (decide ((t245.length : Int) > 0)), (by first | rfl | (simp; done) | (simp [*]; done)), H', ⟨by first | omega | exact Nat.le_refl _⟩, ⟨by repeat (first | (with_reducible first | exact HB.out | apply below_alloc | apply pw_below_drewN | apply below_drew1) | exact HB.out)⟩⟩
            · rw [if_neg c43] at H
              have c43b0 : (t244 == 0) = false := beq_eq_false_iff_ne.mpr c43
              have c43b1 : (t244 != 0) = true := bne_iff_ne.mpr c43
              have H' := Aside0.mk H
              clear H
              go_wp2
              go_meet
              case rel => exact ⟨_, (true), (by first | rfl | (simp; done) | (simp [*]; done)), H', ⟨by first | omega | exact Nat.le_refl _⟩, ⟨by repeat (first | (with_reducible first | exact HB.out | apply below_alloc | apply pw_below_drewN | apply below_drew1) | exact HB.out)⟩⟩
        · rw [if_neg c34] at H
          have c34b0 : (t246 == t251) = false := beq_eq_false_iff_ne.mpr c34
          have c34b1 : (t246 != t251) = true := bne_iff_ne.mpr c34
          (first | rw [c34b0] | (simp only [i64_w, i32_w]; rw [c34b0]) | skip)
          have H' := Aside0.mk H
          clear H
          go_wp2
          go_meet
          case rel => exact ⟨_, (true), (by first | rfl | (simp; done) | (simp [*]; done)), H', ⟨by first | omega | exact Nat.le_refl _⟩, ⟨by repeat (first | (with_reducible first | exact HB.out | apply below_alloc | apply pw_below_drewN | apply below_drew1) | exact HB.out)⟩⟩
      case rest =>
        clear HC15
        try clear c1
        try clear c2
        try clear p2
        try clear c3
        try clear c4
        try clear c6
        try clear c12
        try clear c14
        try clear c15
        try clear c16
        try clear c17
        try clear c18
        try clear c19
        try clear c34
        try clear c34b0
        try clear c34b1
        try clear c35
        try clear c35b0
        try clear c35b1
        try clear c36
        try clear c36b0
        try clear c36b1
        try clear c38
        try clear c40
        try clear c43
        try clear c43b0
        try clear c43b1
        obtain ⟨kq, x74_14, rfl, HA, HJ14, HB⟩ := hcut
        cases kq with
        | zero => exact absurd HA.out (by simp [terrlaw5_DeltaTells.j0])
        | succ kj14 =>
          have H := HA.out
          clear HA
          simp only [terrlaw5_DeltaTells.j0] at H
          by_cases c45 : x74_14 = true
          · subst c45
            have H1 : (some false) = some r := by rw [if_pos rfl] at H; exact H
            clear H
            have H := H1
            clear H1
            exact absurd (H.trans (congrArg some hr)) (by decide)
          · replace c45 := Bool.eq_false_iff.mpr c45
            subst c45
            have H1 : (terrlaw5_DeltaTells.l0 kj14 l2 0 l2 (l2.length : Int) 0) = some r := by rw [if_neg (show ¬ (false = true) by decide)] at H; exact H
            clear H
            have H := H1
            clear H1
            have H' := Aside0.mk H
            clear H
            go_wp2
            go_loopg [13, 77] kj14 (fun kq v13 v77 w' => ∃ (x13_2 : Int) (x77_2 : Int), v13 = .int .i64 x13_2 ∧ v77 = .int .i64 x77_2 ∧ Aside0 (terrlaw5_DeltaTells.l0 kq l2 x13_2 l2 (l2.length : Int) x77_2 = some r) ∧ Aside0 (kq ≤ kj14) ∧ Aside0 (Below w.heap.size w w'))
            case atStart => exact ⟨(0), (0), (by first | rfl | (simp; done) | (simp [*]; done)), (by first | rfl | (simp; done) | (simp [*]; done)), H', ⟨Nat.le_refl _⟩, ⟨by repeat (first | (with_reducible first | exact HB.out | apply below_alloc | apply pw_below_drewN | apply below_drew1) | exact HB.out)⟩⟩
            case round =>
              clear H'
              try clear c1
              try clear c2
              try clear p2
              try clear c3
              try clear c4
              try clear c6
              try clear c12
              try clear c14
              try clear c15
              try clear c16
              try clear c17
              try clear c18
              try clear c19
              try clear c34
              try clear c34b0
              try clear c34b1
              try clear c35
              try clear c35b0
              try clear c35b1
              try clear c36
              try clear c36b0
              try clear c36b1
              try clear c38
              try clear c40
              try clear c43
              try clear c43b0
              try clear c43b1
              try clear c45
              try clear p2
              obtain ⟨x13_2, x77_2, rfl, rfl, HA, HK2, HB⟩ := hrel
              cases gk with
              | zero => exact absurd HA.out (by simp [terrlaw5_DeltaTells.l0])
              | succ k2 =>
                have H := HA.out
                clear HA
                simp only [terrlaw5_DeltaTells.l0] at H
                by_cases c46 : x77_2 < (l2.length : Int)
                · rw [if_pos c46] at H
                  have c46b0 : decide (x77_2 < (l2.length : Int)) = true := decide_eq_true c46
                  clear c46
                  by_cases c47 : 0 ≤ x77_2
                  · rw [if_pos c47] at H
                    have c47b0 : decide (0 ≤ x77_2) = true := decide_eq_true c47
                    clear c47
                    by_cases c48 : x77_2 < (l2.length : Int)
                    · rw [if_pos c48] at H
                      have c48b0 : decide (x77_2 < (l2.length : Int)) = true := decide_eq_true c48
                      clear c48
                      have H' := Aside0.mk H
                      clear H
                      have p255 : 0 ≤ (x77_2 : Int) := of_decide_eq_true (by first | (with_reducible assumption) | assumption)
                      have q255 : x77_2 < (l2.length : Int) := of_decide_eq_true (by first | (with_reducible assumption) | assumption)
                      obtain ⟨ad255, A255_0, c255_0, e255, hx255_0, hl255_0, hi255_0⟩ := at_L4 HR2.out x77_2 p255 q255
                      cases e255
                      replace hx255_0 := (HB.out.cell (World.block_lt_of_cell? w _ hx255_0)).trans hx255_0
                      have HR255_0 := Aside0.mk hi255_0
                      have HC255_0 := Aside0.mk hl255_0
                      clear hi255_0 hl255_0
                      replace p255 := eq_true p255
                      replace q255 := eq_true q255
                      go_wp2
                      go_roundg k2
                      case measure => have := HJ14.out; have := HK2.out; omega
                      case rel => exact ⟨(wrap64 (x13_2 + ((rd_L4 l2 x77_2).length : Int))), (wrap64 (x77_2 + 1)), (by first | rfl | (simp; done) | (simp [*]; done)), (by first | rfl | (simp; done) | (simp [*]; done)), H', ⟨by have := HJ14.out; have := HK2.out; omega⟩, ⟨by repeat (first | (with_reducible first | exact HB.out | apply below_alloc | apply pw_below_drewN | apply below_drew1) | exact HB.out)⟩⟩
                    · rw [if_neg c48] at H
                      exact absurd H (by simp)
                  · rw [if_neg c47] at H
                    exact absurd H (by simp)
                · rw [if_neg c46] at H
                  have c46b0 : decide (x77_2 < (l2.length : Int)) = false := decide_eq_false c46
                  clear c46
                  replace H := Option.bind_eq_some_iff.mp H
                  obtain ⟨⟨t256, t257⟩, A490, H⟩ := H
                  replace H : (if (l2.length : Int) > 1000 then (terrlaw5_DeltaTells.j2 k2 l2 t256 t257 true) else (terrlaw5_DeltaTells.j2 k2 l2 t256 t257 (decide (x13_2 > 20000)))) = some r := H
                  have A49 := Aside0.mk A490
                  clear A490
                  have HC50 := Aside0.mk H
                  clear H
                  go_upto_region 16 with (first | ((with_reducible refine gate_callee (f := 20) rfl ?_); refine goesL_ (some 88) rfl rfl Try.func20 (by kernel_rfl) rfl #[.slice A2 l2.length c2] rfl (by (try simp only [List.map_toArray, List.map_cons, List.map_nil]); first | done | rfl | (simp only [List.length_drop, List.length_take]; rfl)) ?_; (with_reducible refine (delta_Write.calls k2 _ _ l2 t256 t257 _ ?side1 ?side2 A49.out).mono ?_); (case side1 => repeat (first | exact (Kd.C_below HR2.out HB.out) | (with_reducible refine Kd.C_alloc ?_ _) | (with_reducible refine Kd.C_drewN ?_ _) | (with_reducible refine Kd.C_drew ?_))); (case side2 => exact HC2.out); rintro e w51 ⟨v258, rfl, ho0, hb⟩; refine ⟨_, rfl, ?_⟩; have n0_ := Aside0.mk (Kd.R_lower ho0 (below_size (by repeat (first | (with_reducible first | exact HB.out | apply below_alloc | apply pw_below_drewN | apply below_drew1) | exact HB.out)))); have n1_ := Aside0.mk (below_step (by repeat (first | (with_reducible first | exact HB.out | apply below_alloc | apply pw_below_drewN | apply below_drew1) | exact HB.out)) hb); clear HB; have HO259 := n0_; have HB := n1_; clear n0_ n1_; (try clear hb); (try clear hb2); (try clear hk); (try clear hi); (try clear ho0)))
                  (try simp only [Act.put, List.setIfInBounds_toArray, List.set_cons_zero, List.set_cons_succ])
                  go_cut [97] (fun v97 wc => ∃ (kq : Nat) (x97_49 : Bool), v97 = .bool x97_49 ∧ Aside0 (terrlaw5_DeltaTells.j2 kq l2 t256 t257 x97_49 = some r) ∧ Aside0 (kq ≤ k2) ∧ Aside0 (Kd.R (Kd.int .u8) 5 wc w.heap.size (fun _ => True) v258 t256) ∧ Aside0 (Below w.heap.size w wc))
                  case first =>
                    have H := HC50.out
                    clear HC50
                    by_cases c52 : (l2.length : Int) > 1000
                    · rw [if_pos c52] at H
                      have c52b0 : decide (1000 < (l2.length : Int)) = true := decide_eq_true c52
                      have c52b1 : decide (1000 < l2.length) = true := decide_eq_true (by omega)
                      clear c52
                      (first | rw [c52b0] | (simp only [i64_w, i32_w]; rw [c52b0]) | skip)
                      have H' := Aside0.mk H
                      clear H
                      go_wp2
                      go_meet
                      case rel => exact ⟨_, (true), (by first | rfl | (simp; done) | (simp [*]; done)), H', ⟨by have := HJ14.out; have := HK2.out; first | omega | exact Nat.le_refl _⟩, ⟨by (with_reducible repeat (first | apply Kd.R_alloc | apply Kd.R_drewN | apply Kd.R_drew)); exact HO259.out⟩, ⟨by repeat (first | (with_reducible first | exact HB.out | apply below_alloc | apply pw_below_drewN | apply below_drew1) | exact HB.out)⟩⟩
                    · rw [if_neg c52] at H
                      have c52b0 : decide (1000 < (l2.length : Int)) = false := decide_eq_false c52
                      have c52b1 : decide (1000 < l2.length) = false := decide_eq_false (by omega)
                      clear c52
                      (first | rw [c52b0] | (simp only [i64_w, i32_w]; rw [c52b0]) | skip)
                      have H' := Aside0.mk H
                      clear H
                      go_wp2
                      go_meet
                      case rel => exact ⟨_, (decide (x13_2 > 20000)), (by first | rfl | (simp; done) | (simp [*]; done)), H', ⟨by have := HJ14.out; have := HK2.out; first | omega | exact Nat.le_refl _⟩, ⟨by (with_reducible repeat (first | apply Kd.R_alloc | apply Kd.R_drewN | apply Kd.R_drew)); exact HO259.out⟩, ⟨by repeat (first | (with_reducible first | exact HB.out | apply below_alloc | apply pw_below_drewN | apply below_drew1) | exact HB.out)⟩⟩
                  case rest =>
                    clear HC50
                    try clear c1
                    try clear c2
                    try clear p2
                    try clear q2
                    try clear hx2
                    try clear c3
                    try clear c4
                    try clear c5
                    try clear c6
                    try clear p6
                    try clear c12
                    try clear c14
                    try clear c15
                    try clear c16
                    try clear c17
                    try clear c18
                    try clear c19
                    try clear c20
                    try clear c25
                    try clear p25
                    try clear q25
                    try clear hx25
                    try clear c34
                    try clear c34b0
                    try clear c34b1
                    try clear c35
                    try clear c35b0
                    try clear c35b1
                    try clear c36
                    try clear c36b0
                    try clear c36b1
                    try clear c38
                    try clear c40
                    try clear c43
                    try clear c43b0
                    try clear c43b1
                    try clear c45
                    try clear c46
                    try clear c46b0
                    try clear c47
                    try clear c47b0
                    try clear c48
                    try clear c48b0
                    try clear c52
                    try clear c52b0
                    try clear c52b1
                    try clear hx255_0
                    try clear p2
                    try clear p255
                    try clear q255
                    obtain ⟨kq, x97_49, rfl, HA, HJ49, HO_16, HB⟩ := hcut
                    cases kq with
                    | zero => exact absurd HA.out (by simp [terrlaw5_DeltaTells.j2])
                    | succ kj49 =>
                      have H := HA.out
                      clear HA
                      simp only [terrlaw5_DeltaTells.j2] at H
                      by_cases c53 : x97_49 = true
                      · subst c53
                        have H1 : ((delta_Check.f kj49 l2).bind fun t260 => (if t260 = 2 then (if t257 = 2 then (some ((t256.length : Int) == 0)) else (some false)) else (some false))) = some r := by rw [if_pos rfl] at H; exact H
                        clear H
                        have H := H1
                        clear H1
                        replace H := Option.bind_eq_some_iff.mp H
                        obtain ⟨t260, A540, H⟩ := H
                        replace H : (if t260 = 2 then (if t257 = 2 then (some ((t256.length : Int) == 0)) else (some false)) else (some false)) = some r := H
                        have A54 := Aside0.mk A540
                        clear A540
                        by_cases c55 : t260 = 2
                        · rw [if_pos c55] at H
                          have c55b0 : (t260 == 2) = true := beq_iff_eq.mpr c55
                          have c55b1 : (t260 != 2) = false := bne_eq_false_iff_eq.mpr c55
                          clear c55
                          by_cases c56 : t257 = 2
                          · rw [if_pos c56] at H
                            have c56b0 : (t257 == 2) = true := beq_iff_eq.mpr c56
                            have c56b1 : (t257 != 2) = false := bne_eq_false_iff_eq.mpr c56
                            clear c56
                            clear hr
                            obtain rfl := Option.some.inj H
                            go_wp2_with (first | ((with_reducible refine gate_callee (f := 21) rfl ?_); refine goesL_ (some 99) rfl rfl Try.func21 (by kernel_rfl) rfl #[.slice A2 l2.length c2] rfl (by (try simp only [List.map_toArray, List.map_cons, List.map_nil]); first | done | rfl | (simp only [List.length_drop, List.length_take]; rfl)) ?_; (with_reducible refine (delta_Check.calls kj49 _ _ l2 t260 _ ?side1 ?side2 A54.out).mono ?_); (case side1 => repeat (first | exact (Kd.C_below HR2.out HB.out) | (with_reducible refine Kd.C_alloc ?_ _) | (with_reducible refine Kd.C_drewN ?_ _) | (with_reducible refine Kd.C_drew ?_))); (case side2 => exact HC2.out); rintro e w' ⟨rfl, ⟨nd, rfl⟩⟩; refine ⟨_, rfl, ?_⟩; obtain ⟨Ao57, co57, eo57⟩ := Kd.R_slice HO_16.out; subst eo57))
                            go_ret
                            exact ⟨by first | rfl | (simp [errW_none, errW_some] <;> rfl) | (simp [*, errW_none, errW_some] <;> rfl), by repeat (first | (with_reducible first | exact HB.out | apply below_alloc | apply pw_below_drewN | apply below_drew1) | exact HB.out)⟩
                          · rw [if_neg c56] at H
                            have c56b0 : (t257 == 2) = false := beq_eq_false_iff_ne.mpr c56
                            have c56b1 : (t257 != 2) = true := bne_iff_ne.mpr c56
                            exact absurd (H.trans (congrArg some hr)) (by decide)
                        · rw [if_neg c55] at H
                          have c55b0 : (t260 == 2) = false := beq_eq_false_iff_ne.mpr c55
                          have c55b1 : (t260 != 2) = true := bne_iff_ne.mpr c55
                          exact absurd (H.trans (congrArg some hr)) (by decide)
                      · replace c53 := Bool.eq_false_iff.mpr c53
                        subst c53
                        have H1 : ((delta_Check.f kj49 l2).bind fun t261 => (if t261 = 0 then (if t257 = 0 then ((terrref5_Lists.f kj49 l2).bind fun t262 => ((slices_Equal_byte_byte.f kj49 t256 t262).bind fun t265 => (some t265))) else (some false)) else (some false))) = some r := by rw [if_neg (show ¬ (false = true) by decide)] at H; exact H
                        clear H
                        have H := H1
                        clear H1
                        replace H := Option.bind_eq_some_iff.mp H
                        obtain ⟨t261, A580, H⟩ := H
                        replace H : (if t261 = 0 then (if t257 = 0 then ((terrref5_Lists.f kj49 l2).bind fun t262 => ((slices_Equal_byte_byte.f kj49 t256 t262).bind fun t265 => (some t265))) else (some false)) else (some false)) = some r := H
                        have A58 := Aside0.mk A580
                        clear A580
                        by_cases c59 : t261 = 0
                        · rw [if_pos c59] at H
                          have c59b0 : (t261 == 0) = true := beq_iff_eq.mpr c59
                          have c59b1 : (t261 != 0) = false := bne_eq_false_iff_eq.mpr c59
                          clear c59
                          by_cases c60 : t257 = 0
                          · rw [if_pos c60] at H
                            have c60b0 : (t257 == 0) = true := beq_iff_eq.mpr c60
                            have c60b1 : (t257 != 0) = false := bne_eq_false_iff_eq.mpr c60
                            clear c60
                            replace H := Option.bind_eq_some_iff.mp H
                            obtain ⟨t262, A610, H⟩ := H
                            replace H : ((slices_Equal_byte_byte.f kj49 t256 t262).bind fun t265 => (some t265)) = some r := H
                            have A61 := Aside0.mk A610
                            clear A610
                            replace H := Option.bind_eq_some_iff.mp H
                            obtain ⟨t265, A620, H⟩ := H
                            replace H : (some t265) = some r := H
                            have A62 := Aside0.mk A620
                            clear A620
                            clear hr
                            obtain rfl := Option.some.inj H
                            go_wp2_with (first | ((with_reducible refine gate_callee (f := 21) rfl ?_); refine goesL_ (some 111) rfl rfl Try.func21 (by kernel_rfl) rfl #[.slice A2 l2.length c2] rfl (by (try simp only [List.map_toArray, List.map_cons, List.map_nil]); first | done | rfl | (simp only [List.length_drop, List.length_take]; rfl)) ?_; (with_reducible refine (delta_Check.calls kj49 _ _ l2 t261 _ ?side1 ?side2 A58.out).mono ?_); (case side1 => repeat (first | exact (Kd.C_below HR2.out HB.out) | (with_reducible refine Kd.C_alloc ?_ _) | (with_reducible refine Kd.C_drewN ?_ _) | (with_reducible refine Kd.C_drew ?_))); (case side2 => exact HC2.out); rintro e w' ⟨rfl, ⟨nd, rfl⟩⟩; refine ⟨_, rfl, ?_⟩) | (go_at_call 22; (with_reducible refine (terrref5_Lists.calls kj49 _ _ l2 t262 _ ?side1 ?side2 A61.out).mono ?_); (case side1 => repeat (first | exact (Kd.C_below HR2.out (by repeat (first | (with_reducible first | exact HB.out | apply below_alloc | apply pw_below_drewN | apply below_drew1) | exact HB.out))) | (with_reducible refine Kd.C_alloc ?_ _) | (with_reducible refine Kd.C_drewN ?_ _) | (with_reducible refine Kd.C_drew ?_))); (case side2 => exact HC2.out); rintro e w63 ⟨v263, rfl, ho0, hb⟩; have n0_ := Aside0.mk (Kd.R_elder' (by (with_reducible repeat (first | apply Kd.R_alloc | apply Kd.R_drewN | apply Kd.R_drew)); exact HO_16.out) (Kd.R_base ho0) hb); have n1_ := Aside0.mk (Kd.R_lower (Kd.R_new' ho0 (Kd.R_lt (by (with_reducible repeat (first | apply Kd.R_alloc | apply Kd.R_drewN | apply Kd.R_drew)); exact HO_16.out))) (below_size (by repeat (first | (with_reducible first | exact HB.out | apply below_alloc | apply pw_below_drewN | apply below_drew1) | exact HB.out)))); have n2_ := Aside0.mk (below_step (by repeat (first | (with_reducible first | exact HB.out | apply below_alloc | apply pw_below_drewN | apply below_drew1) | exact HB.out)) hb); clear HO_16; clear HB; have HO_16 := n0_; have HO264 := n1_; have HB := n2_; clear n0_ n1_ n2_; (try clear hb); (try clear hb2); (try clear hk); (try clear hi); (try clear ho0); obtain ⟨Ao64, co64, eo64⟩ := Kd.R_slice HO_16.out; subst eo64; obtain ⟨Ao65, co65, eo65⟩ := Kd.R_slice HO264.out; subst eo65) | (go_at_call 14; (with_reducible refine (slices_Equal_byte_byte.calls kj49 _ _ t256 _ _ t262 t265 _ ?side1 ?side2 ?side3 ?side4 A62.out).mono ?_); (case side1 => repeat (first | exact (Kd.R_reads' HO_16.out).2.2 | (with_reducible refine Kd.C_alloc ?_ _) | (with_reducible refine Kd.C_drewN ?_ _) | (with_reducible refine Kd.C_drew ?_))); (case side2 => exact (Kd.R_reads' HO_16.out).2.1); (case side3 => repeat (first | exact (Kd.R_reads' HO264.out).2.2 | (with_reducible refine Kd.C_alloc ?_ _) | (with_reducible refine Kd.C_drewN ?_ _) | (with_reducible refine Kd.C_drew ?_))); (case side4 => exact (Kd.R_reads' HO264.out).2.1); rintro e w' ⟨rfl, ⟨nd, rfl⟩⟩))
                            go_ret
                            exact ⟨by first | rfl | (simp [errW_none, errW_some] <;> rfl) | (simp [*, errW_none, errW_some] <;> rfl), by repeat (first | (with_reducible first | exact HB.out | apply below_alloc | apply pw_below_drewN | apply below_drew1) | exact HB.out)⟩
                          · rw [if_neg c60] at H
                            have c60b0 : (t257 == 0) = false := beq_eq_false_iff_ne.mpr c60
                            have c60b1 : (t257 != 0) = true := bne_iff_ne.mpr c60
                            exact absurd (H.trans (congrArg some hr)) (by decide)
                        · rw [if_neg c59] at H
                          have c59b0 : (t261 == 0) = false := beq_eq_false_iff_ne.mpr c59
                          have c59b1 : (t261 != 0) = true := bne_iff_ne.mpr c59
                          exact absurd (H.trans (congrArg some hr)) (by decide)
    · replace c12 := Bool.eq_false_iff.mpr c12
      subst c12
      have H1 : (some false) = some r := by rw [if_neg (show ¬ (false = true) by decide)] at H; exact H
      clear H
      have H := H1
      clear H1
      exact absurd (H.trans (congrArg some hr)) (by decide)
  · replace c6 := Bool.eq_false_iff.mpr c6
    subst c6
    have H1 : (some false) = some r := by rw [if_neg (show ¬ (false = true) by decide)] at H; exact H
    clear H
    have H := H1
    clear H1
    exact absurd (H.trans (congrArg some hr)) (by decide)
end Go.Proofs.Ytjgoehhhjffpmaa.Q
