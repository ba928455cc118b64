/- Plain facts on labels: Clear, the picks one after the other. Conditions: stated at each. -/
import Derived.Test.YtdmhnjpblpfbfaaUPc
import Derived.Test.YtdmhnjpblpfbfaaQf31
import Derived.Test.YtdmhnjpblpfbfaaQf32
namespace Go.Proofs.Ytdmhnjpblpfbfaa.U
open Go.RowKit Go.Proofs.Ytdmhnjpblpfbfaa.Q Go.Proofs.YtdmhnjpblpfbfaaW.PrintWords Go.Proofs.YtdmhnjpblpfbfaaW.PrintLast Go.Proofs.YtdmhnjpblpfbfaaW.PrintMore
set_option linter.unusedSimpArgs false
set_option linter.unusedVariables false
theorem equal_loop (a : List Int) (ha : a.length ≤ 1000000) : ∀ d i, i + d = a.length → slices_Equal_int_int.l0 (d + 1) a a (a.length : Int) (i : Int) = some true
  | 0, i, hi => by rw [slices_Equal_int_int.l0, if_neg (by omega)]
  | d + 1, i, hi => by
    have w : wrap64 ((i : Int) + 1) = ((i + 1 : Nat) : Int) := by rw [wrap64_eq _ (by omega) (by omega)]; omega
    rw [slices_Equal_int_int.l0, if_pos (by omega), if_pos (by omega), if_pos (by omega), if_pos (by omega), if_pos rfl, w]
    exact equal_loop a ha d (i + 1) (by omega)
theorem equal_ev (a : List Int) (ha : a.length ≤ 1000000) : Ev (fun k => slices_Equal_int_int.f k a a) true :=
  ⟨a.length + 1, by simp only; unfold slices_Equal_int_int.f; rw [if_pos rfl]; exact equal_loop a ha a.length 0 (Nat.zero_add _)⟩
/-! ### Clear -/
theorem clear_row {L : List S36} {p : List Int} (hn : p.length = L.length) (hp : p.length ≤ 9223372036854775807) {i : Nat} (hi : i < p.length) (hb : ∀ j, j ≤ i → rd p (j : Int) < (nbL L j : Int)) {r0 : Bool} (h0 : Ev (fun k => place_Clear.l0 k L p p (p.length : Int) ((i + 1 : Nat) : Int)) r0) :
    ∀ e j, j + e = i → Ev (fun k => place_Clear.l1 k L p (i : Int) (rd p (i : Int)) p (p.length : Int) (i : Int) (p.take (i : Int).toNat) ((p.take (i : Int).toNat).length : Int) (j : Int)) (rowB L p i e j && r0) := by
  have hl : (p.take (i : Int).toNat).length = i := by rw [List.length_take]; omega
  intro e
  induction e with
  | zero =>
    intro j hj
    obtain ⟨k, h⟩ := h0
    refine ⟨k + 1, ?_⟩
    simp only at h ⊢
    rw [place_Clear.l1, if_neg (by omega), wrap64_eq _ (by omega) (by omega), rowB, Bool.true_and, ← h]; rfl
  | succ e ih =>
    intro j hj
    obtain ⟨k, h⟩ := ih (j + 1) (by omega)
    simp only at h
    have w : wrap64 ((j : Int) + 1) = ((j + 1 : Nat) : Int) := by rw [wrap64_eq _ (by omega) (by omega)]; omega
    have hj2 : rd (p.take (i : Int).toNat) (j : Int) = rd p (j : Int) := rd_take p i j (by omega) (by omega)
    refine ⟨k + 1, ?_⟩
    simp only
    rw [place_Clear.l1, if_pos (by omega), if_pos (by omega), if_pos (by omega), hj2, w, h, rowB, okB]
    by_cases c1 : rd p (i : Int) ≥ 0
    · rw [if_pos c1, decide_eq_false (by omega : ¬ rd p (i : Int) < 0), Bool.false_or]
      by_cases c2 : rd p (j : Int) ≥ 0
      · have b1 := hb i (Nat.le_refl _)
        have b2 := hb j (by omega)
        unfold nbL at b1 b2
        rw [if_pos c2, decide_eq_false (by omega : ¬ rd p (j : Int) < 0), Bool.false_or, if_pos (by omega), if_pos (by omega), if_pos (by omega), if_pos (by omega), if_pos (by omega), if_pos (by omega), if_pos (by omega), meet_eq, Option.bind_some]
        by_cases m : meetB (rd_T42 (rd_T36 L (i : Int)).f1 (rd p (i : Int))).f0.f0 (rd_T42 (rd_T36 L (i : Int)).f1 (rd p (i : Int))).f0.f1 (rd_T42 (rd_T36 L (i : Int)).f1 (rd p (i : Int))).f1.f0 (rd_T42 (rd_T36 L (i : Int)).f1 (rd p (i : Int))).f1.f1 (rd_T42 (rd_T36 L (j : Int)).f1 (rd p (j : Int))).f0.f0 (rd_T42 (rd_T36 L (j : Int)).f1 (rd p (j : Int))).f0.f1 (rd_T42 (rd_T36 L (j : Int)).f1 (rd p (j : Int))).f1.f0 (rd_T42 (rd_T36 L (j : Int)).f1 (rd p (j : Int))).f1.f1 = true
        · rw [if_pos m, m]; rfl
        · rw [if_neg m, Bool.eq_false_iff.mpr m]; rfl
      · rw [if_neg c2, decide_eq_true (by omega : rd p (j : Int) < 0)]; rfl
    · rw [if_neg c1, decide_eq_true (by omega : rd p (i : Int) < 0)]; rfl
theorem clear_all {L : List S36} {p : List Int} (hn : p.length = L.length) (hp : p.length ≤ 9223372036854775807) : ∀ d i, i + d = p.length → (∀ j, j < i → -1 ≤ rd p (j : Int) ∧ rd p (j : Int) < (nbL L j : Int)) →
    ∃ b : Bool, Ev (fun k => place_Clear.l0 k L p p (p.length : Int) (i : Int)) b ∧ (b = true ↔ (∀ j, j < p.length → -1 ≤ rd p (j : Int) ∧ rd p (j : Int) < (nbL L j : Int)) ∧ allB L p d i = true)
  | 0, i, hi, hb => ⟨true, ⟨1, by simp only; rw [place_Clear.l0, if_neg (by omega)]⟩, fun _ => ⟨fun j hj => hb j (by omega), rfl⟩, fun _ => rfl⟩
  | d + 1, i, hi, hb => by
    by_cases c1 : rd p (i : Int) < -1
    · refine ⟨false, ⟨2, ?_⟩, (fun h => by cases h), fun h => ?_⟩
      · simp only
        rw [place_Clear.l0, if_pos (by omega), if_pos (by omega), if_pos (by omega), if_pos c1, place_Clear.j1, if_pos rfl]
      · have := (h.1 i (by omega)).1; omega
    · by_cases c2 : rd p (i : Int) ≥ ((rd_T36 L (i : Int)).f1.length : Int)
      · refine ⟨false, ⟨2, ?_⟩, (fun h => by cases h), fun h => ?_⟩
        · simp only
          rw [place_Clear.l0, if_pos (by omega), if_pos (by omega), if_pos (by omega), if_neg c1, if_pos (by omega), place_Clear.j1, if_pos (decide_eq_true c2)]
        · have := (h.1 i (by omega)).2; unfold nbL at this; omega
      · have hb2 : ∀ j, j < i + 1 → -1 ≤ rd p (j : Int) ∧ rd p (j : Int) < (nbL L j : Int) := fun j hj => by
          by_cases cj : j = i
          · subst cj; exact ⟨by omega, by unfold nbL; omega⟩
          · exact hb j (by omega)
        obtain ⟨b, h0, hbi⟩ := clear_all hn hp d (i + 1) (by omega) hb2
        obtain ⟨k, h⟩ := clear_row hn hp (show i < p.length by omega) (fun j hj => (hb2 j (by omega)).2) h0 i 0 (Nat.zero_add _)
        simp only at h
        refine ⟨rowB L p i i 0 && b, ⟨k + 2, ?_⟩, ?_⟩
        · simp only
          rw [place_Clear.l0, if_pos (by omega), if_pos (by omega), if_pos (by omega), if_neg c1, if_pos (by omega), place_Clear.j1, if_neg (by simpa using c2), if_pos (by omega), if_pos (by omega)]
          exact h
        · rw [allB, Bool.and_eq_true, Bool.and_eq_true, hbi]
          exact ⟨fun ⟨h1, h2, h3⟩ => ⟨h2, h1, h3⟩, fun ⟨h2, h1, h3⟩ => ⟨h1, h2, h3⟩⟩
/-- Clear says whether a list is a possible choice. -/
theorem clear_ev {L : List S36} (hm : L.length ≤ 9223372036854775807) (p : List Int) : ∃ b : Bool, Ev (fun k => place_Clear.f k L p) b ∧ (b = true ↔ Sel L p) := by
  by_cases c : p.length = L.length
  · obtain ⟨b, ⟨k, h⟩, hb⟩ := clear_all c (by omega) p.length 0 (Nat.zero_add _) (fun j hj => absurd hj (Nat.not_lt_zero _))
    refine ⟨b, ⟨k, ?_⟩, ?_⟩
    · simp only at h ⊢
      unfold place_Clear.f
      rw [if_pos (by omega)]
      exact h
    · rw [hb]
      exact ⟨fun ⟨h1, h2⟩ => ⟨c, h1, h2⟩, fun ⟨_, h1, h2⟩ => ⟨h1, h2⟩⟩
  · refine ⟨false, ⟨0, ?_⟩, (fun h => by cases h), fun h => absurd h.1 c⟩
    simp only
    unfold place_Clear.f
    rw [if_neg (by omega)]
/-! ### the first free box -/
theorem rd_taken (L : List S36) (n i : Nat) (h : i < n) : rd_T36 (L.take n) (i : Int) = rd_T36 L (i : Int) := by
  unfold rd_T36
  simp [List.getD_eq_getElem?_getD, List.getElem?_take, h]
theorem row_take (L : List S36) (p q : List Int) (n i : Nat) (hi : i < n) (hq : ∀ j, j ≤ i → rd q (j : Int) = rd p (j : Int)) : ∀ e j, j + e ≤ i → rowB (L.take n) q i e j = rowB L p i e j
  | 0, _, _ => rfl
  | e + 1, j, h => by rw [rowB, rowB, row_take L p q n i hi hq e (j + 1) (by omega), okB, okB, rd_taken L n i hi, rd_taken L n j (by omega), hq i (Nat.le_refl _), hq j (by omega)]
theorem all_take (L : List S36) (p q : List Int) (n m : Nat) (hm : m ≤ n) (hq : ∀ j, j < m → rd q (j : Int) = rd p (j : Int)) : ∀ d i, i + d ≤ m → allB (L.take n) q d i = allB L p d i
  | 0, _, _ => rfl
  | d + 1, i, h => by rw [allB, allB, row_take L p q n i (by omega) (fun j hj => hq j (by omega)) i 0 (by omega), all_take L p q n m hm hq d (i + 1) (by omega)]
theorem all_snoc (L : List S36) (p : List Int) : ∀ d i, allB L p (d + 1) i = (allB L p d i && rowB L p (i + d) (i + d) 0)
  | 0, i => by rw [allB, allB, allB, Bool.true_and, Bool.and_true]; rfl
  | d + 1, i => by rw [allB, all_snoc L p d (i + 1), allB, Bool.and_assoc, show i + 1 + d = i + (d + 1) by omega]
theorem rd_snoc (now : List Int) (k : Int) (j : Nat) (h : j < now.length) : rd (now ++ [k]) (j : Int) = rd now (j : Int) := rd_left now [k] j h
/-- Is the label behind now free in its box k? -/
theorem free_eq {L : List S36} (now : List Int) (k : Int) (hk : 0 ≤ k) (ha : allB L now now.length 0 = true) :
    allB (L.take (now.length + 1)) (now ++ [k]) (now ++ [k]).length 0 = fitB L now (rd_T42 (rd_T36 L (now.length : Int)).f1 k).f0.f0 (rd_T42 (rd_T36 L (now.length : Int)).f1 k).f0.f1 (rd_T42 (rd_T36 L (now.length : Int)).f1 k).f1.f0 (rd_T42 (rd_T36 L (now.length : Int)).f1 k).f1.f1 now.length 0 := by
  have el : (now ++ [k]).length = now.length + 1 := by rw [List.length_append]; rfl
  rw [el, all_snoc, Nat.zero_add, all_take L now (now ++ [k]) (now.length + 1) now.length (by omega) (fun j hj => rd_snoc now k j hj) now.length 0 (by omega), ha, Bool.true_and,
    row_take L (now ++ [k]) (now ++ [k]) (now.length + 1) now.length (by omega) (fun _ _ => rfl) now.length 0 (by omega), row_fit now [] k now.length 0 (Nat.zero_add _), if_pos hk]
  rfl
/-- The picks stay possible. -/
theorem all_pick {L : List S36} (now : List Int) (ha : allB L now now.length 0 = true) : allB L (now ++ [pickB L now]) (now ++ [pickB L now]).length 0 = true := by
  have el : (now ++ [pickB L now]).length = now.length + 1 := by rw [List.length_append]; rfl
  have e1 : allB L (now ++ [pickB L now]) now.length 0 = allB L now now.length 0 := by
    have h := all_take L (now ++ [pickB L now]) (now ++ [pickB L now]) now.length now.length (Nat.le_refl _) (fun _ _ => rfl) now.length 0 (by omega)
    have h2 := all_take L now (now ++ [pickB L now]) now.length now.length (Nat.le_refl _) (fun j hj => rd_snoc now _ j hj) now.length 0 (by omega)
    rw [← h, h2]
  rw [el, all_snoc, Nat.zero_add, e1, ha, Bool.true_and, row_fit now [] _ now.length 0 (Nat.zero_add _)]
  have key : ∀ (B : List S42) e q, 0 ≤ idxB L now B e q → fitB L now (rd_T42 B (idxB L now B e q)).f0.f0 (rd_T42 B (idxB L now B e q)).f0.f1 (rd_T42 B (idxB L now B e q)).f1.f0 (rd_T42 B (idxB L now B e q)).f1.f1 now.length 0 = true := by
    intro B e
    induction e with
    | zero => intro q h; rw [idxB] at h; omega
    | succ e ih =>
      intro q h
      rw [idxB] at h ⊢
      by_cases c : fitB L now (rd_T42 B (q : Int)).f0.f0 (rd_T42 B (q : Int)).f0.f1 (rd_T42 B (q : Int)).f1.f0 (rd_T42 B (q : Int)).f1.f1 now.length 0 = true
      · rw [if_pos c]; exact c
      · rw [if_neg c] at h ⊢; exact ih (q + 1) h
  by_cases c : 0 ≤ pickB L now
  · rw [if_pos c]; exact key _ _ _ c
  · rw [if_neg c]
theorem pick_in {L : List S36} (now : List Int) : -1 ≤ pickB L now ∧ pickB L now < (nbL L now.length : Int) := by
  have := idxB_bd L now (rd_T36 L (now.length : Int)).f1 (rd_T36 L (now.length : Int)).f1.length 0
  rw [Nat.zero_add] at this
  exact this
theorem in_snoc {L : List S36} {now : List Int} {x : Int} (h : InB L now) (hx : -1 ≤ x ∧ x < (nbL L now.length : Int)) : InB L (now ++ [x]) := fun i hi => by
  rw [List.length_append, List.length_singleton] at hi
  by_cases c : i < now.length
  · rw [rd_snoc now x i c]; exact h i c
  · rw [show i = now.length by omega, rd_append now x []]; exact hx
/-- The picks one after the other are a possible choice, worth what is told. -/
theorem grd_sel {L : List S36} : ∀ (d : Nat) (now : List Int) (many : Int), now.length + d = L.length → InB L now → allB L now now.length 0 = true → many = valL L now → Sel L (grd L d now many).1 ∧ (grd L d now many).2 = valL L (grd L d now many).1
  | 0, now, many, hd, hi, ha, hm => ⟨⟨by rw [grd]; omega, hi, ha⟩, hm⟩
  | d + 1, now, many, hd, hi, ha, hm => by
    have el : (now ++ [pickB L now]).length = now.length + 1 := by rw [List.length_append]; rfl
    rw [grd]
    refine grd_sel d _ _ (by rw [el]; omega) (in_snoc hi (pick_in now)) (all_pick now ha) ?_
    unfold valL
    rw [P.val_append, Nat.zero_add, P.val, P.val, Int.add_zero, hm]
    rfl
end Go.Proofs.Ytdmhnjpblpfbfaa.U
