/- PlaceFewer's pure statement: the law's function answers true for all lists and numbers. No condition. -/
import Derived.Test.YtdmhnjpblpfbfaaUPm
import Derived.Test.YtdmhnjpblpfbfaaUPx
import Derived.Test.YtdmhnjpblpfbfaaUB
import Derived.Test.YtdmhnjpblpfbfaaQPlaceFewer
namespace Go.Proofs.Ytdmhnjpblpfbfaa.U
open Go.RowKit Go.Proofs.Ytdmhnjpblpfbfaa.Q Go.Proofs.YtdmhnjpblpfbfaaW.PrintWords Go.Proofs.YtdmhnjpblpfbfaaW.PrintLast Go.Proofs.YtdmhnjpblpfbfaaW.PrintMore
set_option linter.unusedSimpArgs false
set_option linter.unusedVariables false
theorem placed_ev : Ev (fun k => terrkeep5_placed.f k) true := ⟨30, by kernel_rfl⟩
/-! ### a choice, in plain words -/
theorem row_iff (L : List S36) (p : List Int) (i : Nat) : ∀ e j, (rowB L p i e j = true ↔ ∀ q, j ≤ q → q < j + e → okB L p i q = true)
  | 0, j => ⟨fun _ q h1 h2 => by omega, fun _ => rfl⟩
  | e + 1, j => by
    rw [rowB, Bool.and_eq_true, row_iff L p i e (j + 1)]
    constructor
    · rintro ⟨h1, h2⟩ q a b
      by_cases c : q = j
      · rw [c]; exact h1
      · exact h2 q (by omega) (by omega)
    · intro h
      exact ⟨h j (by omega) (by omega), fun q a b => h q (by omega) (by omega)⟩
theorem all_iff (L : List S36) (p : List Int) : ∀ d i, (allB L p d i = true ↔ ∀ q, i ≤ q → q < i + d → ∀ j, j < q → okB L p q j = true)
  | 0, i => ⟨fun _ q h1 h2 => by omega, fun _ => rfl⟩
  | d + 1, i => by
    rw [allB, Bool.and_eq_true, all_iff L p d (i + 1), row_iff]
    constructor
    · rintro ⟨h1, h2⟩ q a b j hj
      by_cases c : q = i
      · subst c; exact h1 j (by omega) (by omega)
      · exact h2 q (by omega) (by omega) j hj
    · intro h
      exact ⟨fun q a b => h i (by omega) (by omega) q (by omega), fun q a b => h q (by omega) (by omega)⟩
/-- What a choice asks, in plain words. -/
def SelP (L : List S36) (p : List Int) : Prop := p.length = L.length ∧ InB L p ∧ ∀ i, i < p.length → ∀ j, j < i → okB L p i j = true
theorem sel_iff (L : List S36) (p : List Int) : Sel L p ↔ SelP L p := by
  unfold Sel SelP
  rw [all_iff]
  exact ⟨fun ⟨a, b, c⟩ => ⟨a, b, fun i hi => c i (by omega) (by omega)⟩, fun ⟨a, b, c⟩ => ⟨a, b, fun i _ hi => c i (by omega)⟩⟩
theorem rdT_left (A F : List S36) (i : Nat) (h : i < A.length) : rd_T36 (A ++ F) (i : Int) = rd_T36 A (i : Int) := by
  unfold rd_T36; simp [List.getD_eq_getElem?_getD, List.getElem?_append_left h]
theorem rdT_right (A F : List S36) (j : Nat) : rd_T36 (A ++ F) ((A.length + j : Nat) : Int) = rd_T36 F (j : Int) := by
  unfold rd_T36; rw [Int.toNat_natCast, Int.toNat_natCast]; simp [List.getD_eq_getElem?_getD, List.getElem?_append_right (Nat.le_add_right _ _)]
theorem rd_right (a b : List Int) (j : Nat) : rd (a ++ b) ((a.length + j : Nat) : Int) = rd b (j : Int) := by
  unfold rd; rw [Int.toNat_natCast, Int.toNat_natCast]; simp [List.getD_eq_getElem?_getD, List.getElem?_append_right (Nat.le_add_right _ _)]
theorem val_shift (f g : Nat → Int) (m : Nat) : ∀ (q : List Int) (i : Nat), (∀ j, j < q.length → f (m + (i + j)) = g (i + j)) → P.val f (m + i) q = P.val g i q
  | [], _, _ => rfl
  | k :: q, i, h => by
    have h0 := h 0 (by simp)
    rw [Nat.add_zero] at h0
    rw [P.val, P.val, P.wgt, P.wgt, h0, show m + i + 1 = m + (i + 1) by omega, val_shift f g m q (i + 1) (fun j hj => by
      have := h (j + 1) (by simpa using hj)
      rw [show i + (j + 1) = i + 1 + j by omega] at this; exact this)]
theorem val_cat (A F : List S36) (p q : List Int) (hp : p.length = A.length) : valL (A ++ F) (p ++ q) = valL A p + valL F q := by
  unfold valL
  rw [P.val_append, Nat.zero_add]
  have e1 : P.val (wgL (A ++ F)) 0 p = P.val (wgL A) 0 p := by
    have key : ∀ (p : List Int) (i : Nat), i + p.length ≤ A.length → P.val (wgL (A ++ F)) i p = P.val (wgL A) i p := by
      intro p
      induction p with
      | nil => intro _ _; rfl
      | cons k p ih =>
        intro i hi
        rw [List.length_cons] at hi
        rw [P.val, P.val, ih (i + 1) (by omega), P.wgt, P.wgt]
        have : wgL (A ++ F) i = wgL A i := by unfold wgL; rw [rdT_left A F i (by omega)]
        rw [this]
    exact key p 0 (by omega)
  have e2 := val_shift (wgL (A ++ F)) (wgL F) p.length q 0 (fun j _ => by unfold wgL; rw [Nat.zero_add, hp, rdT_right])
  rw [Nat.add_zero] at e2
  rw [e1, e2]
/-! ### a label in the middle -/
/-- May two labels stand at their picks together? -/
def okX (x y : S36) (k m : Int) : Bool := decide (k < 0) || (decide (m < 0) || !(meetB (rd_T42 x.f1 k).f0.f0 (rd_T42 x.f1 k).f0.f1 (rd_T42 x.f1 k).f1.f0 (rd_T42 x.f1 k).f1.f1
  (rd_T42 y.f1 m).f0.f0 (rd_T42 y.f1 m).f0.f1 (rd_T42 y.f1 m).f1.f0 (rd_T42 y.f1 m).f1.f1))
theorem okB_eq (L : List S36) (p : List Int) (i j : Nat) : okB L p i j = okX (rd_T36 L (i : Int)) (rd_T36 L (j : Int)) (rd p (i : Int)) (rd p (j : Int)) := rfl
theorem rdT_cons (x : S36) (l : List S36) (i : Nat) : rd_T36 (x :: l) ((i + 1 : Nat) : Int) = rd_T36 l (i : Int) := by unfold rd_T36; simp [List.getD]
theorem rdT_mid (A B : List S36) (x : S36) : rd_T36 (A ++ x :: B) (A.length : Int) = x := by unfold rd_T36; simp [List.getD]
theorem rdT_past (A B : List S36) (x : S36) (j : Nat) : rd_T36 (A ++ x :: B) ((A.length + (j + 1) : Nat) : Int) = rd_T36 B (j : Int) := by
  rw [rdT_right A (x :: B) (j + 1), rdT_cons]
theorem rd_past (a b : List Int) (k : Int) (j : Nat) : rd (a ++ k :: b) ((a.length + (j + 1) : Nat) : Int) = rd b (j : Int) := by
  rw [rd_right a (k :: b) (j + 1), rd_cons]
/-- The place of the m-th in the list with one more at n. -/
def sk (n m : Nat) : Nat := if m < n then m else m + 1
theorem rdT_sk (A B : List S36) (x : S36) (m : Nat) : rd_T36 (A ++ x :: B) ((sk A.length m : Nat) : Int) = rd_T36 (A ++ B) (m : Int) := by
  unfold sk
  by_cases c : m < A.length
  · rw [if_pos c, rdT_left _ _ _ c, rdT_left _ _ _ c]
  · obtain ⟨j, rfl⟩ : ∃ j, m = A.length + j := ⟨m - A.length, by omega⟩
    rw [if_neg c, show A.length + j + 1 = A.length + (j + 1) by omega, rdT_past, rdT_right]
theorem rd_sk (a b : List Int) (k : Int) (m : Nat) : rd (a ++ k :: b) ((sk a.length m : Nat) : Int) = rd (a ++ b) (m : Int) := by
  unfold sk
  by_cases c : m < a.length
  · rw [if_pos c, rd_left _ _ _ c, rd_left _ _ _ c]
  · obtain ⟨j, rfl⟩ : ∃ j, m = a.length + j := ⟨m - a.length, by omega⟩
    rw [if_neg c, show a.length + j + 1 = a.length + (j + 1) by omega, rd_past, rd_right]
theorem sel_mid (A B : List S36) (x : S36) (pa pb : List Int) (k : Int) (hp : pa.length = A.length) : Sel (A ++ x :: B) (pa ++ k :: pb) ↔
    Sel (A ++ B) (pa ++ pb) ∧ (-1 ≤ k ∧ k < (x.f1.length : Int)) ∧ (∀ j, j < A.length → okX x (rd_T36 A (j : Int)) k (rd pa (j : Int)) = true) ∧ (∀ j, j < B.length → okX (rd_T36 B (j : Int)) x (rd pb (j : Int)) k = true) := by
  rw [sel_iff, sel_iff]
  have tt : ∀ m, rd_T36 (A ++ x :: B) ((sk pa.length m : Nat) : Int) = rd_T36 (A ++ B) (m : Int) := fun m => by rw [hp]; exact rdT_sk A B x m
  have rr : ∀ m, rd (pa ++ k :: pb) ((sk pa.length m : Nat) : Int) = rd (pa ++ pb) (m : Int) := rd_sk pa pb k
  have nn : ∀ m, nbL (A ++ x :: B) (sk pa.length m) = nbL (A ++ B) m := fun m => by unfold nbL; rw [tt]
  have t0 : rd_T36 (A ++ x :: B) (pa.length : Int) = x := by rw [hp]; exact rdT_mid A B x
  have r0 : rd (pa ++ k :: pb) (pa.length : Int) = k := rd_append pa k pb
  have lo : ∀ m, m < pa.length → sk pa.length m = m := fun m h => by unfold sk; rw [if_pos h]
  have hi : ∀ m, sk pa.length (pa.length + m) = pa.length + (m + 1) := fun m => by unfold sk; rw [if_neg (by omega)]; omega
  have oo : ∀ i j, okB (A ++ x :: B) (pa ++ k :: pb) (sk pa.length i) (sk pa.length j) = okB (A ++ B) (pa ++ pb) i j := fun i j => by rw [okB_eq, okB_eq, tt, tt, rr, rr]
  constructor
  · rintro ⟨h1, h2, h3⟩
    rw [List.length_append, List.length_append, List.length_cons, List.length_cons] at h1
    have hl : (pa ++ k :: pb).length = pa.length + (pb.length + 1) := by rw [List.length_append, List.length_cons]
    refine ⟨⟨by rw [List.length_append, List.length_append]; omega, fun i hI => ?_, fun i hI j hj => ?_⟩, ?_, fun j hj => ?_, fun j hj => ?_⟩
    · rw [List.length_append] at hI
      have := h2 (sk pa.length i) (by rw [hl]; unfold sk; split <;> omega)
      rw [rr, nn] at this; exact this
    · rw [List.length_append] at hI
      have := h3 (sk pa.length i) (by rw [hl]; unfold sk; split <;> omega) (sk pa.length j) (by unfold sk; split <;> split <;> omega)
      rw [oo] at this; exact this
    · have := h2 pa.length (by rw [hl]; omega)
      unfold nbL at this
      rw [r0, t0] at this; exact this
    · have := h3 pa.length (by rw [hl]; omega) j (by omega)
      rw [okB_eq, t0, r0, rd_left _ _ _ (by omega), rdT_left _ _ _ hj] at this; exact this
    · have := h3 (pa.length + (j + 1)) (by rw [hl]; omega) pa.length (by omega)
      rw [okB_eq, t0, r0, rd_past] at this
      rw [hp, rdT_past] at this; exact this
  · rintro ⟨⟨h1, h2, h3⟩, hk, ha, hb⟩
    rw [List.length_append, List.length_append] at h1
    have hl : (pa ++ k :: pb).length = pa.length + (pb.length + 1) := by rw [List.length_append, List.length_cons]
    have hs : (pa ++ pb).length = pa.length + pb.length := List.length_append
    refine ⟨by rw [hl, List.length_append, List.length_cons]; omega, fun i hI => ?_, fun i hI j hj => ?_⟩
    · rw [hl] at hI
      by_cases c : i = pa.length
      · subst c
        unfold nbL; rw [r0, t0]; exact hk
      · obtain ⟨m, hm, e⟩ : ∃ m, m < pa.length + pb.length ∧ sk pa.length m = i := by
          by_cases d : i < pa.length
          · exact ⟨i, by omega, lo i d⟩
          · exact ⟨i - 1, by omega, by unfold sk; rw [if_neg (by omega)]; omega⟩
        rw [← e, rr, nn]; exact h2 m (by rw [hs]; exact hm)
    · rw [hl] at hI
      by_cases c : i = pa.length
      · subst c
        rw [okB_eq, t0, r0, rd_left _ _ _ hj, rdT_left _ _ _ (by omega)]; exact ha j (by omega)
      · obtain ⟨m, hm, e⟩ : ∃ m, m < pa.length + pb.length ∧ sk pa.length m = i := by
          by_cases d : i < pa.length
          · exact ⟨i, by omega, lo i d⟩
          · exact ⟨i - 1, by omega, by unfold sk; rw [if_neg (by omega)]; omega⟩
        by_cases g : j = pa.length
        · subst g
          obtain ⟨q, rfl⟩ : ∃ q, i = pa.length + (q + 1) := ⟨i - pa.length - 1, by omega⟩
          rw [okB_eq, t0, r0, rd_past]
          rw [hp, rdT_past]; exact hb q (by omega)
        · obtain ⟨n, hn, f⟩ : ∃ n, n < m ∧ sk pa.length n = j := by
            by_cases d : j < pa.length
            · refine ⟨j, ?_, lo j d⟩
              unfold sk at e; split at e <;> omega
            · refine ⟨j - 1, ?_, by unfold sk; rw [if_neg (by omega)]; omega⟩
              unfold sk at e; split at e <;> omega
          rw [← e, ← f, oo]; exact h3 m (by rw [hs]; exact hm) n hn
theorem val_cons (x : S36) (B : List S36) (k : Int) (q : List Int) : valL (x :: B) (k :: q) = (if 0 ≤ k then x.f2 else 0) + valL B q := by
  unfold valL
  have e := val_shift (wgL (x :: B)) (wgL B) 1 q 0 (fun j _ => by unfold wgL; rw [Nat.zero_add, Nat.add_comm 1 j, rdT_cons])
  rw [Nat.add_zero] at e
  rw [P.val, P.wgt, Nat.zero_add, e]; rfl
theorem val_mid (A B : List S36) (x : S36) (pa pb : List Int) (k : Int) (hp : pa.length = A.length) : valL (A ++ x :: B) (pa ++ k :: pb) = valL (A ++ B) (pa ++ pb) + (if 0 ≤ k then x.f2 else 0) := by
  rw [val_cat _ _ _ _ hp, val_cat _ _ _ _ hp, val_cons]; omega
theorem okX_neg1 (x y : S36) (m : Int) : okX x y (-1) m = true := rfl
theorem okX_neg2 (x y : S36) (k : Int) : okX x y k (-1) = true := by unfold okX; simp
theorem cut_at {p : List Int} {n m : Nat} (h : p.length = n + (m + 1)) : ∃ pa k pb, p = pa ++ k :: pb ∧ pa.length = n ∧ pb.length = m := by
  refine ⟨p.take n, p[n]'(by omega), p.drop (n + 1), ?_, by rw [List.length_take]; omega, by rw [List.length_drop]; omega⟩
  rw [List.getElem_cons_drop, List.take_append_drop]
theorem cut_app {p : List Int} {n m : Nat} (h : p.length = n + m) : ∃ pa pb, p = pa ++ pb ∧ pa.length = n ∧ pb.length = m :=
  ⟨p.take n, p.drop n, (List.take_append_drop _ _).symm, by rw [List.length_take]; omega, by rw [List.length_drop]; omega⟩
theorem top_le {L : List S36} (h : Chk L) {p : List Int} (hp : Sel L p) : valL L p ≤ (bestL L).2 := by
  rcases (best_spec h).2.2 p hp with h | ⟨h, _⟩ <;> omega
/-- Without a label: not worth more, and at most its weight less. -/
theorem less_label {A B : List S36} {x : S36} (hw : 0 ≤ x.f2) (h : Chk (A ++ x :: B)) (h' : Chk (A ++ B)) : (bestL (A ++ B)).2 ≤ (bestL (A ++ x :: B)).2 ∧ (bestL (A ++ x :: B)).2 ≤ (bestL (A ++ B)).2 + x.f2 := by
  constructor
  · obtain ⟨s, v, _⟩ := best_spec h'
    obtain ⟨pa, pb, e, la, lb⟩ := cut_app (n := A.length) (m := B.length) (by rw [s.1, List.length_append])
    rw [e] at s v
    have := top_le h ((sel_mid A B x pa pb (-1) la).2 ⟨s, ⟨by omega, by omega⟩, fun j _ => rfl, fun j _ => okX_neg2 _ _ _⟩)
    rw [val_mid A B x pa pb (-1) la, if_neg (by omega)] at this
    omega
  · obtain ⟨s, v, _⟩ := best_spec h
    obtain ⟨pa, k, pb, e, la, lb⟩ := cut_at (n := A.length) (m := B.length) (by rw [s.1, List.length_append, List.length_cons])
    rw [e] at s v
    have := top_le h' ((sel_mid A B x pa pb k la).1 s).1
    rw [val_mid A B x pa pb k la] at v
    split at v <;> omega
/-- Without a box of a label: not worth more. -/
theorem less_box {A B : List S36} {x y : S36} (hw : y.f2 = x.f2) (f : Int → Int) (hf : ∀ k, -1 ≤ k → k < (y.f1.length : Int) → -1 ≤ f k ∧ f k < (x.f1.length : Int) ∧ (0 ≤ f k ↔ 0 ≤ k) ∧ (0 ≤ k → rd_T42 x.f1 (f k) = rd_T42 y.f1 k))
    (h : Chk (A ++ x :: B)) (h' : Chk (A ++ y :: B)) : (bestL (A ++ y :: B)).2 ≤ (bestL (A ++ x :: B)).2 := by
  obtain ⟨s, v, _⟩ := best_spec h'
  obtain ⟨pa, k, pb, e, la, lb⟩ := cut_at (n := A.length) (m := B.length) (by rw [s.1, List.length_append, List.length_cons])
  rw [e] at s v
  obtain ⟨s1, ⟨k1, k2⟩, sa, sb⟩ := (sel_mid A B y pa pb k la).1 s
  obtain ⟨f1, f2, f3, f4⟩ := hf k k1 k2
  have := top_le h ((sel_mid A B x pa pb (f k) la).2 ⟨s1, ⟨f1, f2⟩, fun j hj => ?_, fun j hj => ?_⟩)
  · rw [val_mid A B x pa pb (f k) la] at this
    rw [val_mid A B y pa pb k la, hw] at v
    by_cases c : 0 ≤ k
    · rw [if_pos (f3.2 c)] at this; rw [if_pos c] at v; omega
    · rw [if_neg (fun q => c (f3.1 q))] at this; rw [if_neg c] at v; omega
  · have o := sa j hj
    by_cases c : 0 ≤ k
    · unfold okX at o ⊢
      rw [f4 c, decide_eq_false (by omega : ¬ f k < 0)]
      rw [decide_eq_false (by omega : ¬ k < 0)] at o; exact o
    · unfold okX; rw [decide_eq_true (by omega : f k < 0)]; rfl
  · have o := sb j hj
    by_cases c : 0 ≤ k
    · unfold okX at o ⊢
      rw [f4 c, decide_eq_false (by omega : ¬ f k < 0)]
      rw [decide_eq_false (by omega : ¬ k < 0)] at o; exact o
    · unfold okX; rw [decide_eq_true (by omega : f k < 0), Bool.true_or, Bool.or_true]
/-- Alone: a label is placed, if it has a box. -/
theorem best_one {x : S36} (h : Chk [x]) (hw : 0 ≤ x.f2) : (bestL [x]).2 = if 0 < x.f1.length then x.f2 else 0 := by
  obtain ⟨s, v, _⟩ := best_spec h
  have sm : ∀ k : Int, -1 ≤ k → k < (x.f1.length : Int) → Sel [x] [k] := fun k h1 h2 => (sel_mid [] [] x [] [] k rfl).2 ⟨by rw [sel_iff]; exact ⟨rfl, fun i hi => absurd hi (Nat.not_lt_zero _), fun i hi => absurd hi (Nat.not_lt_zero _)⟩, ⟨h1, h2⟩, fun j hj => absurd hj (Nat.not_lt_zero _), fun j hj => absurd hj (Nat.not_lt_zero _)⟩
  have vm : ∀ k : Int, valL [x] [k] = if 0 ≤ k then x.f2 else 0 := fun k => by rw [val_cons]; exact Int.add_zero _
  obtain ⟨pa, k, pb, e, la, lb⟩ := cut_at (n := 0) (m := 0) (p := (bestL [x]).1) (by rw [s.1]; rfl)
  obtain rfl := List.eq_nil_of_length_eq_zero la
  obtain rfl := List.eq_nil_of_length_eq_zero lb
  rw [e] at s v
  have hk := ((sel_mid [] [] x [] [] k rfl).1 s).2.1
  have v : valL [x] [k] = _ := v
  rw [vm] at v
  split
  · next c =>
    have := top_le h (sm 0 (by omega) (by omega))
    rw [vm, if_pos (Int.le_refl 0)] at this
    split at v <;> omega
  · next c =>
    rw [if_neg (by omega)] at v; exact v.symm
/-! ### Concat -/
theorem cat36 (x y : List S36) (hx : x.length ≤ 100) (hy : y.length ≤ 100) : place_Want_19.f 7 [x, y] = some (x ++ y) := by
  have e0 : rd_L105 [x, y] 0 = x := rfl
  have e1 : rd_L105 [x, y] 1 = y := rfl
  have w0 : wrap64 (0 + (x.length : Int)) = (x.length : Int) := by rw [wrap64_eq] <;> omega
  have w1 : wrap64 ((x.length : Int) + (y.length : Int)) = (x.length : Int) + (y.length : Int) := by rw [wrap64_eq] <;> omega
  have w2 : wrap64 (0 + 1) = 1 := by rw [wrap64_eq] <;> omega
  have w3 : wrap64 (1 + 1) = 2 := by rw [wrap64_eq] <;> omega
  have b1 : ([] : List S36).length + x.length < 1353245080339 := Nat.lt_of_le_of_lt (show _ ≤ 200 by simp; omega) (by decide)
  have b2 : x.length + y.length < 1353245080339 := Nat.lt_of_le_of_lt (show _ ≤ 200 by omega) (by decide)
  unfold place_Want_19.f
  rw [place_Want_19.l0, if_pos (by simp), if_pos (by omega), if_pos (by simp), e0, w0, if_neg (by omega), w2, place_Want_19.l0, if_pos (by simp), if_pos (by omega), if_pos (by simp), e1, w1, if_neg (by omega), w3, place_Want_19.l0, if_neg (by simp), if_pos ⟨by omega, by omega⟩,
    place_Want_19.l1, if_pos (by simp), if_pos (by omega), if_pos (by simp), e0, if_pos b1, w2, List.nil_append, place_Want_19.l1, if_pos (by simp), if_pos (by omega), if_pos (by simp), e1, if_pos b2, w3, place_Want_19.l1, if_neg (by simp)]
theorem cat42 (x y : List S42) (hx : x.length ≤ 100) (hy : y.length ≤ 100) : api_Box_21.f 7 [x, y] = some (x ++ y) := by
  have e0 : rd_L104 [x, y] 0 = x := rfl
  have e1 : rd_L104 [x, y] 1 = y := rfl
  have w0 : wrap64 (0 + (x.length : Int)) = (x.length : Int) := by rw [wrap64_eq] <;> omega
  have w1 : wrap64 ((x.length : Int) + (y.length : Int)) = (x.length : Int) + (y.length : Int) := by rw [wrap64_eq] <;> omega
  have w2 : wrap64 (0 + 1) = 1 := by rw [wrap64_eq] <;> omega
  have w3 : wrap64 (1 + 1) = 2 := by rw [wrap64_eq] <;> omega
  have b1 : ([] : List S42).length + x.length < 4398046511104 := Nat.lt_of_le_of_lt (show _ ≤ 200 by simp; omega) (by decide)
  have b2 : x.length + y.length < 4398046511104 := Nat.lt_of_le_of_lt (show _ ≤ 200 by omega) (by decide)
  unfold api_Box_21.f
  rw [api_Box_21.l0, if_pos (by simp), if_pos (by omega), if_pos (by simp), e0, w0, if_neg (by omega), w2, api_Box_21.l0, if_pos (by simp), if_pos (by omega), if_pos (by simp), e1, w1, if_neg (by omega), w3, api_Box_21.l0, if_neg (by simp), if_pos ⟨by omega, by omega⟩,
    api_Box_21.l1, if_pos (by simp), if_pos (by omega), if_pos (by simp), e0, if_pos b1, w2, List.nil_append, api_Box_21.l1, if_pos (by simp), if_pos (by omega), if_pos (by simp), e1, if_pos b2, w3, api_Box_21.l1, if_neg (by simp)]
/-! ### the parts of the law -/
theorem best_ev {L : List S36} (hL : L.length ≤ 10) (hg : ∀ x, x ∈ L → GW x) : Chk L ∧ ∃ k0, ∀ k, k0 ≤ k → place_Best.f k L = some ((bestL L).1, (bestL L).2, 0) := by
  obtain ⟨k0, h⟩ := check_zero hL hg
  simp only at h
  refine ⟨check_ok h, k0, fun k hk => ?_⟩
  unfold place_Best.f
  rw [up (place_Check.mono L) hk h, Option.bind_some, if_pos rfl]; rfl
theorem mid_take (A B : List S36) (x : S36) : (A ++ x :: B).take A.length = A := List.take_left' rfl
theorem mid_drop (A B : List S36) (x : S36) : (A ++ x :: B).drop (A.length + 1) = B := by
  rw [show A ++ x :: B = (A ++ [x]) ++ B by simp]; exact List.drop_left' (by simp)
theorem mid_one (A B : List S36) (x : S36) : ((A ++ x :: B).take (A.length + 1)).drop A.length = [x] := by
  rw [show A ++ x :: B = (A ++ [x]) ++ B by simp, List.take_left' (by simp)]; exact List.drop_left' rfl
theorem mid_set (A B : List S36) (x y : S36) : (A ++ x :: B).set A.length y = A ++ y :: B := by simp
theorem less_j0 {A B : List S36} {x y : S36} (hl : (A ++ x :: B).length ≤ 6) (hx : ∀ z, z ∈ A ++ x :: B → GN z) (hy : GW y) (hb : Chk (A ++ x :: B) → Chk (A ++ y :: B) → (bestL (A ++ y :: B)).2 ≤ (bestL (A ++ x :: B)).2) :
    ∃ k0, ∀ k, k0 ≤ k → terrkeep5_PlaceFewer.j0 k (A ++ x :: B) (bestL (A ++ x :: B)).2 (A.length : Int) (bestL (A ++ B)).2 0 (A ++ y :: B) = some true := by
  have hlen : (A ++ x :: B).length = A.length + (B.length + 1) := by rw [List.length_append, List.length_cons]
  have gx : GN x := hx x (by simp)
  obtain ⟨c0, _⟩ := best_ev (L := A ++ x :: B) (by omega) (fun z hz => gn_gw (hx z hz))
  obtain ⟨c1, _⟩ := best_ev (L := A ++ B) (by rw [List.length_append]; omega) (fun z hz => gn_gw (hx z (by simp only [List.mem_append, List.mem_cons] at hz ⊢; rcases hz with h | h; exact .inl h; exact .inr (.inr h))))
  obtain ⟨c2, k2, h2⟩ := best_ev (L := A ++ y :: B) (by rw [List.length_append, List.length_cons]; omega) (fun z hz => by
    simp only [List.mem_append, List.mem_cons] at hz
    rcases hz with h | h | h
    · exact gn_gw (hx z (by simp [h]))
    · rw [h]; exact hy
    · exact gn_gw (hx z (by simp [h])))
  obtain ⟨c3, k3, h3⟩ := best_ev (L := [x]) (by simp) (fun z hz => by rw [List.mem_singleton.1 hz]; exact gn_gw gx)
  obtain ⟨l1, l2⟩ := less_label gx.2.2.1 c0 c1
  have lb := hb c0 c2
  have lo := best_one c3 gx.2.2.1
  have v1 := val_bd c1 (bestL (A ++ B)).1 (Nat.le_of_eq (best_spec c1).1.1)
  rw [(best_spec c1).2.1] at v1
  have gw := gx.2.2
  generalize (bestL (A ++ x :: B)).2 = n0 at *
  generalize (bestL (A ++ B)).2 = n1 at *
  generalize (bestL (A ++ y :: B)).2 = n2 at *
  generalize (bestL [x]).2 = n3 at *
  clear c0 c1 c2 c3 hb hx
  refine ⟨k2 + k3 + 1, fun k hk => ?_⟩
  obtain ⟨k, rfl⟩ : ∃ k', k = k' + 1 := ⟨k - 1, by omega⟩
  have q1 : (0:Int) ≤ (A.length : Int) := Int.natCast_nonneg _
  have q2 : (A.length : Int) ≤ ((A.length + 1 : Nat) : Int) := by omega
  have q3 : ((A.length + 1 : Nat) : Int) ≤ ((A ++ x :: B).length : Int) := by omega
  have q4 : ¬ n1 > n0 := by omega
  have q5 : ¬ n2 > n0 := by omega
  have q6 : (A.length : Int) < ((A ++ x :: B).length : Int) := by omega
  have q7 : ¬ n0 > n1 + x.f2 := by omega
  have e2 := h2 k (by omega)
  have e3 := h3 k (by omega)
  have w2 : wrap64 (n1 + x.f2) = n1 + x.f2 := by rw [wrap64_eq] <;> omega
  have w1 : wrap64 ((A.length : Int) + 1) = ((A.length + 1 : Nat) : Int) := by clear w2; rw [wrap64_eq _ (by omega) (by omega)]; omega
  rw [terrkeep5_PlaceFewer.j0, e2, Option.bind_some, if_pos q1, w1, if_pos q2, if_pos q3, Int.toNat_natCast, Int.toNat_natCast, mid_one, e3, Option.bind_some, rdT_mid, w2, if_pos rfl, if_pos rfl, if_pos rfl]
  dsimp only
  rw [if_neg q4, if_neg q5, if_pos q6, if_neg q7]
  clear w1 w2 e2 e3
  by_cases c : (x.f1.length : Int) = 0
  · rw [if_neg (by omega)] at lo
    rw [if_pos c, if_pos lo]
  · rw [if_pos (by omega)] at lo
    rw [if_neg c, if_pos (by omega), lo]; simp
theorem cut_box (D : List S42) (j : Nat) (hj : j < D.length) (k : Int) (h0 : 0 ≤ k) (h1 : k < ((D.take j ++ D.drop (j + 1)).length : Int)) : rd_T42 D (if k < (j : Int) then k else k + 1) = rd_T42 (D.take j ++ D.drop (j + 1)) k := by
  rw [List.length_append, List.length_take, List.length_drop] at h1
  unfold rd_T42
  by_cases c : k < (j : Int)
  · rw [if_pos c, List.getD_eq_getElem?_getD, List.getD_eq_getElem?_getD, List.getElem?_append_left (by rw [List.length_take]; omega), List.getElem?_take, if_pos (by omega)]
  · rw [if_neg c, List.getD_eq_getElem?_getD, List.getD_eq_getElem?_getD, List.getElem?_append_right (by rw [List.length_take]; omega), List.getElem?_drop, List.length_take, show j + 1 + (k.toNat - min j D.length) = (k + 1).toNat by omega]
theorem few_mid {A B : List S36} {x : S36} (a1 a2 : Int) (hl : (A ++ x :: B).length ≤ 6) (hx : ∀ z, z ∈ A ++ x :: B → GN z) (hA : a1 % ((A ++ x :: B).length : Int) = (A.length : Int)) (l0 : List Int) (hW : terrkeep5_wants.f l0 = some (A ++ x :: B)) : ∃ k, terrkeep5_PlaceFewer.f k l0 a1 a2 = some true := by
  have hlen : (A ++ x :: B).length = A.length + (B.length + 1) := by rw [List.length_append, List.length_cons]
  have gx : GN x := hx x (by simp)
  obtain ⟨kp, hp⟩ := placed_ev
  simp only at hp
  obtain ⟨c0, k0, h0⟩ := best_ev (L := A ++ x :: B) (by omega) (fun z hz => gn_gw (hx z hz))
  obtain ⟨c1, k1, h1⟩ := best_ev (L := A ++ B) (by rw [List.length_append]; omega) (fun z hz => gn_gw (hx z (by simp only [List.mem_append, List.mem_cons] at hz ⊢; rcases hz with h | h; exact .inl h; exact .inr (.inr h))))
  have hbel : terrmake_Below.f a1 ((A ++ x :: B).length : Int) = some (A.length : Int) := by rw [below_eq _ _ (by omega) (by omega), hA]
  have h20 : place_Want_20.f (A ++ x :: B) = some (A ++ x :: B) := by
    have hb : ([] : List S36).length + (A ++ x :: B).length < 1353245080339 := Nat.lt_of_le_of_lt (show _ ≤ 200 by rw [List.length_nil]; omega) (by decide)
    unfold place_Want_20.f; rw [Option.bind_some, if_pos hb, List.nil_append]
  have head : ∀ k, kp + k0 + k1 + 7 ≤ k → terrkeep5_PlaceFewer.f k l0 a1 a2 = if ((x.f1).length : Int) > 0 then ((terrmake_Below.f a2 ((x.f1).length : Int)).bind fun t220 => (if (A.length : Int) < ((A ++ x :: B).length : Int) then (if 0 ≤ t220 then (if t220 ≤ ((x.f1).length : Int) then (if 0 ≤ (wrap64 (t220 + 1)) then (if (wrap64 (t220 + 1)) ≤ ((x.f1).length : Int) then ((api_Box_21.f k (([((x.f1).take (t220 : Int).toNat), ((x.f1).drop ((wrap64 (t220 + 1)) : Int).toNat)] : List (List (S42))))).bind fun t236 => (terrkeep5_PlaceFewer.j0 k (A ++ x :: B) (bestL (A ++ x :: B)).2 (A.length : Int) (bestL (A ++ B)).2 0 (A ++ (⟨(⟨x.f0.f0, x.f0.f1, x.f0.f2, x.f0.f3, x.f0.f4, x.f0.f5⟩ : S33), t236, x.f2⟩ : S36) :: B))) else (none)) else (none)) else (none)) else (none)) else (none))) else (terrkeep5_PlaceFewer.j0 k (A ++ x :: B) (bestL (A ++ x :: B)).2 (A.length : Int) (bestL (A ++ B)).2 0 (A ++ x :: B)) := by
    intro k hk
    have q0 : ¬ ((A ++ x :: B).length : Int) = 0 := by omega
    have q1 : (0:Int) ≤ (A.length : Int) := Int.natCast_nonneg _
    have q2 : (0 : Int) ≤ ((A.length + 1 : Nat) : Int) := by omega
    have q3 : ((A.length + 1 : Nat) : Int) ≤ ((A ++ x :: B).length : Int) := by omega
    have q4 : (A.length : Int) ≤ ((A ++ x :: B).length : Int) := by omega
    have q6 : (A.length : Int) < ((A ++ x :: B).length : Int) := by omega
    have la : A.length ≤ 100 := by omega
    have lb : B.length ≤ 100 := by omega
    have e0 := h0 k (by omega)
    have e1 := h1 k (by omega)
    have k1' : kp ≤ k := by omega
    have k2' : 7 ≤ k := by omega
    have w1 : wrap64 ((A.length : Int) + 1) = ((A.length + 1 : Nat) : Int) := by rw [wrap64_eq _ (by omega) (by omega)]; omega
    unfold terrkeep5_PlaceFewer.f
    rw [up terrkeep5_placed.mono k1' hp, Option.bind_some, if_pos rfl, hW, Option.bind_some, e0, Option.bind_some, if_pos rfl]
    dsimp only
    rw [if_neg q0, hbel, Option.bind_some, if_pos q1, if_pos q4, w1, if_pos q2, if_pos q3, Int.toNat_natCast, Int.toNat_natCast, mid_take, mid_drop, up (place_Want_19.mono _) k2' (cat36 A B la lb), Option.bind_some, e1, Option.bind_some, h20, Option.bind_some, rdT_mid, if_pos q6]
    simp only [mid_set]
  by_cases c : (x.f1.length : Int) > 0
  · obtain ⟨r, e1, e2, e3⟩ := below_spec a2 (x.f1.length : Int) c (by have := gx.1; omega)
    obtain ⟨j, rfl⟩ : ∃ j : Nat, r = (j : Int) := ⟨r.toNat, by omega⟩
    have g1 := gx.1
    have dl : (x.f1.take j ++ x.f1.drop (j + 1)).length = x.f1.length - 1 := by rw [List.length_append, List.length_take, List.length_drop]; omega
    obtain ⟨kj, hj⟩ := less_j0 (y := ⟨⟨x.f0.f0, x.f0.f1, x.f0.f2, x.f0.f3, x.f0.f4, x.f0.f5⟩, x.f1.take j ++ x.f1.drop (j + 1), x.f2⟩) hl hx
      ⟨by show (x.f1.take j ++ x.f1.drop (j + 1)).length ≤ 5; omega, fun b hb => (gn_gw gx).2.1 b (by
        rcases List.mem_append.1 hb with h | h
        · exact List.mem_of_mem_take h
        · exact List.mem_of_mem_drop h), gx.2.2.1, by have := gx.2.2.2; show x.f2 ≤ 1000; omega⟩
      (less_box rfl (fun k => if k < (j : Int) then k else k + 1) (fun k h1 h2 => by
        have h2 : k < ((x.f1.take j ++ x.f1.drop (j + 1)).length : Int) := h2
        refine ⟨?_, ?_, ?_, fun h0 => cut_box x.f1 j (by omega) k h0 h2⟩
        · split <;> omega
        · split <;> omega
        · split <;> omega))
    refine ⟨kp + k0 + k1 + kj + 7, ?_⟩
    have q6 : (A.length : Int) < ((A ++ x :: B).length : Int) := by omega
    have r1 : (j : Int) ≤ (x.f1.length : Int) := by omega
    have r2 : (0 : Int) ≤ ((j + 1 : Nat) : Int) := by omega
    have r3 : ((j + 1 : Nat) : Int) ≤ (x.f1.length : Int) := by omega
    have k2' : 7 ≤ kp + k0 + k1 + kj + 7 := by omega
    have e4 := hj (kp + k0 + k1 + kj + 7) (by omega)
    have e5 := head (kp + k0 + k1 + kj + 7) (by omega)
    have e6 := cat42 (x.f1.take j) (x.f1.drop (j + 1)) (by rw [List.length_take]; omega) (by rw [List.length_drop]; omega)
    have w2 : wrap64 ((j : Int) + 1) = ((j + 1 : Nat) : Int) := by clear e4 e5 e6 head hj; rw [wrap64_eq _ (by omega) (by omega)]; omega
    rw [e5, if_pos c, e1, Option.bind_some, if_pos q6, if_pos e2, if_pos r1, w2, if_pos r2, if_pos r3, Int.toNat_natCast, Int.toNat_natCast, up (api_Box_21.mono _) k2' e6, Option.bind_some]
    exact e4
  · obtain ⟨kj, hj⟩ := less_j0 (y := x) hl hx (gn_gw gx) (fun _ _ => Int.le_refl _)
    refine ⟨kp + k0 + k1 + kj + 7, ?_⟩
    rw [head _ (by omega), if_neg c]
    exact hj _ (by omega)
theorem few_none (a1 a2 : Int) (l0 : List Int) (hW : terrkeep5_wants.f l0 = some []) : ∃ k, terrkeep5_PlaceFewer.f k l0 a1 a2 = some true := by
  obtain ⟨kp, hp⟩ := placed_ev
  simp only at hp
  obtain ⟨c0, k0, h0⟩ := best_ev (L := []) (by simp) (fun z hz => by cases hz)
  refine ⟨kp + k0, ?_⟩
  unfold terrkeep5_PlaceFewer.f
  rw [up terrkeep5_placed.mono (by omega : kp ≤ kp + k0) hp, Option.bind_some, if_pos rfl, hW, Option.bind_some, h0 _ (by omega), Option.bind_some]
  rfl
end Go.Proofs.Ytdmhnjpblpfbfaa.U
namespace Go.Proofs.Ytdmhnjpblpfbfaa.Pure
open Go.RowKit Go.Proofs.Ytdmhnjpblpfbfaa.Q Go.Proofs.Ytdmhnjpblpfbfaa.U Go.Proofs.YtdmhnjpblpfbfaaW.PrintWords Go.Proofs.YtdmhnjpblpfbfaaW.PrintLast Go.Proofs.YtdmhnjpblpfbfaaW.PrintMore
theorem PlaceFewer : terrkeep5_PlaceFewer.Pure := by
  intro l a1 a2 _ _ _ _ _
  obtain ⟨g, n⟩ := wantsL_in l
  have hW := wantsL_eq l
  by_cases c : (wantsL l).length = 0
  · rw [List.eq_nil_of_length_eq_zero c] at hW
    exact few_none a1 a2 l hW
  · have h0 := Int.emod_nonneg a1 (show ((wantsL l).length : Int) ≠ 0 by omega)
    have h1 := Int.emod_lt_of_pos a1 (show 0 < ((wantsL l).length : Int) by omega)
    obtain ⟨i, hi⟩ : ∃ i : Nat, a1 % ((wantsL l).length : Int) = (i : Int) := ⟨(a1 % ((wantsL l).length : Int)).toNat, by omega⟩
    have hlt : i < (wantsL l).length := by omega
    have e : wantsL l = (wantsL l).take i ++ (wantsL l)[i] :: (wantsL l).drop (i + 1) := by
      rw [List.getElem_cons_drop, List.take_append_drop]
    have ei : ((wantsL l).take i).length = i := by rw [List.length_take]; omega
    revert hi n g
    rw [e] at hW
    intro g n hi
    exact few_mid (A := (wantsL l).take i) (B := (wantsL l).drop (i + 1)) (x := (wantsL l)[i]) a1 a2 (by rw [← e]; exact n) (by rw [← e]; exact g) (by rw [← e, ei]; exact hi) l hW
end Go.Proofs.Ytdmhnjpblpfbfaa.Pure
