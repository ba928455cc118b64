/- PlaceFar's pure statement: the law's function answers true for all lists. No condition. -/
import Derived.Test.YtdmhnjpblpfbfaaUPm
import Derived.Test.YtdmhnjpblpfbfaaUPx
import Derived.Test.YtdmhnjpblpfbfaaQPlaceFar
namespace Go.Proofs.Ytdmhnjpblpfbfaa.U
open Go.RowKit Go.Proofs.Ytdmhnjpblpfbfaa.Q Go.Proofs.YtdmhnjpblpfbfaaW.PrintWords Go.Proofs.YtdmhnjpblpfbfaaW.PrintLast Go.Proofs.YtdmhnjpblpfbfaaW.PrintMore
set_option linter.unusedSimpArgs false
set_option linter.unusedVariables false
theorem placed_ev : Ev (fun k => terrkeep5_placed.f k) true := ⟨30, by kernel_rfl⟩
theorem equal_loop (a : List Int) (ha : a.length ≤ 1000000) : ∀ d i, i + d = a.length → slices_Equal_int_int.l0 (d + 1) a a (a.length : Int) (i : Int) = some true
  | 0, i, hi => by rw [slices_Equal_int_int.l0, if_neg (by omega)]
  | d + 1, i, hi => by
    have w : wrap64 ((i : Int) + 1) = ((i + 1 : Nat) : Int) := by rw [wrap64_eq _ (by omega) (by omega)]; omega
    rw [slices_Equal_int_int.l0, if_pos (by omega), if_pos (by omega), if_pos (by omega), if_pos (by omega), if_pos rfl, w]
    exact equal_loop a ha d (i + 1) (by omega)
theorem equal_ev (a : List Int) (ha : a.length ≤ 1000000) : Ev (fun k => slices_Equal_int_int.f k a a) true :=
  ⟨a.length + 1, by simp only; unfold slices_Equal_int_int.f; rw [if_pos rfl]; exact equal_loop a ha a.length 0 (Nat.zero_add _)⟩
/-! ### labels far from one another -/
theorem row_iff (L : List S36) (p : List Int) (i : Nat) : ∀ e j, (rowB L p i e j = true ↔ ∀ q, j ≤ q → q < j + e → okB L p i q = true)
  | 0, j => ⟨fun _ q h1 h2 => by omega, fun _ => rfl⟩
  | e + 1, j => by
    rw [rowB, Bool.and_eq_true, row_iff L p i e (j + 1)]
    constructor
    · rintro ⟨h1, h2⟩ q a b
      by_cases c : q = j
      · rw [c]; exact h1
      · exact h2 q (by omega) (by omega)
    · intro h
      exact ⟨h j (by omega) (by omega), fun q a b => h q (by omega) (by omega)⟩
theorem all_iff (L : List S36) (p : List Int) : ∀ d i, (allB L p d i = true ↔ ∀ q, i ≤ q → q < i + d → ∀ j, j < q → okB L p q j = true)
  | 0, i => ⟨fun _ q h1 h2 => by omega, fun _ => rfl⟩
  | d + 1, i => by
    rw [allB, Bool.and_eq_true, all_iff L p d (i + 1), row_iff]
    constructor
    · rintro ⟨h1, h2⟩ q a b j hj
      by_cases c : q = i
      · subst c; exact h1 j (by omega) (by omega)
      · exact h2 q (by omega) (by omega) j hj
    · intro h
      exact ⟨fun q a b => h i (by omega) (by omega) q (by omega), fun q a b => h q (by omega) (by omega)⟩
/-- What a choice asks, in plain words. -/
def SelP (L : List S36) (p : List Int) : Prop := p.length = L.length ∧ InB L p ∧ ∀ i, i < p.length → ∀ j, j < i → okB L p i j = true
theorem sel_iff (L : List S36) (p : List Int) : Sel L p ↔ SelP L p := by
  unfold Sel SelP
  rw [all_iff]
  exact ⟨fun ⟨a, b, c⟩ => ⟨a, b, fun i hi => c i (by omega) (by omega)⟩, fun ⟨a, b, c⟩ => ⟨a, b, fun i _ hi => c i (by omega)⟩⟩
theorem rdT_left (A F : List S36) (i : Nat) (h : i < A.length) : rd_T36 (A ++ F) (i : Int) = rd_T36 A (i : Int) := by
  unfold rd_T36; simp [List.getD_eq_getElem?_getD, List.getElem?_append_left h]
theorem rdT_right (A F : List S36) (j : Nat) : rd_T36 (A ++ F) ((A.length + j : Nat) : Int) = rd_T36 F (j : Int) := by
  unfold rd_T36; rw [Int.toNat_natCast, Int.toNat_natCast]; simp [List.getD_eq_getElem?_getD, List.getElem?_append_right (Nat.le_add_right _ _)]
theorem rd_right (a b : List Int) (j : Nat) : rd (a ++ b) ((a.length + j : Nat) : Int) = rd b (j : Int) := by
  unfold rd; rw [Int.toNat_natCast, Int.toNat_natCast]; simp [List.getD_eq_getElem?_getD, List.getElem?_append_right (Nat.le_add_right _ _)]
theorem rdT_42 {B : List S42} {k : Int} (h0 : 0 ≤ k) (h1 : k < (B.length : Int)) : rd_T42 B k ∈ B := by
  have e : k = ((k.toNat : Nat) : Int) := by omega
  rw [e]; exact mem_rd42 (by omega)
/-- No box of A's labels meets one of F's. -/
def Apart (A F : List S36) : Prop := (∀ x, x ∈ A → ∀ b, b ∈ x.f1 → b.f1.f0 ≤ 90) ∧ ∀ x, x ∈ F → ∀ b, b ∈ x.f1 → 500 ≤ b.f0.f0
theorem sel_cat {A F : List S36} (h : Apart A F) (p q : List Int) (hp : p.length = A.length) : Sel (A ++ F) (p ++ q) ↔ Sel A p ∧ Sel F q := by
  rw [sel_iff, sel_iff, sel_iff]
  have okl : ∀ i j, i < p.length → j < i → okB (A ++ F) (p ++ q) i j = okB A p i j := by
    intro i j hi hj
    unfold okB
    rw [rdT_left A F i (by omega), rdT_left A F j (by omega), rd_left p q i hi, rd_left p q j (by omega)]
  have okr : ∀ i j, okB (A ++ F) (p ++ q) (p.length + i) (p.length + j) = okB F q i j := by
    intro i j
    unfold okB
    rw [rd_right, rd_right, hp, rdT_right, rdT_right]
  have inl : ∀ i, i < p.length → (nbL (A ++ F) i = nbL A i) := fun i hi => by unfold nbL; rw [rdT_left A F i (by omega)]
  have inr : ∀ i, nbL (A ++ F) (p.length + i) = nbL F i := fun i => by unfold nbL; rw [hp, rdT_right]
  constructor
  · rintro ⟨h1, h2, h3⟩
    rw [List.length_append, List.length_append] at h1
    refine ⟨⟨hp, fun i hi => ?_, fun i hi j hj => ?_⟩, ⟨by omega, fun i hi => ?_, fun i hi j hj => ?_⟩⟩
    · have := h2 i (by rw [List.length_append]; omega)
      rw [inl i hi, rd_left p q i hi] at this; exact this
    · have := h3 i (by rw [List.length_append]; omega) j hj
      rw [okl i j hi hj] at this; exact this
    · have := h2 (p.length + i) (by rw [List.length_append]; omega)
      rw [inr, rd_right] at this; exact this
    · have := h3 (p.length + i) (by rw [List.length_append]; omega) (p.length + j) (by omega)
      rw [okr] at this; exact this
  · rintro ⟨⟨h1, h2, h3⟩, ⟨g1, g2, g3⟩⟩
    refine ⟨by rw [List.length_append, List.length_append]; omega, fun i hi => ?_, fun i hi j hj => ?_⟩
    · rw [List.length_append] at hi
      by_cases c : i < p.length
      · rw [inl i c, rd_left p q i c]; exact h2 i c
      · obtain ⟨i', rfl⟩ : ∃ i', i = p.length + i' := ⟨i - p.length, by omega⟩
        rw [inr, rd_right]; exact g2 i' (by omega)
    · rw [List.length_append] at hi
      by_cases c : i < p.length
      · rw [okl i j c hj]; exact h3 i c j hj
      · obtain ⟨i', rfl⟩ : ∃ i', i = p.length + i' := ⟨i - p.length, by omega⟩
        by_cases d : j < p.length
        · have e1 : rd (p ++ q) ((p.length + i' : Nat) : Int) = rd q (i' : Int) := rd_right p q i'
          have e2 : rd (p ++ q) (j : Int) = rd p (j : Int) := rd_left p q j d
          have e3 : rd_T36 (A ++ F) ((p.length + i' : Nat) : Int) = rd_T36 F (i' : Int) := by rw [hp]; exact rdT_right A F i'
          have e4 : rd_T36 (A ++ F) (j : Int) = rd_T36 A (j : Int) := rdT_left A F j (by omega)
          unfold okB
          rw [e1, e2, e3, e4]
          by_cases c1 : rd q (i' : Int) < 0
          · rw [decide_eq_true c1]; rfl
          · by_cases c2 : rd p (j : Int) < 0
            · rw [decide_eq_true c2, Bool.true_or, Bool.or_true]
            · have b1 := g2 i' (by omega)
              have b2 := h2 j d
              unfold nbL at b1 b2
              have m1 := h.2 _ (mem_rd (show i' < F.length by omega)) _ (rdT_42 (by omega) b1.2)
              have m2 := h.1 _ (mem_rd (show j < A.length by omega)) _ (rdT_42 (by omega) b2.2)
              have : ¬ meetB (rd_T42 (rd_T36 F (i' : Int)).f1 (rd q (i' : Int))).f0.f0 (rd_T42 (rd_T36 F (i' : Int)).f1 (rd q (i' : Int))).f0.f1 (rd_T42 (rd_T36 F (i' : Int)).f1 (rd q (i' : Int))).f1.f0 (rd_T42 (rd_T36 F (i' : Int)).f1 (rd q (i' : Int))).f1.f1 (rd_T42 (rd_T36 A (j : Int)).f1 (rd p (j : Int))).f0.f0 (rd_T42 (rd_T36 A (j : Int)).f1 (rd p (j : Int))).f0.f1 (rd_T42 (rd_T36 A (j : Int)).f1 (rd p (j : Int))).f1.f0 (rd_T42 (rd_T36 A (j : Int)).f1 (rd p (j : Int))).f1.f1 = true := fun hm => by
                have := ((meet_iff _ _ _ _ _ _ _ _).1 hm).2.2.1
                omega
              rw [Bool.eq_false_iff.mpr this, Bool.not_false, Bool.or_true, Bool.or_true]
        · obtain ⟨j', rfl⟩ : ∃ j', j = p.length + j' := ⟨j - p.length, by omega⟩
          rw [okr]; exact g3 i' (by omega) j' (by omega)
theorem val_shift (f g : Nat → Int) (m : Nat) : ∀ (q : List Int) (i : Nat), (∀ j, j < q.length → f (m + (i + j)) = g (i + j)) → P.val f (m + i) q = P.val g i q
  | [], _, _ => rfl
  | k :: q, i, h => by
    have h0 := h 0 (by simp)
    rw [Nat.add_zero] at h0
    rw [P.val, P.val, P.wgt, P.wgt, h0, show m + i + 1 = m + (i + 1) by omega, val_shift f g m q (i + 1) (fun j hj => by
      have := h (j + 1) (by simpa using hj)
      rw [show i + (j + 1) = i + 1 + j by omega] at this; exact this)]
theorem val_cat (A F : List S36) (p q : List Int) (hp : p.length = A.length) : valL (A ++ F) (p ++ q) = valL A p + valL F q := by
  unfold valL
  rw [P.val_append, Nat.zero_add]
  have e1 : P.val (wgL (A ++ F)) 0 p = P.val (wgL A) 0 p := by
    have key : ∀ (p : List Int) (i : Nat), i + p.length ≤ A.length → P.val (wgL (A ++ F)) i p = P.val (wgL A) i p := by
      intro p
      induction p with
      | nil => intro _ _; rfl
      | cons k p ih =>
        intro i hi
        rw [List.length_cons] at hi
        rw [P.val, P.val, ih (i + 1) (by omega), P.wgt, P.wgt]
        have : wgL (A ++ F) i = wgL A i := by unfold wgL; rw [rdT_left A F i (by omega)]
        rw [this]
    exact key p 0 (by omega)
  have e2 := val_shift (wgL (A ++ F)) (wgL F) p.length q 0 (fun j _ => by unfold wgL; rw [Nat.zero_add, hp, rdT_right])
  rw [Nat.add_zero] at e2
  rw [e1, e2]
/-- The best choice of both together. -/
theorem best_cat {A F : List S36} (h : Apart A F) (hA : Chk A) (hF : Chk F) (hAF : Chk (A ++ F)) : bestL (A ++ F) = ((bestL A).1 ++ (bestL F).1, (bestL A).2 + (bestL F).2) := by
  obtain ⟨a1, a2, a3⟩ := best_spec hA
  obtain ⟨f1, f2, f3⟩ := best_spec hF
  refine P.Bst_uniq (best_bst hAF) (.inr ⟨(bestL A).1 ++ (bestL F).1, (sel_cat h _ _ a1.1).2 ⟨a1, f1⟩, by rw [val_cat A F _ _ a1.1, a2, f2], ?_, ?_⟩)
  · rw [val_cat A F _ _ a1.1]
    have h1 := (val_bd hA _ (by rw [a1.1]; exact Nat.le_refl _)).1
    have h2 := (val_bd hF _ (by rw [f1.1]; exact Nat.le_refl _)).1
    show (-1 : Int) < _
    omega
  · intro t ht
    have hl : t.length = A.length + F.length := by rw [ht.1, List.length_append]
    have e : t = t.take A.length ++ t.drop A.length := (List.take_append_drop _ _).symm
    have hp : (t.take A.length).length = A.length := by rw [List.length_take]; omega
    rw [e] at ht ⊢
    obtain ⟨s1, s2⟩ := (sel_cat h _ _ hp).1 ht
    rw [val_cat A F _ _ hp, val_cat A F _ _ a1.1, a2, f2]
    rcases a3 _ s1 with q | ⟨q, q'⟩
    · rcases f3 _ s2 with r | ⟨r, r'⟩ <;> (left; omega)
    · rcases f3 _ s2 with r | ⟨r, r'⟩
      · left; omega
      · right
        refine ⟨by omega, fun hx => ?_⟩
        rcases P.lexlt_tri (t.take A.length) (bestL A).1 with z | z | z
        · exact q' z
        · rw [z, P.lexlt_append] at hx; exact r' hx
        · have key : ∀ (x y u v : List Int), x.length = y.length → P.lexlt y x → ¬ P.lexlt (x ++ u) (y ++ v) := by
            intro x
            induction x with
            | nil => intro y u v hl hlt; cases y <;> simp [P.lexlt] at hlt
            | cons a x ih =>
              intro y u v hl hlt hxx
              match y, hl, hlt, hxx with
              | b :: y, hl, hlt, hxx =>
                rcases hlt with hlt | ⟨hlt, hlt2⟩ <;> rcases hxx with hxx | ⟨hxx, hxx2⟩
                · omega
                · omega
                · omega
                · exact ih y u v (by simpa using hl) hlt2 hxx2
          exact key _ _ _ _ (by rw [hp, a1.1]) z hx
/-! ### labels that are moved -/
def shiftB (b : S42) : S42 := ⟨⟨b.f0.f0 + 500, b.f0.f1⟩, ⟨b.f1.f0 + 500, b.f1.f1⟩⟩
def farW (x : S36) : S36 := ⟨z33, x.f1.map shiftB, x.f2⟩
theorem rdT_map (B : List S36) (i : Nat) (h : i < B.length) : rd_T36 (B.map farW) (i : Int) = farW (rd_T36 B (i : Int)) := by
  unfold rd_T36; simp [List.getD, h]
theorem rd42_map (B : List S42) (k : Int) (h0 : 0 ≤ k) (h1 : k < (B.length : Int)) : rd_T42 (B.map shiftB) k = shiftB (rd_T42 B k) := by
  have : k.toNat < B.length := by omega
  unfold rd_T42; simp [List.getD, this]
theorem meet_shift (a b : S42) : meetB (shiftB a).f0.f0 (shiftB a).f0.f1 (shiftB a).f1.f0 (shiftB a).f1.f1 (shiftB b).f0.f0 (shiftB b).f0.f1 (shiftB b).f1.f0 (shiftB b).f1.f1 = meetB a.f0.f0 a.f0.f1 a.f1.f0 a.f1.f1 b.f0.f0 b.f0.f1 b.f1.f0 b.f1.f1 := by
  rw [Bool.eq_iff_iff, meet_iff, meet_iff]
  unfold shiftB
  simp only
  constructor <;> (rintro ⟨⟨h1, h2⟩, ⟨h3, h4⟩, h5, h6, h7, h8⟩; exact ⟨⟨by omega, h2⟩, ⟨by omega, h4⟩, by omega, by omega, h7, h8⟩)
theorem sel_far (B : List S36) (p : List Int) : Sel (B.map farW) p ↔ Sel B p := by
  rw [sel_iff, sel_iff]
  have hn : ∀ i, i < B.length → nbL (B.map farW) i = nbL B i := fun i hi => by unfold nbL; rw [rdT_map B i hi, farW]; simp
  have hin : p.length = B.length → (InB (B.map farW) p ↔ InB B p) := fun hl => by
    constructor <;> (intro h i hi; have := h i hi; rw [hn i (by omega)] at *; exact this)
  have hok : p.length = B.length → InB B p → ∀ i j, i < p.length → j < i → okB (B.map farW) p i j = okB B p i j := by
    intro hl h i j hi hj
    unfold okB
    by_cases c1 : rd p (i : Int) < 0
    · rw [decide_eq_true c1]; rfl
    · by_cases c2 : rd p (j : Int) < 0
      · rw [decide_eq_true c2, Bool.true_or, Bool.true_or]
      · have b1 := (h i hi).2
        have b2 := (h j (by omega)).2
        unfold nbL at b1 b2
        rw [rdT_map B i (by omega), rdT_map B j (by omega)]
        have e1 : rd_T42 (farW (rd_T36 B (i : Int))).f1 (rd p (i : Int)) = shiftB (rd_T42 (rd_T36 B (i : Int)).f1 (rd p (i : Int))) := rd42_map _ _ (by omega) b1
        have e2 : rd_T42 (farW (rd_T36 B (j : Int))).f1 (rd p (j : Int)) = shiftB (rd_T42 (rd_T36 B (j : Int)).f1 (rd p (j : Int))) := rd42_map _ _ (by omega) b2
        rw [e1, e2, meet_shift]
  unfold SelP
  rw [List.length_map]
  constructor
  · rintro ⟨h1, h2, h3⟩
    have h2' := (hin h1).1 h2
    exact ⟨h1, h2', fun i hi j hj => by rw [← hok h1 h2' i j hi hj]; exact h3 i hi j hj⟩
  · rintro ⟨h1, h2, h3⟩
    exact ⟨h1, (hin h1).2 h2, fun i hi j hj => by rw [hok h1 h2 i j hi hj]; exact h3 i hi j hj⟩
theorem wgL_far (B : List S36) (i : Nat) : wgL (B.map farW) i = wgL B i := by
  by_cases c : i < B.length
  · unfold wgL; rw [rdT_map B i c]; rfl
  · have e1 : rd_T36 (B.map farW) (i : Int) = z36 := by unfold rd_T36; simp [List.getD, Nat.le_of_not_lt c]
    have e2 : rd_T36 B (i : Int) = z36 := by unfold rd_T36; simp [List.getD, Nat.le_of_not_lt c]
    unfold wgL; rw [e1, e2]
theorem val_far (B : List S36) (p : List Int) : valL (B.map farW) p = valL B p := by
  unfold valL; rw [show wgL (B.map farW) = wgL B from funext (wgL_far B)]
theorem best_far {B : List S36} (hB : Chk B) (hF : Chk (B.map farW)) : bestL (B.map farW) = bestL B := by
  refine P.Bst_uniq (P.Bst_congr (best_bst hF) (sel_far B)) ?_
  rw [show valL (B.map farW) = valL B from funext (val_far B)]
  exact best_bst hB
/-! ### Concat -/
theorem cat36 (x y : List S36) (hx : x.length ≤ 100) (hy : y.length ≤ 100) : place_Want_19.f 7 [x, y] = some (x ++ y) := by
  have e0 : rd_L105 [x, y] 0 = x := rfl
  have e1 : rd_L105 [x, y] 1 = y := rfl
  have w0 : wrap64 (0 + (x.length : Int)) = (x.length : Int) := by rw [wrap64_eq] <;> omega
  have w1 : wrap64 ((x.length : Int) + (y.length : Int)) = (x.length : Int) + (y.length : Int) := by rw [wrap64_eq] <;> omega
  have w2 : wrap64 (0 + 1) = 1 := by rw [wrap64_eq] <;> omega
  have w3 : wrap64 (1 + 1) = 2 := by rw [wrap64_eq] <;> omega
  have b1 : ([] : List S36).length + x.length < 1353245080339 := Nat.lt_of_le_of_lt (show _ ≤ 200 by simp; omega) (by decide)
  have b2 : x.length + y.length < 1353245080339 := Nat.lt_of_le_of_lt (show _ ≤ 200 by omega) (by decide)
  unfold place_Want_19.f
  rw [place_Want_19.l0, if_pos (by simp), if_pos (by omega), if_pos (by simp), e0, w0, if_neg (by omega), w2, place_Want_19.l0, if_pos (by simp), if_pos (by omega), if_pos (by simp), e1, w1, if_neg (by omega), w3, place_Want_19.l0, if_neg (by simp), if_pos ⟨by omega, by omega⟩,
    place_Want_19.l1, if_pos (by simp), if_pos (by omega), if_pos (by simp), e0, if_pos b1, w2, List.nil_append, place_Want_19.l1, if_pos (by simp), if_pos (by omega), if_pos (by simp), e1, if_pos b2, w3, place_Want_19.l1, if_neg (by simp)]
theorem catint (x y : List Int) (hx : x.length ≤ 100) (hy : y.length ≤ 100) : slices_Concat_int_int.f 7 [x, y] = some (x ++ y) := by
  have e0 : rd_L1 [x, y] 0 = x := rfl
  have e1 : rd_L1 [x, y] 1 = y := rfl
  have w0 : wrap64 (0 + (x.length : Int)) = (x.length : Int) := by rw [wrap64_eq] <;> omega
  have w1 : wrap64 ((x.length : Int) + (y.length : Int)) = (x.length : Int) + (y.length : Int) := by rw [wrap64_eq] <;> omega
  have w2 : wrap64 (0 + 1) = 1 := by rw [wrap64_eq] <;> omega
  have w3 : wrap64 (1 + 1) = 2 := by rw [wrap64_eq] <;> omega
  have b1 : ([] : List Int).length + x.length < 17592186044416 := Nat.lt_of_le_of_lt (show _ ≤ 200 by simp; omega) (by decide)
  have b2 : x.length + y.length < 17592186044416 := Nat.lt_of_le_of_lt (show _ ≤ 200 by omega) (by decide)
  unfold slices_Concat_int_int.f
  rw [slices_Concat_int_int.l0, if_pos (by simp), if_pos (by omega), if_pos (by simp), e0, w0, if_neg (by omega), w2, slices_Concat_int_int.l0, if_pos (by simp), if_pos (by omega), if_pos (by simp), e1, w1, if_neg (by omega), w3, slices_Concat_int_int.l0, if_neg (by simp), if_pos ⟨by omega, by omega⟩,
    slices_Concat_int_int.l1, if_pos (by simp), if_pos (by omega), if_pos (by simp), e0, if_pos b1, w2, List.nil_append, slices_Concat_int_int.l1, if_pos (by simp), if_pos (by omega), if_pos (by simp), e1, if_pos b2, w3, slices_Concat_int_int.l1, if_neg (by simp)]
/-! ### the loops -/
theorem far_inner {A B x7 : List S36} {i : Nat} {r : Bool} (hB : B.length ≤ 10) (hi : i < B.length) (h7 : x7.length ≤ 10) (D : List S42) (hD : ∀ b, b ∈ D → Near0 b) (hDl : D.length ≤ 5) (wt : Int)
    (hn : ∃ k0, ∀ k, k0 ≤ k → PFar.l0 k A B (x7 ++ [⟨z33, D.map shiftB, wt⟩]) B (B.length : Int) ((i + 1 : Nat) : Int) = some r) :
    ∀ e q, q + e = D.length → ∃ k0, ∀ k, k0 ≤ k → PFar.l1 k A B x7 B (B.length : Int) (i : Int) D (D.length : Int) (q : Int) 0 0 0 0 (⟨#[]⟩ : ByteArray) ((D.take q).map shiftB) wt = some r
  | 0, q, hq => by
    obtain ⟨k0, h⟩ := hn
    refine ⟨k0 + 1, fun k hk => ?_⟩
    obtain ⟨k, rfl⟩ : ∃ k', k = k' + 1 := ⟨k - 1, by omega⟩
    have w : wrap64 ((i : Int) + 1) = ((i + 1 : Nat) : Int) := by rw [wrap64_eq _ (by omega) (by omega)]; omega
    rw [PFar.l1, if_neg (by omega), if_pos (Nat.lt_of_le_of_lt h7 (by decide)), w, List.take_of_length_le (by omega)]
    exact h k (by omega)
  | e + 1, q, hq => by
    obtain ⟨k0, h⟩ := far_inner hB hi h7 D hD hDl wt hn e (q + 1) (by omega)
    refine ⟨k0 + 1, fun k hk => ?_⟩
    obtain ⟨k, rfl⟩ : ∃ k', k = k' + 1 := ⟨k - 1, by omega⟩
    have w : wrap64 ((q : Int) + 1) = ((q + 1 : Nat) : Int) := by rw [wrap64_eq _ (by omega) (by omega)]; omega
    have hlt : q < D.length := by omega
    have hb := hD _ (mem_rd42 hlt)
    unfold Near0 at hb
    have w1 : wrap64 ((rd_T42 D (q : Int)).f0.f0 + 500) = (rd_T42 D (q : Int)).f0.f0 + 500 := by rw [wrap64_eq] <;> omega
    have w2 : wrap64 ((rd_T42 D (q : Int)).f1.f0 + 500) = (rd_T42 D (q : Int)).f1.f0 + 500 := by rw [wrap64_eq] <;> omega
    have hl : ((D.take q).map shiftB).length < 4398046511104 := Nat.lt_of_le_of_lt (show _ ≤ 5 by rw [List.length_map, List.length_take]; omega) (by decide)
    have eg : D[q] = rd_T42 D (q : Int) := by unfold rd_T42; simp [List.getD, hlt]
    have et : (D.take q).map shiftB ++ [(⟨⟨(rd_T42 D (q : Int)).f0.f0 + 500, (rd_T42 D (q : Int)).f0.f1⟩, ⟨(rd_T42 D (q : Int)).f1.f0 + 500, (rd_T42 D (q : Int)).f1.f1⟩⟩ : S42)] = (D.take (q + 1)).map shiftB := by
      rw [List.take_succ_eq_append_getElem hlt, List.map_append, eg]; rfl
    rw [PFar.l1, if_pos (by omega), if_pos (by omega), if_pos (by omega), if_pos hl, w, w1, w2, et]
    exact h k (by omega)
theorem far_outer {A B : List S36} (hA : ∀ x, x ∈ A → GN x) (hB : ∀ x, x ∈ B → GN x) (lA : A.length ≤ 5) (lB : B.length ≤ 5) : ∀ d i, i + d = B.length → ∃ k0, ∀ k, k0 ≤ k → PFar.l0 k A B ((B.take i).map farW) B (B.length : Int) (i : Int) = some true
  | 0, i, hi => by
    have hF : ∀ x, x ∈ B.map farW → GW x ∧ ∀ b, b ∈ x.f1 → 500 ≤ b.f0.f0 := by
      intro x hx
      obtain ⟨y, hy, rfl⟩ := List.mem_map.1 hx
      obtain ⟨g1, g2, g3, g4⟩ := hB y hy
      refine ⟨⟨by show (y.f1.map shiftB).length ≤ 5; rw [List.length_map]; omega, fun b hb => ?_, g3, by show y.f2 ≤ 1000; omega⟩, fun b hb => ?_⟩
      · obtain ⟨c, hc, rfl⟩ := List.mem_map.1 hb
        have := g2 c hc
        unfold Near0 at this; unfold GB shiftB; simp only; omega
      · obtain ⟨c, hc, rfl⟩ := List.mem_map.1 hb
        have := g2 c hc
        unfold Near0 at this; unfold shiftB; simp only; omega
    have lF : (B.map farW).length ≤ 5 := by rw [List.length_map]; exact lB
    obtain ⟨ka, ca⟩ := check_zero (L := A) (by omega) (fun x hx => gn_gw (hA x hx))
    obtain ⟨kb, cb⟩ := check_zero (L := B) (by omega) (fun x hx => gn_gw (hB x hx))
    obtain ⟨kf, cf⟩ := check_zero (L := B.map farW) (by omega) (fun x hx => (hF x hx).1)
    obtain ⟨kc, cc⟩ := check_zero (L := A ++ B.map farW) (by rw [List.length_append]; omega) (fun x hx => by
      rcases List.mem_append.1 hx with h | h
      · exact gn_gw (hA x h)
      · exact (hF x h).1)
    simp only at ca cb cf cc
    have hap : Apart A (B.map farW) := ⟨fun x hx b hb => ((hA x hx).2.1 b hb).2.2.1, fun x hx => (hF x hx).2⟩
    have hb := best_cat hap (check_ok ca) (check_ok cf) (check_ok cc)
    rw [best_far (check_ok cb) (check_ok cf)] at hb
    obtain ⟨a1, a2, a3⟩ := best_spec (check_ok ca)
    obtain ⟨f1, f2, f3⟩ := best_spec (check_ok cb)
    have v1 := val_bd (check_ok ca) _ (by rw [a1.1]; exact Nat.le_refl _)
    have v2 := val_bd (check_ok cb) _ (by rw [f1.1]; exact Nat.le_refl _)
    rw [a2] at v1
    rw [f2] at v2
    have w : wrap64 ((bestL A).2 + (bestL B).2) = (bestL A).2 + (bestL B).2 := by rw [wrap64_eq] <;> omega
    obtain ⟨ke, ce⟩ := equal_ev ((bestL A).1 ++ (bestL B).1) (by rw [List.length_append, a1.1, f1.1]; omega)
    simp only at ce
    refine ⟨ka + kb + kc + ke + 8, fun k hk => ?_⟩
    obtain ⟨k, rfl⟩ : ∃ k', k = k' + 1 := ⟨k - 1, by omega⟩
    have q1 : place_Best.f k A = some ((bestL A).1, (bestL A).2, 0) := by unfold place_Best.f; rw [up (place_Check.mono A) (by omega : ka ≤ k) ca, Option.bind_some, if_pos rfl]; rfl
    have q2 : place_Best.f k B = some ((bestL B).1, (bestL B).2, 0) := by unfold place_Best.f; rw [up (place_Check.mono B) (by omega : kb ≤ k) cb, Option.bind_some, if_pos rfl]; rfl
    have q3 : place_Best.f k (A ++ B.map farW) = some ((bestL A).1 ++ (bestL B).1, (bestL A).2 + (bestL B).2, 0) := by
      unfold place_Best.f
      rw [up (place_Check.mono _) (by omega : kc ≤ k) cc, Option.bind_some, if_pos rfl]
      have e : srch (A ++ B.map farW) (restG (A ++ B.map farW) 0) (A ++ B.map farW).length [] 0 ([], -1) = bestL (A ++ B.map farW) := rfl
      rw [e, hb]
    rw [PFar.l0, if_neg (by omega), List.take_of_length_le (by omega), q1, Option.bind_some, q2, Option.bind_some, up (place_Want_19.mono _) (by omega : 7 ≤ k) (cat36 A (B.map farW) (by omega) (by omega)), Option.bind_some, q3, Option.bind_some, if_pos rfl, if_pos rfl, if_pos rfl]
    simp only
    rw [if_pos w.symm, up (slices_Concat_int_int.mono _) (by omega : 7 ≤ k) (catint (bestL A).1 (bestL B).1 (by rw [a1.1]; omega) (by rw [f1.1]; omega)), Option.bind_some, up (slices_Equal_int_int.mono _ _) (by omega : ke ≤ k) ce, Option.bind_some]
  | d + 1, i, hi => by
    have hlt : i < B.length := by omega
    have ih := far_outer hA hB lA lB d (i + 1) (by omega)
    have eg : B[i] = rd_T36 B (i : Int) := by unfold rd_T36; simp [List.getD, hlt]
    have et : (B.take (i + 1)).map farW = (B.take i).map farW ++ [⟨z33, (rd_T36 B (i : Int)).f1.map shiftB, (rd_T36 B (i : Int)).f2⟩] := by
      rw [List.take_succ_eq_append_getElem hlt, List.map_append, eg]; rfl
    rw [et] at ih
    obtain ⟨g1, g2, g3, g4⟩ := hB _ (mem_rd hlt)
    obtain ⟨k0, h⟩ := far_inner (x7 := (B.take i).map farW) (by omega) hlt (by rw [List.length_map, List.length_take]; omega) _ g2 (by omega) _ ih _ 0 (Nat.zero_add _)
    refine ⟨k0 + 1, fun k hk => ?_⟩
    obtain ⟨k, rfl⟩ : ∃ k', k = k' + 1 := ⟨k - 1, by omega⟩
    rw [PFar.l0, if_pos (by omega), if_pos (by omega), if_pos (by omega)]
    exact h k (by omega)
end Go.Proofs.Ytdmhnjpblpfbfaa.U
namespace Go.Proofs.Ytdmhnjpblpfbfaa.Pure
open Go.RowKit Go.Proofs.Ytdmhnjpblpfbfaa.Q Go.Proofs.Ytdmhnjpblpfbfaa.U Go.Proofs.YtdmhnjpblpfbfaaW.PrintWords Go.Proofs.YtdmhnjpblpfbfaaW.PrintLast Go.Proofs.YtdmhnjpblpfbfaaW.PrintMore
theorem PlaceFar : PFar.Pure := by
  intro l m _ _ _ _ _ _
  obtain ⟨k0, h0⟩ := placed_ev
  obtain ⟨a1, a2⟩ := wantsL_in l
  obtain ⟨b1, b2⟩ := wantsL_in m
  simp only at h0
  have tk : ∀ L : List S36, 0 ≤ mn (L.length : Int) 5 ∧ mn (L.length : Int) 5 ≤ (L.length : Int) ∧ (mn (L.length : Int) 5).toNat ≤ 5 := fun L => by unfold mn; split <;> omega
  obtain ⟨u1, u2, u3⟩ := tk (wantsL l)
  obtain ⟨v1, v2, v3⟩ := tk (wantsL m)
  obtain ⟨k1, h1⟩ := far_outer (A := (wantsL l).take (mn ((wantsL l).length : Int) 5).toNat) (B := (wantsL m).take (mn ((wantsL m).length : Int) 5).toNat) (fun x hx => a1 x (List.mem_of_mem_take hx)) (fun x hx => b1 x (List.mem_of_mem_take hx))
    (by rw [List.length_take]; omega) (by rw [List.length_take]; omega) _ 0 (Nat.zero_add _)
  refine ⟨k0 + k1, ?_⟩
  unfold PFar.f
  rw [up terrkeep5_placed.mono (by omega : k0 ≤ k0 + k1) h0, Option.bind_some, if_pos rfl, wantsL_eq, Option.bind_some, wantsL_eq, Option.bind_some, if_pos u1, if_pos u2, if_pos v1, if_pos v2, Option.bind_some]
  exact h1 _ (by omega)
end Go.Proofs.Ytdmhnjpblpfbfaa.Pure
