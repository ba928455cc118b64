/- Plain facts on labels: the search gives the best choice. Conditions: stated at each. -/
import Derived.Test.YtdmhnjpblpfbfaaUPa
import Derived.Test.YtdmhnjpblpfbfaaQf17
import Derived.Test.YtdmhnjpblpfbfaaQf22
namespace Go.Proofs.Ytdmhnjpblpfbfaa.U
open Go.RowKit Go.Proofs.Ytdmhnjpblpfbfaa.Q Go.Proofs.YtdmhnjpblpfbfaaW.PrintWords Go.Proofs.YtdmhnjpblpfbfaaW.PrintLast Go.Proofs.YtdmhnjpblpfbfaaW.PrintMore
set_option linter.unusedSimpArgs false
set_option linter.unusedVariables false

/-- Some fuel is enough. -/
def Ev {α : Type} (g : Nat → Option α) (r : α) : Prop := ∃ k, g k = some r
theorem up {α : Type} {g : Nat → Option α} {r : α} (hm : ∀ k, LeO (g k) (g (k + 1))) {a b : Nat} (h : a ≤ b) (e : g a = some r) : g b = some r := by
  induction b with
  | zero => rw [show a = 0 by omega] at e; exact e
  | succ b ih =>
    by_cases c : a = b + 1
    · rw [← c]; exact e
    · exact hm b r (ih (by omega))
theorem ev2 {α β : Type} {g : Nat → Option α} {f : Nat → Option β} {r : α} {s : β} (hg : ∀ k, LeO (g k) (g (k + 1))) (hf : ∀ k, LeO (f k) (f (k + 1))) (h1 : Ev g r) (h2 : Ev f s) : ∃ k, g k = some r ∧ f k = some s := by
  obtain ⟨a, ha⟩ := h1
  obtain ⟨b, hb⟩ := h2
  exact ⟨max a b, up hg (Nat.le_max_left _ _) ha, up hf (Nat.le_max_right _ _) hb⟩
/-! ### boxes -/
theorem limit_eq (x : Int) : point_limit.f x 1048576 = some (mx (-1048576) (mn x 1048576)) := by
  unfold point_limit.f
  rw [wrap64_eq (-1048576) (by omega) (by omega)]
theorem meet_iff (a0 a1 a2 a3 b0 b1 b2 b3 : Int) : meetB a0 a1 a2 a3 b0 b1 b2 b3 = true ↔ (a0 ≤ a2 ∧ a1 ≤ a3) ∧ (b0 ≤ b2 ∧ b1 ≤ b3) ∧ a0 ≤ b2 ∧ b0 ≤ a2 ∧ a1 ≤ b3 ∧ b1 ≤ a3 := by
  unfold meetB hasB mx
  rw [Bool.and_eq_true, decide_eq_true_iff, decide_eq_true_iff]
  constructor
  · intro h; split at h <;> split at h <;> omega
  · intro h; split <;> split <;> omega
def nbL (L : List S36) (i : Nat) : Nat := (rd_T36 L (i : Int)).f1.length
def wgL (L : List S36) (i : Nat) : Int := (rd_T36 L (i : Int)).f2
/-! ### possible -/
/-- May the i-th and the j-th pick stand together? -/
def okB (L : List S36) (p : List Int) (i j : Nat) : Bool := decide (rd p (i : Int) < 0) || (decide (rd p (j : Int) < 0) || !(meetB (rd_T42 (rd_T36 L (i : Int)).f1 (rd p (i : Int))).f0.f0 (rd_T42 (rd_T36 L (i : Int)).f1 (rd p (i : Int))).f0.f1 (rd_T42 (rd_T36 L (i : Int)).f1 (rd p (i : Int))).f1.f0 (rd_T42 (rd_T36 L (i : Int)).f1 (rd p (i : Int))).f1.f1
  (rd_T42 (rd_T36 L (j : Int)).f1 (rd p (j : Int))).f0.f0 (rd_T42 (rd_T36 L (j : Int)).f1 (rd p (j : Int))).f0.f1 (rd_T42 (rd_T36 L (j : Int)).f1 (rd p (j : Int))).f1.f0 (rd_T42 (rd_T36 L (j : Int)).f1 (rd p (j : Int))).f1.f1))
def rowB (L : List S36) (p : List Int) (i : Nat) : Nat → Nat → Bool
  | 0, _ => true
  | e + 1, j => okB L p i j && rowB L p i e (j + 1)
def allB (L : List S36) (p : List Int) : Nat → Nat → Bool
  | 0, _ => true
  | d + 1, i => rowB L p i i 0 && allB L p d (i + 1)
/-- Each pick is -1 or a box that there is. -/
def InB (L : List S36) (p : List Int) : Prop := ∀ i, i < p.length → -1 ≤ rd p (i : Int) ∧ rd p (i : Int) < (nbL L i : Int)
theorem rd_take (p : List Int) (i j : Nat) (h : j < i) (hi : i ≤ p.length) : rd (p.take i) (j : Int) = rd p (j : Int) := by
  unfold rd
  simp [List.getD_eq_getElem?_getD, List.getElem?_take, h]
theorem limit_in {x : Int} (h0 : -1048576 ≤ x) (h1 : x ≤ 1048576) : point_limit.f x 1048576 = some x := by
  have e : mn x 1048576 = x := by unfold mn; split <;> omega
  have e2 : mx (-1048576) x = x := by unfold mx; split <;> omega
  rw [limit_eq, e, e2]
theorem ok_in {x y : Int} (h0 : -1048576 ≤ x) (h1 : x ≤ 1048576) (h2 : -1048576 ≤ y) (h3 : y ≤ 1048576) : point_Ok.f x y = some true := by
  unfold point_Ok.f point_Clamp.f
  rw [limit_in h0 h1, limit_in h2 h3, Option.bind_some, Option.bind_some, Option.bind_some]
  simp
theorem rd_cons (x : Int) (l : List Int) (i : Nat) : rd (x :: l) ((i + 1 : Nat) : Int) = rd l (i : Int) := by unfold rd; simp [List.getD]
theorem rd_zero (x : Int) (l : List Int) : rd (x :: l) 0 = x := rfl
theorem rd_append (a : List Int) (x : Int) (b : List Int) : rd (a ++ x :: b) (a.length : Int) = x := by unfold rd; simp [List.getD]
theorem rd_left (a b : List Int) (i : Nat) (h : i < a.length) : rd (a ++ b) (i : Int) = rd a (i : Int) := by unfold rd; simp [List.getD_eq_getElem?_getD, List.getElem?_append_left h]
/-- Out of what a label's picks are made. -/
theorem in_rng {L : List S36} : ∀ (p : List Int) (n : Nat), (P.Rng (nbL L) n p ↔ ∀ i, i < p.length → -1 ≤ rd p (i : Int) ∧ rd p (i : Int) < (nbL L (n + i) : Int))
  | [], n => ⟨fun _ i h => absurd h (Nat.not_lt_zero _), fun _ => trivial⟩
  | k :: t, n => by
    have ih := in_rng (L := L) t (n + 1)
    constructor
    · rintro ⟨h1, h2⟩ i hi
      cases i with
      | zero => exact h1
      | succ i =>
        have := ih.1 h2 i (by simpa using hi)
        rw [rd_cons, show n + (i + 1) = n + 1 + i by omega]
        exact this
    · intro h
      refine ⟨h 0 (by simp), ih.2 fun i hi => ?_⟩
      have := h (i + 1) (by simpa using hi)
      rw [rd_cons, show n + (i + 1) = n + 1 + i by omega] at this
      exact this
theorem inB_rng {L : List S36} (p : List Int) : InB L p ↔ P.Rng (nbL L) 0 p := by
  rw [in_rng p 0]
  simp only [Nat.zero_add]
  rfl
/-! ### possible, as the search sees it -/
theorem row_fit {L : List S36} (now t : List Int) (k : Int) : ∀ e j, j + e = now.length → rowB L (now ++ k :: t) now.length e j = (if 0 ≤ k then fitB L now (bxB L (now.length : Int) k).f0.f0 (bxB L (now.length : Int) k).f0.f1 (bxB L (now.length : Int) k).f1.f0 (bxB L (now.length : Int) k).f1.f1 e j else true)
  | 0, j, _ => by rw [rowB, fitB]; split <;> rfl
  | e + 1, j, hj => by
    rw [rowB, row_fit now t k e (j + 1) (by omega), fitB, okB, rd_append, rd_left now _ j (by omega)]
    by_cases c : 0 ≤ k
    · rw [if_pos c, if_pos c, decide_eq_false (by omega : ¬ k < 0), Bool.false_or]
      by_cases d : 0 ≤ rd now (j : Int)
      · rw [decide_eq_false (by omega : ¬ rd now (j : Int) < 0), Bool.false_or]
        have e1 : meetB (rd_T42 (rd_T36 L (now.length : Int)).f1 k).f0.f0 (rd_T42 (rd_T36 L (now.length : Int)).f1 k).f0.f1 (rd_T42 (rd_T36 L (now.length : Int)).f1 k).f1.f0 (rd_T42 (rd_T36 L (now.length : Int)).f1 k).f1.f1 (rd_T42 (rd_T36 L (j : Int)).f1 (rd now (j : Int))).f0.f0 (rd_T42 (rd_T36 L (j : Int)).f1 (rd now (j : Int))).f0.f1 (rd_T42 (rd_T36 L (j : Int)).f1 (rd now (j : Int))).f1.f0 (rd_T42 (rd_T36 L (j : Int)).f1 (rd now (j : Int))).f1.f1
            = hitB L (j : Int) (rd now (j : Int)) (bxB L (now.length : Int) k).f0.f0 (bxB L (now.length : Int) k).f0.f1 (bxB L (now.length : Int) k).f1.f0 (bxB L (now.length : Int) k).f1.f1 := by
          unfold hitB bxB
          rw [Bool.eq_iff_iff, meet_iff, meet_iff]
          constructor <;> (rintro ⟨h1, h2, h3, h4, h5, h6⟩; exact ⟨h2, h1, h4, h3, h6, h5⟩)
        rw [e1]
        by_cases m : hitB L (j : Int) (rd now (j : Int)) (bxB L (now.length : Int) k).f0.f0 (bxB L (now.length : Int) k).f0.f1 (bxB L (now.length : Int) k).f1.f0 (bxB L (now.length : Int) k).f1.f1 = true
        · rw [if_pos ⟨d, m⟩, m]; rfl
        · rw [if_neg (fun h => m h.2), Bool.eq_false_iff.mpr m, Bool.not_false, Bool.true_and]
      · rw [decide_eq_true (by omega : rd now (j : Int) < 0), Bool.true_or, Bool.true_and, if_neg (fun h => d h.1)]
    · rw [if_neg c, if_neg c, decide_eq_true (by omega : k < 0), Bool.true_or, Bool.true_and]
theorem may_row {L : List S36} (now t : List Int) (k : Int) : mayB L now k = rowB L (now ++ k :: t) now.length now.length 0 := by
  rw [row_fit now t k now.length 0 (Nat.zero_add _), mayB]
theorem ok_iff {L : List S36} : ∀ (t now : List Int), P.ok (nbL L) (mayB L) now t ↔ P.Rng (nbL L) now.length t ∧ allB L (now ++ t) t.length now.length = true
  | [], now => by simp [P.ok, P.Rng, allB]
  | k :: t, now => by
    have ih := ok_iff (L := L) t (now ++ [k])
    have e : now ++ [k] ++ t = now ++ k :: t := by rw [List.append_assoc]; rfl
    have el : (now ++ [k]).length = now.length + 1 := by rw [List.length_append]; rfl
    rw [P.ok, ih, e, el, may_row now t k, P.Rng, List.length_cons, allB, Bool.and_eq_true]
    constructor
    · rintro ⟨⟨h1, h2, h3⟩, h4, h5⟩; exact ⟨⟨⟨h1, h2⟩, h4⟩, h3, h5⟩
    · rintro ⟨⟨⟨h1, h2⟩, h4⟩, h3, h5⟩; exact ⟨⟨h1, h2, h3⟩, h4, h5⟩
/-- A possible choice. -/
def Sel (L : List S36) (p : List Int) : Prop := p.length = L.length ∧ InB L p ∧ allB L p p.length 0 = true
theorem sel_cmp {L : List S36} (p : List Int) : P.Cmp (nbL L) (mayB L) L.length [] p ↔ Sel L p := by
  constructor
  · rintro ⟨t, e, hl, hk⟩
    have e : p = t := e
    subst e
    obtain ⟨h1, h2⟩ := (ok_iff p []).1 hk
    exact ⟨hl, (inB_rng _).2 h1, by rw [hl]; rw [hl] at h2; exact h2⟩
  · rintro ⟨hl, h1, h2⟩
    exact ⟨p, rfl, hl, (ok_iff p []).2 ⟨(inB_rng _).1 h1, h2⟩⟩
/-! ### the search -/
theorem loop_eq (st : Int → List Int × Int → List Int × Int) : ∀ (m : Nat) (k : Int) (bt : List Int × Int), loopB st m k bt = P.loop st m k bt
  | 0, _, _ => rfl
  | m + 1, k, bt => by rw [loopB, P.loop, loop_eq st m]
theorem srch_eq (L : List S36) (rest : List Int) : ∀ (d : Nat) (now : List Int) (worth : Int) (bt : List Int × Int), srch L rest d now worth bt = P.srch (nbL L) (wgL L) (mayB L) (fun i => rd rest (i : Int)) d now worth bt
  | 0, _, _, _ => rfl
  | d + 1, now, worth, bt => by
    rw [srch, P.srch, loop_eq]
    have e : (fun k bt => if mayB L now k = true then srch L rest d (now ++ [k]) (worth + wgtB L (now.length : Int) k) bt else bt) = (fun k bt => if mayB L now k = true then P.srch (nbL L) (wgL L) (mayB L) (fun i => rd rest (i : Int)) d (now ++ [k]) (worth + P.wgt (wgL L) now.length k) bt else bt) := by
      funext k bt
      rw [srch_eq L rest d]; rfl
    rw [e]; rfl
theorem sums_eq (L : List S36) : ∀ d n, sumsW L d n = P.sums (wgL L) d n
  | 0, _ => rfl
  | d + 1, n => by rw [sumsW, P.sums, sums_eq L d]; rfl
theorem wgL_pos {L : List S36} (h : Chk L) (n : Nat) : 0 ≤ wgL L n := by
  by_cases c : n < L.length
  · exact h.w0 n c
  · have e : rd_T36 L (n : Int) = z36 := by unfold rd_T36; simp [List.getD, Nat.le_of_not_lt c]
    unfold wgL; rw [e]; exact Int.le_refl _
theorem nbL_lt {L : List S36} (h : Chk L) (n : Nat) : nbL L n < 7 := by
  by_cases c : n < L.length
  · have := h.boxes n c; unfold nbL; omega
  · have e : rd_T36 L (n : Int) = z36 := by unfold rd_T36; simp [List.getD, Nat.le_of_not_lt c]
    unfold nbL; rw [e]; decide
def valL (L : List S36) (p : List Int) : Int := P.val (wgL L) 0 p
/-- What Best's search gives. -/
def bestL (L : List S36) : List Int × Int := srch L (restG L 0) L.length [] 0 ([], -1)
theorem best_bst {L : List S36} (h : Chk L) : P.Bst (Sel L) (valL L) ([], -1) (bestL L) := by
  have hb := P.srch_best (nbL L) (wgL L) (mayB L) (fun i => rd (restG L 0) (i : Int)) (wgL_pos h) L.length (fun d n hd => by
    show rd (restG L 0) (n : Int) = _
    rw [restG_rd L 0 n (by omega), if_neg (by omega), show L.length - n = d by omega, sums_eq]) L.length [] ([], -1) (Nat.zero_add _)
  rw [bestL, srch_eq]
  exact P.Bst_congr hb (fun t => sel_cmp t)
theorem row_neg (L : List S36) (p : List Int) (i : Nat) (h : rd p (i : Int) < 0) : ∀ e j, rowB L p i e j = true
  | 0, _ => rfl
  | e + 1, j => by rw [rowB, row_neg L p i h e, okB, decide_eq_true h, Bool.true_or, Bool.true_and]
theorem all_neg (L : List S36) (p : List Int) (h : ∀ i : Nat, i < p.length → rd p (i : Int) < 0) : ∀ d i, i + d = p.length → allB L p d i = true
  | 0, _, _ => rfl
  | d + 1, i, hi => by rw [allB, row_neg L p i (h i (by omega)), all_neg L p h d (i + 1) (by omega)]; rfl
theorem rd_reps (m i : Nat) (h : i < m) : rd (List.replicate m (-1)) (i : Int) = -1 := by unfold rd; simp [List.getD, h]
theorem sel_none (L : List S36) : Sel L (List.replicate L.length (-1)) := by
  refine ⟨by simp, (inB_rng _).2 (P.rng_reps _ _ _), all_neg L _ (fun i hi => ?_) _ 0 (by simp)⟩
  rw [rd_reps _ _ (by simpa using hi)]; decide
theorem val_bd {L : List S36} (h : Chk L) (p : List Int) (hp : p.length ≤ L.length) : 0 ≤ valL L p ∧ valL L p ≤ 10000 := by
  have h1 := P.val_le (wgL L) (wgL_pos h) p 0
  have h2 := sumsW_bd h p.length 0 (by omega)
  rw [sums_eq] at h2
  have h3 := h.many
  unfold valL
  omega
/-- Best's answer: a possible choice, its worth, and none better. -/
theorem best_spec {L : List S36} (h : Chk L) : Sel L (bestL L).1 ∧ valL L (bestL L).1 = (bestL L).2 ∧ ∀ p, Sel L p → valL L p < (bestL L).2 ∨ valL L p = (bestL L).2 ∧ ¬ P.lexlt p (bestL L).1 := by
  rcases best_bst h with ⟨e, hb⟩ | ⟨t, s, e, g, hb⟩
  · have h1 := hb _ (sel_none L)
    have h2 := (val_bd h (List.replicate L.length (-1)) (by simp)).1
    simp only at h1; omega
  · rw [e]; exact ⟨s, rfl, hb⟩
end Go.Proofs.Ytdmhnjpblpfbfaa.U
