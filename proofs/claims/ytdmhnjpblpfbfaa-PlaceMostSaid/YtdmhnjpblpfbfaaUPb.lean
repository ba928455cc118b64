/- Plain facts on labels: what Check, possible, worth and chosen come to. Conditions: stated at each. -/
import Derived.Test.YtdmhnjpblpfbfaaUPa
import Derived.Test.YtdmhnjpblpfbfaaQf17
import Derived.Test.YtdmhnjpblpfbfaaQf25
import Derived.Test.YtdmhnjpblpfbfaaQf33
namespace Go.Proofs.Ytdmhnjpblpfbfaa.U
open Go.RowKit Go.Proofs.Ytdmhnjpblpfbfaa.Q Go.Proofs.YtdmhnjpblpfbfaaW.PrintWords Go.Proofs.YtdmhnjpblpfbfaaW.PrintLast Go.Proofs.YtdmhnjpblpfbfaaW.PrintMore
set_option linter.unusedSimpArgs false
set_option linter.unusedVariables false

/-- Some fuel is enough. -/
def Ev {α : Type} (g : Nat → Option α) (r : α) : Prop := ∃ k, g k = some r
theorem up {α : Type} {g : Nat → Option α} {r : α} (hm : ∀ k, LeO (g k) (g (k + 1))) {a b : Nat} (h : a ≤ b) (e : g a = some r) : g b = some r := by
  induction b with
  | zero => rw [show a = 0 by omega] at e; exact e
  | succ b ih =>
    by_cases c : a = b + 1
    · rw [← c]; exact e
    · exact hm b r (ih (by omega))
theorem ev2 {α β : Type} {g : Nat → Option α} {f : Nat → Option β} {r : α} {s : β} (hg : ∀ k, LeO (g k) (g (k + 1))) (hf : ∀ k, LeO (f k) (f (k + 1))) (h1 : Ev g r) (h2 : Ev f s) : ∃ k, g k = some r ∧ f k = some s := by
  obtain ⟨a, ha⟩ := h1
  obtain ⟨b, hb⟩ := h2
  exact ⟨max a b, up hg (Nat.le_max_left _ _) ha, up hf (Nat.le_max_right _ _) hb⟩
/-! ### boxes -/
theorem limit_eq (x : Int) : point_limit.f x 1048576 = some (mx (-1048576) (mn x 1048576)) := by
  unfold point_limit.f
  rw [wrap64_eq (-1048576) (by omega) (by omega)]
theorem ok_valid (x y : Int) : point_Ok.f x y = terrref5_Valid.f x y := by
  unfold point_Ok.f point_Clamp.f terrref5_Valid.f
  rw [limit_eq, limit_eq, Option.bind_some, Option.bind_some, Option.bind_some]
  unfold mx mn
  by_cases h1 : (-1048576 : Int) ≤ x <;> by_cases h2 : x ≤ 1048576 <;> by_cases h3 : (-1048576 : Int) ≤ y <;> by_cases h4 : y ≤ 1048576 <;> simp [h1, h2, h3, h4] <;> (try split) <;> (try split) <;> (try split) <;> omega
theorem ordered_eq (a b c d : Int) : terrlaw5_ordered.f a b c d = some (decide (a ≤ c ∧ b ≤ d)) := by
  unfold terrlaw5_ordered.f
  by_cases h : a ≤ c <;> simp [h]
theorem boxok_eq (a b c d : Int) : box_Ok.f a b c d = terrlaw5_boxOk.f a b c d := by
  unfold box_Ok.f terrlaw5_boxOk.f
  rw [ok_valid, ok_valid, ordered_eq, Option.bind_some]
  by_cases h : a ≤ c <;> simp [h]
theorem near_eq (a0 a1 a2 a3 b0 b1 b2 b3 : Int) : terrref5_Near.f a0 a1 a2 a3 b0 b1 b2 b3 = some (decide (a0 ≤ b2 ∧ b0 ≤ a2 ∧ a1 ≤ b3 ∧ b1 ≤ a3)) := by
  unfold terrref5_Near.f
  by_cases h1 : a0 ≤ b2 <;> by_cases h2 : b0 ≤ a2 <;> by_cases h3 : a1 ≤ b3 <;> simp [h1, h2, h3]
theorem meet_iff (a0 a1 a2 a3 b0 b1 b2 b3 : Int) : meetB a0 a1 a2 a3 b0 b1 b2 b3 = true ↔ (a0 ≤ a2 ∧ a1 ≤ a3) ∧ (b0 ≤ b2 ∧ b1 ≤ b3) ∧ a0 ≤ b2 ∧ b0 ≤ a2 ∧ a1 ≤ b3 ∧ b1 ≤ a3 := by
  unfold meetB hasB mx
  rw [Bool.and_eq_true, decide_eq_true_iff, decide_eq_true_iff]
  constructor
  · intro h; split at h <;> split at h <;> omega
  · intro h; split <;> split <;> omega
theorem chain_eq (a0 a1 a2 a3 b0 b1 b2 b3 : Int) (K : Option Bool) :
    ((terrlaw5_ordered.f a0 a1 a2 a3).bind fun t => (if t = true then ((terrlaw5_ordered.f b0 b1 b2 b3).bind fun t => (if t = true then ((terrref5_Near.f a0 a1 a2 a3 b0 b1 b2 b3).bind fun t => (if t = true then (some false) else K)) else K)) else K)) = if meetB a0 a1 a2 a3 b0 b1 b2 b3 = true then some false else K := by
  rw [ordered_eq, ordered_eq, near_eq, Option.bind_some]
  by_cases h1 : a0 ≤ a2 ∧ a1 ≤ a3
  · rw [if_pos (decide_eq_true h1), Option.bind_some]
    by_cases h2 : b0 ≤ b2 ∧ b1 ≤ b3
    · rw [if_pos (decide_eq_true h2), Option.bind_some]
      by_cases h3 : a0 ≤ b2 ∧ b0 ≤ a2 ∧ a1 ≤ b3 ∧ b1 ≤ a3
      · rw [if_pos (decide_eq_true h3), if_pos ((meet_iff _ _ _ _ _ _ _ _).2 ⟨h1, h2, h3⟩)]
      · rw [if_neg (by simpa using h3), if_neg (fun h => h3 ((meet_iff _ _ _ _ _ _ _ _).1 h).2.2)]
    · rw [if_neg (by simpa using h2), if_neg (fun h => h2 ((meet_iff _ _ _ _ _ _ _ _).1 h).2.1)]
  · rw [if_neg (by simpa using h1), if_neg (fun h => h1 ((meet_iff _ _ _ _ _ _ _ _).1 h).1)]
/-! ### Check -/
def nbL (L : List S36) (i : Nat) : Nat := (rd_T36 L (i : Int)).f1.length
def wgL (L : List S36) (i : Nat) : Int := (rd_T36 L (i : Int)).f2
def EvC (L : List S36) (i : Nat) (t : Int) : Prop := ∃ k, place_Check.l0 k L (L.length : Int) (i : Int) = some t ∧ terrlaw5_wantsFault.l0 k L (L.length : Int) (i : Int) = some t
def EvC1 (L : List S36) (i : Nat) (B : List S42) (q : Nat) (t : Int) : Prop := ∃ k, place_Check.l1 k L (L.length : Int) (i : Int) B (B.length : Int) (q : Int) = some t ∧ terrlaw5_wantsFault.l1 k L (L.length : Int) (i : Int) B (B.length : Int) (q : Int) = some t
theorem box_some (a b c d : Int) : ∃ t, box_Ok.f a b c d = some t := by
  unfold box_Ok.f point_Ok.f point_Clamp.f
  rw [limit_eq, limit_eq, limit_eq, limit_eq]
  simp only [Option.bind_some]
  split
  · split
    · split <;> exact ⟨_, rfl⟩
    · exact ⟨_, rfl⟩
  · exact ⟨_, rfl⟩
theorem chk_boxes {L : List S36} (hL : L.length ≤ 10) {i : Nat} (hi : i < L.length) (B : List S42) (hB : B.length ≤ 5) (hn : ∃ t, EvC L (i + 1) t) : ∀ e q, q + e = B.length → ∃ t, EvC1 L i B q t
  | 0, q, hq => by
    obtain ⟨t, k, h1, h2⟩ := hn
    refine ⟨t, k + 1, ?_, ?_⟩
    · rw [place_Check.l1, if_neg (by omega), wrap64_eq _ (by omega) (by omega)]; exact h1
    · rw [terrlaw5_wantsFault.l1, if_neg (by omega), wrap64_eq _ (by omega) (by omega)]; exact h2
  | e + 1, q, hq => by
    obtain ⟨t, k, h1, h2⟩ := chk_boxes hL hi B hB hn e (q + 1) (by omega)
    obtain ⟨b, hb⟩ := box_some (rd_T42 B (q : Int)).f0.f0 (rd_T42 B (q : Int)).f0.f1 (rd_T42 B (q : Int)).f1.f0 (rd_T42 B (q : Int)).f1.f1
    have hb2 := hb
    rw [boxok_eq] at hb2
    have w : wrap64 ((q : Int) + 1) = ((q + 1 : Nat) : Int) := by rw [wrap64_eq _ (by omega) (by omega)]; omega
    cases b with
    | true =>
      refine ⟨t, k + 1, ?_, ?_⟩
      · rw [place_Check.l1, if_pos (by omega), if_pos (by omega), if_pos (by omega), hb, Option.bind_some, if_pos rfl, w]; exact h1
      · rw [terrlaw5_wantsFault.l1, if_pos (by omega), if_pos (by omega), if_pos (by omega), hb2, Option.bind_some, if_pos rfl, w]; exact h2
    | false =>
      refine ⟨3, 1, ?_, ?_⟩
      · rw [place_Check.l1, if_pos (by omega), if_pos (by omega), if_pos (by omega), hb, Option.bind_some, if_neg (by simp)]
      · rw [terrlaw5_wantsFault.l1, if_pos (by omega), if_pos (by omega), if_pos (by omega), hb2, Option.bind_some, if_neg (by simp)]
theorem chk_labels {L : List S36} (hL : L.length ≤ 10) : ∀ d i, i + d = L.length → ∃ t, EvC L i t
  | 0, i, hi => ⟨0, 1, by rw [place_Check.l0, if_neg (by omega)], by rw [terrlaw5_wantsFault.l0, if_neg (by omega)]⟩
  | d + 1, i, hi => by
    have ih := chk_labels hL d (i + 1) (by omega)
    by_cases c : ((rd_T36 L (i : Int)).f1.length : Int) > 5
    · refine ⟨2, 1, ?_, ?_⟩
      · rw [place_Check.l0, if_pos (by omega), if_pos (by omega), if_pos (by omega), if_pos c]
      · rw [terrlaw5_wantsFault.l0, if_pos (by omega), if_pos (by omega), if_pos (by omega), if_pos c]
    · obtain ⟨t, k, h1, h2⟩ := chk_boxes hL (show i < L.length by omega) (rd_T36 L (i : Int)).f1 (by omega) ih _ 0 (Nat.zero_add _)
      by_cases c2 : (rd_T36 L (i : Int)).f2 < 0
      · refine ⟨1, 2, ?_, ?_⟩
        · rw [place_Check.l0, if_pos (by omega), if_pos (by omega), if_pos (by omega), if_neg c, if_pos c2, place_Check.j1, if_pos rfl]
        · rw [terrlaw5_wantsFault.l0, if_pos (by omega), if_pos (by omega), if_pos (by omega), if_neg c, if_pos c2, terrlaw5_wantsFault.j1, if_pos rfl]
      · by_cases c3 : (rd_T36 L (i : Int)).f2 > 1000
        · refine ⟨1, 2, ?_, ?_⟩
          · rw [place_Check.l0, if_pos (by omega), if_pos (by omega), if_pos (by omega), if_neg c, if_neg c2, place_Check.j1, if_pos (decide_eq_true c3)]
          · rw [terrlaw5_wantsFault.l0, if_pos (by omega), if_pos (by omega), if_pos (by omega), if_neg c, if_neg c2, terrlaw5_wantsFault.j1, if_pos (decide_eq_true c3)]
        · refine ⟨t, k + 2, ?_, ?_⟩
          · rw [place_Check.l0, if_pos (by omega), if_pos (by omega), if_pos (by omega), if_neg c, if_neg c2, place_Check.j1, if_neg (by simpa using c3)]; exact h1
          · rw [terrlaw5_wantsFault.l0, if_pos (by omega), if_pos (by omega), if_pos (by omega), if_neg c, if_neg c2, terrlaw5_wantsFault.j1, if_neg (by simpa using c3)]; exact h2
theorem check_fault (L : List S36) : ∃ t k, place_Check.f k L = some t ∧ terrlaw5_wantsFault.f k L = some t := by
  unfold place_Check.f terrlaw5_wantsFault.f
  by_cases c : (L.length : Int) > 10
  · exact ⟨2, 0, by rw [if_pos c], by rw [if_pos c]⟩
  · obtain ⟨t, k, h1, h2⟩ := chk_labels (show L.length ≤ 10 by omega) L.length 0 (Nat.zero_add _)
    exact ⟨t, k, by rw [if_neg c]; exact h1, by rw [if_neg c]; exact h2⟩
/-! ### possible -/
/-- May the i-th and the j-th pick stand together? -/
def okB (L : List S36) (p : List Int) (i j : Nat) : Bool := decide (rd p (i : Int) < 0) || (decide (rd p (j : Int) < 0) || !(meetB (rd_T42 (rd_T36 L (i : Int)).f1 (rd p (i : Int))).f0.f0 (rd_T42 (rd_T36 L (i : Int)).f1 (rd p (i : Int))).f0.f1 (rd_T42 (rd_T36 L (i : Int)).f1 (rd p (i : Int))).f1.f0 (rd_T42 (rd_T36 L (i : Int)).f1 (rd p (i : Int))).f1.f1
  (rd_T42 (rd_T36 L (j : Int)).f1 (rd p (j : Int))).f0.f0 (rd_T42 (rd_T36 L (j : Int)).f1 (rd p (j : Int))).f0.f1 (rd_T42 (rd_T36 L (j : Int)).f1 (rd p (j : Int))).f1.f0 (rd_T42 (rd_T36 L (j : Int)).f1 (rd p (j : Int))).f1.f1))
def rowB (L : List S36) (p : List Int) (i : Nat) : Nat → Nat → Bool
  | 0, _ => true
  | e + 1, j => okB L p i j && rowB L p i e (j + 1)
def allB (L : List S36) (p : List Int) : Nat → Nat → Bool
  | 0, _ => true
  | d + 1, i => rowB L p i i 0 && allB L p d (i + 1)
/-- Each pick is -1 or a box that there is. -/
def InB (L : List S36) (p : List Int) : Prop := ∀ i, i < p.length → -1 ≤ rd p (i : Int) ∧ rd p (i : Int) < (nbL L i : Int)
theorem rd_take (p : List Int) (i j : Nat) (h : j < i) (hi : i ≤ p.length) : rd (p.take i) (j : Int) = rd p (j : Int) := by
  unfold rd
  simp [List.getD_eq_getElem?_getD, List.getElem?_take, h]
theorem poss_row {L : List S36} {p : List Int} (hn : p.length ≤ L.length) (hp : p.length ≤ 9223372036854775807) (hb : ∀ i, i < p.length → rd p (i : Int) < (nbL L i : Int)) {i : Nat} (hi : i < p.length) {r0 : Bool} (h0 : Ev (fun k => terrlaw5_possible.l0 k L p p (p.length : Int) ((i + 1 : Nat) : Int)) r0) :
    ∀ e j, j + e = i → Ev (fun k => terrlaw5_possible.l1 k L p (i : Int) (rd p (i : Int)) p (p.length : Int) (i : Int) (p.take (i : Int).toNat) ((p.take (i : Int).toNat).length : Int) (j : Int)) (rowB L p i e j && r0) := by
  have hl : (p.take (i : Int).toNat).length = i := by rw [List.length_take]; omega
  intro e
  induction e with
  | zero =>
    intro j hj
    obtain ⟨k, h⟩ := h0
    refine ⟨k + 1, ?_⟩
    simp only at h ⊢
    rw [terrlaw5_possible.l1, if_neg (by omega), wrap64_eq _ (by omega) (by omega), rowB, Bool.true_and, ← h]; rfl
  | succ e ih =>
    intro j hj
    obtain ⟨k, h⟩ := ih (j + 1) (by omega)
    simp only at h
    have w : wrap64 ((j : Int) + 1) = ((j + 1 : Nat) : Int) := by rw [wrap64_eq _ (by omega) (by omega)]; omega
    have hj2 : rd (p.take (i : Int).toNat) (j : Int) = rd p (j : Int) := rd_take p i j (by omega) (by omega)
    have key : terrlaw5_possible.j2 (k + 1) L p (i : Int) (rd p (i : Int)) (j : Int) (rd (p.take (i : Int).toNat) (j : Int)) p (p.length : Int) (i : Int) (p.take (i : Int).toNat) ((p.take (i : Int).toNat).length : Int) (j : Int) (decide (rd p (i : Int) < 0) || decide (rd p (j : Int) < 0)) = some (rowB L p i (e + 1) j && r0) := by
      rw [terrlaw5_possible.j2, hj2]
      by_cases c : (decide (rd p (i : Int) < 0) || decide (rd p (j : Int) < 0)) = true
      · rw [if_pos c, w, h, rowB, okB, ← Bool.or_assoc, c, Bool.true_or, Bool.true_and]
      · rw [if_neg c]
        have c1 : ¬ rd p (i : Int) < 0 := fun x => c (by rw [decide_eq_true x, Bool.true_or])
        have c2 : ¬ rd p (j : Int) < 0 := fun x => c (by rw [decide_eq_true x, Bool.or_true])
        have b1 := hb i hi
        have b2 := hb j (by omega)
        unfold nbL at b1 b2
        rw [if_pos (by omega), if_pos (by omega), if_pos (by omega), if_pos (by omega), if_pos (by omega), if_pos (by omega), if_pos (by omega), if_pos (by omega), chain_eq, w, h, rowB, okB, decide_eq_false c1, decide_eq_false c2, Bool.false_or, Bool.false_or]
        by_cases m : meetB (rd_T42 (rd_T36 L (i : Int)).f1 (rd p (i : Int))).f0.f0 (rd_T42 (rd_T36 L (i : Int)).f1 (rd p (i : Int))).f0.f1 (rd_T42 (rd_T36 L (i : Int)).f1 (rd p (i : Int))).f1.f0 (rd_T42 (rd_T36 L (i : Int)).f1 (rd p (i : Int))).f1.f1 (rd_T42 (rd_T36 L (j : Int)).f1 (rd p (j : Int))).f0.f0 (rd_T42 (rd_T36 L (j : Int)).f1 (rd p (j : Int))).f0.f1 (rd_T42 (rd_T36 L (j : Int)).f1 (rd p (j : Int))).f1.f0 (rd_T42 (rd_T36 L (j : Int)).f1 (rd p (j : Int))).f1.f1 = true
        · rw [if_pos m, m]; rfl
        · rw [if_neg m, Bool.eq_false_iff.mpr m]; rfl
    refine ⟨k + 2, ?_⟩
    simp only
    rw [terrlaw5_possible.l1, if_pos (by omega), if_pos (by omega), if_pos (by omega)]
    by_cases c1 : rd p (i : Int) < 0
    · rw [if_pos c1]
      rw [decide_eq_true c1, Bool.true_or] at key
      exact key
    · rw [if_neg c1, hj2]
      rw [decide_eq_false c1, Bool.false_or, hj2] at key
      exact key
theorem poss_all {L : List S36} {p : List Int} (hn : p.length ≤ L.length) (hp : p.length ≤ 9223372036854775807) (hb : ∀ i, i < p.length → rd p (i : Int) < (nbL L i : Int)) : ∀ d i, i + d = p.length → Ev (fun k => terrlaw5_possible.l0 k L p p (p.length : Int) (i : Int)) (allB L p d i)
  | 0, i, hi => ⟨1, by simp only; rw [terrlaw5_possible.l0, if_neg (by omega), allB]⟩
  | d + 1, i, hi => by
    obtain ⟨k, h⟩ := poss_row hn hp hb (show i < p.length by omega) (poss_all hn hp hb d (i + 1) (by omega)) i 0 (Nat.zero_add _)
    refine ⟨k + 1, ?_⟩
    simp only at h ⊢
    rw [terrlaw5_possible.l0, if_pos (by omega), if_pos (by omega), if_pos (by omega), if_pos (by omega), allB]
    exact h
theorem possible_ev {L : List S36} {p : List Int} (hn : p.length ≤ L.length) (hp : p.length ≤ 9223372036854775807) (hb : ∀ i, i < p.length → rd p (i : Int) < (nbL L i : Int)) : Ev (fun k => terrlaw5_possible.f k L p) (allB L p p.length 0) := by
  obtain ⟨k, h⟩ := poss_all hn hp hb p.length 0 (Nat.zero_add _)
  exact ⟨k, by simp only; unfold terrlaw5_possible.f; exact h⟩
end Go.Proofs.Ytdmhnjpblpfbfaa.U
