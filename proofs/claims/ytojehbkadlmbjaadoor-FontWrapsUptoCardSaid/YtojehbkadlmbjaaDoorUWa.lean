/- The law's own splitting of a text at its spaces. Condition: the text is short. -/
import Derived.Test.YtojehbkadlmbjaaDoorQFontWraps
import Derived.Test.YtojehbkadlmbjaaDoorUSz
namespace Go.Proofs.YtojehbkadlmbjaaDoor.U
open Go.RowKit Go.Proofs.YtojehbkadlmbjaaDoor.Q Go.Proofs.YtojehbkadlmbjaaDoorW.PrintWords Go.Proofs.YtojehbkadlmbjaaDoorW.PrintLast Go.Proofs.YtojehbkadlmbjaaDoorW.PrintMore
set_option linter.unusedSimpArgs false
set_option linter.unusedVariables false

def cut (s : ByteArray) : List UInt8 → Nat → Nat → List ByteArray
  | [], a, i => if a < i then [s.extract a i] else []
  | b :: l, a, i => if b = 32 then (if a < i then s.extract a i :: cut s l (i + 1) (i + 1) else cut s l (i + 1) (i + 1)) else cut s l a (i + 1)

theorem size_list (s : ByteArray) : s.size = s.data.toList.length := (Array.length_toList (xs := s.data)).symm

theorem drop_step (s : ByteArray) (i : Nat) (b : UInt8) (l : List UInt8) (h : s.data.toList.drop i = b :: l) : i < s.size ∧ s.data.toList.drop (i + 1) = l ∧ bt s (i : Int) = (b.toNat : Int) := by
  have hz := size_list s
  have hi : i < s.size := by
    rw [hz]
    refine Classical.byContradiction fun c => ?_
    rw [List.drop_eq_nil_of_le (by omega)] at h
    cases h
  have e := List.drop_eq_getElem_cons (show i < s.data.toList.length by omega)
  rw [e] at h
  obtain ⟨h1, h2⟩ := List.cons.inj h
  refine ⟨hi, h2, ?_⟩
  unfold bt
  rw [dif_pos (show ((i : Nat) : Int).toNat < s.size from hi)]
  rw [← h1]
  simp [ByteArray.getElem_eq_getElem_data]

theorem split_loop (s : ByteArray) (hs : s.size ≤ 4000000000000) (x1 x2 : Int) (x9 : List ByteArray) (x10 x13 : Int) :
    ∀ (l : List UInt8) (a i : Nat) (acc : List ByteArray), s.data.toList.drop i = l → a ≤ i → i ≤ s.size → acc.length ≤ i →
    (∃ k, terrlaw5_FontWraps.l2 k x1 x2 x9 x10 x13 [] (acc ++ cut s l a i) ((acc ++ cut s l a i).length : Int) 0 = some true) →
    ∃ k, terrlaw5_FontWraps.l1 k s x1 x2 x9 x10 x13 acc (a : Int) (i : Int) = some true := by
  have hz := size_list s
  have l0_end : ∀ (acc : List ByteArray) (a : Nat), s.size ≤ a → (∃ k, terrlaw5_FontWraps.l2 k x1 x2 x9 x10 x13 [] acc (acc.length : Int) 0 = some true) → ∃ k, terrlaw5_FontWraps.l0 k s x1 x2 x9 x10 x13 acc (a : Int) = some true := by
    rintro acc a ha ⟨k, hk⟩
    refine ⟨k + 1, ?_⟩
    rw [terrlaw5_FontWraps.l0, if_neg (by omega)]
    exact hk
  intro l
  induction l with
  | nil =>
    intro a i acc hd ha hi hl hk
    have e : i = s.size := by
      have := congrArg List.length hd
      rw [List.length_drop] at this
      simp at this
      omega
    have e2 : wrap64 ((i : Int) + 1) = ((i + 1 : Nat) : Int) := by rw [wrapF (by omega) (by omega)]; omega
    by_cases c : a < i
    · rw [cut, if_pos c] at hk
      obtain ⟨k, hk⟩ := l0_end _ (i + 1) (by omega) hk
      refine ⟨k + 1, ?_⟩
      rw [terrlaw5_FontWraps.l1, if_neg (by omega), if_pos (by omega), if_pos (by omega), if_pos (by omega), if_pos (by omega), if_pos (by omega), Int.toNat_natCast, Int.toNat_natCast, e2]
      exact hk
    · rw [cut, if_neg c, List.append_nil] at hk
      obtain ⟨k, hk⟩ := l0_end _ (i + 1) (by omega) hk
      refine ⟨k + 1, ?_⟩
      rw [terrlaw5_FontWraps.l1, if_neg (by omega), if_neg (by omega), e2]
      exact hk
  | cons b l ih =>
    intro a i acc hd ha hi hl hk
    obtain ⟨hlt, hd2, hb⟩ := drop_step s i b l hd
    have e2 : wrap64 ((i : Int) + 1) = ((i + 1 : Nat) : Int) := by rw [wrapF (by omega) (by omega)]; omega
    have l0_go : ∀ (acc : List ByteArray), acc.length ≤ i + 1 → (∃ k, terrlaw5_FontWraps.l2 k x1 x2 x9 x10 x13 [] (acc ++ cut s l (i + 1) (i + 1)) ((acc ++ cut s l (i + 1) (i + 1)).length : Int) 0 = some true) → ∃ k, terrlaw5_FontWraps.l0 k s x1 x2 x9 x10 x13 acc ((i + 1 : Nat) : Int) = some true := by
      intro acc hl hk0
      obtain ⟨k, hk⟩ := ih (i + 1) (i + 1) acc hd2 (Nat.le_refl _) hlt hl hk0
      by_cases c : i + 1 < s.size
      · refine ⟨k + 1, ?_⟩
        rw [terrlaw5_FontWraps.l0, if_pos (by omega)]
        exact hk
      · have hn : l = [] := by
          rw [← hd2]
          exact List.drop_eq_nil_of_le (by omega)
        subst hn
        refine l0_end acc (i + 1) (by omega) ?_
        have e : cut s [] (i + 1) (i + 1) = [] := by rw [cut, if_neg (Nat.lt_irrefl _)]
        rw [e, List.append_nil] at hk0
        exact hk0
    by_cases c32 : b = 32
    · have hbt : bt s (i : Int) = 32 := by rw [hb, c32]; rfl
      by_cases c : a < i
      · rw [cut, if_pos c32, if_pos c] at hk
        obtain ⟨k, hk⟩ := l0_go (acc ++ [s.extract a i]) (by simp; omega) (by rw [List.append_assoc]; exact hk)
        refine ⟨k + 1, ?_⟩
        rw [terrlaw5_FontWraps.l1, if_pos (by omega), if_pos (by omega), if_pos hbt, if_pos (by omega), if_pos (by omega), if_pos (by omega), if_pos (by omega), if_pos (by omega), Int.toNat_natCast, Int.toNat_natCast, e2]
        exact hk
      · rw [cut, if_pos c32, if_neg c] at hk
        obtain ⟨k, hk⟩ := l0_go acc (by omega) hk
        refine ⟨k + 1, ?_⟩
        rw [terrlaw5_FontWraps.l1, if_pos (by omega), if_pos (by omega), if_pos hbt, if_neg (by omega), e2]
        exact hk
    · have hbt : ¬ bt s (i : Int) = 32 := by
        rw [hb]
        intro h
        refine c32 (UInt8.toNat_inj.mp ?_)
        show b.toNat = 32
        omega
      rw [cut, if_neg c32] at hk
      obtain ⟨k, hk⟩ := ih a (i + 1) acc hd2 (by omega) hlt (by omega) hk
      refine ⟨k + 1, ?_⟩
      rw [terrlaw5_FontWraps.l1, if_pos (by omega), if_pos (by omega), if_neg hbt, e2]
      exact hk

/-- Behind a good size the law's words are the library's. -/
theorem cut_fields (s : ByteArray) : ∀ (l : List UInt8) (a i : Nat), s.data.toList.drop i = l → a ≤ i → i ≤ s.size → (∀ b ∈ l, 32 ≤ b.toNat) →
    cut s l a i = (Lib.fieldsGo (s.extract a i).data.toList l).map fun l => ⟨l.toArray⟩ := by
  have hemp : ∀ a i : Nat, i ≤ s.size → (s.extract a i).data.toList.isEmpty = decide (¬ a < i) := by
    intro a i hi
    have hz : (s.extract a i).data.toList.length = i - a := by
      have := (size_list (s.extract a i)).symm
      rw [this, ByteArray.size_extract]
      omega
    cases hc : (s.extract a i).data.toList with
    | nil => rw [hc] at hz; simp at hz ⊢; omega
    | cons x y => rw [hc] at hz; simp at hz ⊢; omega
  have hsame : ∀ i : Nat, (s.extract i i).data.toList = [] := by
    intro i
    have : (s.extract i i).data.toList.length = 0 := by
      have h1 := (size_list (s.extract i i)).symm
      rw [h1, ByteArray.size_extract]
      omega
    exact List.eq_nil_of_length_eq_zero this
  intro l
  induction l with
  | nil =>
    intro a i hd ha hi hb
    rw [cut, Lib.fieldsGo, hemp a i hi]
    by_cases c : a < i
    · rw [if_pos c, decide_eq_false (by omega), if_neg (by decide)]; rfl
    · rw [if_neg c, decide_eq_true c, if_pos rfl]; rfl
  | cons b l ih =>
    intro a i hd ha hi hb
    obtain ⟨hlt, hd2, hbt⟩ := drop_step s i b l hd
    have hb2 : ∀ b ∈ l, 32 ≤ b.toNat := fun x hx => hb x (List.mem_cons_of_mem _ hx)
    have h32 := hb b List.mem_cons_self
    rw [cut, Lib.fieldsGo]
    by_cases c32 : b = 32
    · have hsp : Lib.isSp b = true := by rw [c32]; rfl
      rw [if_pos c32, if_pos hsp, hemp a i hi, ih (i + 1) (i + 1) hd2 (Nat.le_refl _) hlt hb2, hsame]
      by_cases c : a < i
      · rw [if_pos c, decide_eq_false (by omega), if_neg (by decide)]; rfl
      · rw [if_neg c, decide_eq_true c, if_pos rfl]
    · have hsp : ¬ Lib.isSp b = true := by
        unfold Lib.isSp
        intro h
        simp only [Bool.or_eq_true, beq_iff_eq] at h
        rcases h with ((((h | h) | h) | h) | h) | h <;> first | exact c32 h | (rw [h] at h32; exact absurd h32 (by decide))
      rw [if_neg c32, if_neg hsp, ih a (i + 1) hd2 (by omega) hlt hb2]
      have e : (s.extract a (i + 1)).data.toList = (s.extract a i).data.toList ++ [b] := by
        have ex : ∀ n, a ≤ n → (s.extract a n).data.toList = (s.data.toList.drop a).take (n - a) := by
          intro n hn
          rw [ByteArray.data_extract, Array.toList_extract, List.extract_eq_take_drop]
        rw [ex (i + 1) (by omega), ex i ha, show i + 1 - a = (i - a) + 1 by omega, List.take_add_one, List.getElem?_drop, show a + (i - a) = i by omega]
        have : s.data.toList[i]? = some b := by
          have := congrArg List.head? hd
          rw [List.head?_drop] at this
          exact this
        rw [this]
        rfl
      rw [e]

end Go.Proofs.YtojehbkadlmbjaaDoor.U
