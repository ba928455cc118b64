/- Plain facts on texts, their words and their widths. Conditions: stated at each. -/
import Derived.Test.YtojehbkadlmbjaaDoorQFontLines
import Derived.Test.YtojehbkadlmbjaaDoorUSz
namespace Go.Proofs.YtojehbkadlmbjaaDoor.U
open Go.RowKit Go.Proofs.YtojehbkadlmbjaaDoor.Q Go.Proofs.YtojehbkadlmbjaaDoorW.PrintWords Go.Proofs.YtojehbkadlmbjaaDoorW.PrintLast Go.Proofs.YtojehbkadlmbjaaDoorW.PrintMore
set_option linter.unusedSimpArgs false
set_option linter.unusedVariables false

def cut (s : ByteArray) : List UInt8 → Nat → Nat → List ByteArray
  | [], a, i => if a < i then [s.extract a i] else []
  | b :: l, a, i => if b = 32 then (if a < i then s.extract a i :: cut s l (i + 1) (i + 1) else cut s l (i + 1) (i + 1)) else cut s l a (i + 1)

theorem size_list (s : ByteArray) : s.size = s.data.toList.length := (Array.length_toList (xs := s.data)).symm

theorem drop_step (s : ByteArray) (i : Nat) (b : UInt8) (l : List UInt8) (h : s.data.toList.drop i = b :: l) : i < s.size ∧ s.data.toList.drop (i + 1) = l ∧ bt s (i : Int) = (b.toNat : Int) := by
  have hz := size_list s
  have hi : i < s.size := by
    rw [hz]
    refine Classical.byContradiction fun c => ?_
    rw [List.drop_eq_nil_of_le (by omega)] at h
    cases h
  have e := List.drop_eq_getElem_cons (show i < s.data.toList.length by omega)
  rw [e] at h
  obtain ⟨h1, h2⟩ := List.cons.inj h
  refine ⟨hi, h2, ?_⟩
  unfold bt
  rw [dif_pos (show ((i : Nat) : Int).toNat < s.size from hi)]
  rw [← h1]
  simp [ByteArray.getElem_eq_getElem_data]

/-- Behind a good size the law's words are the library's. -/
theorem cut_fields (s : ByteArray) : ∀ (l : List UInt8) (a i : Nat), s.data.toList.drop i = l → a ≤ i → i ≤ s.size → (∀ b ∈ l, 32 ≤ b.toNat) →
    cut s l a i = (Lib.fieldsGo (s.extract a i).data.toList l).map fun l => ⟨l.toArray⟩ := by
  have hemp : ∀ a i : Nat, i ≤ s.size → (s.extract a i).data.toList.isEmpty = decide (¬ a < i) := by
    intro a i hi
    have hz : (s.extract a i).data.toList.length = i - a := by
      have := (size_list (s.extract a i)).symm
      rw [this, ByteArray.size_extract]
      omega
    cases hc : (s.extract a i).data.toList with
    | nil => rw [hc] at hz; simp at hz ⊢; omega
    | cons x y => rw [hc] at hz; simp at hz ⊢; omega
  have hsame : ∀ i : Nat, (s.extract i i).data.toList = [] := by
    intro i
    have : (s.extract i i).data.toList.length = 0 := by
      have h1 := (size_list (s.extract i i)).symm
      rw [h1, ByteArray.size_extract]
      omega
    exact List.eq_nil_of_length_eq_zero this
  intro l
  induction l with
  | nil =>
    intro a i hd ha hi hb
    rw [cut, Lib.fieldsGo, hemp a i hi]
    by_cases c : a < i
    · rw [if_pos c, decide_eq_false (by omega), if_neg (by decide)]; rfl
    · rw [if_neg c, decide_eq_true c, if_pos rfl]; rfl
  | cons b l ih =>
    intro a i hd ha hi hb
    obtain ⟨hlt, hd2, hbt⟩ := drop_step s i b l hd
    have hb2 : ∀ b ∈ l, 32 ≤ b.toNat := fun x hx => hb x (List.mem_cons_of_mem _ hx)
    have h32 := hb b List.mem_cons_self
    rw [cut, Lib.fieldsGo]
    by_cases c32 : b = 32
    · have hsp : Lib.isSp b = true := by rw [c32]; rfl
      rw [if_pos c32, if_pos hsp, hemp a i hi, ih (i + 1) (i + 1) hd2 (Nat.le_refl _) hlt hb2, hsame]
      by_cases c : a < i
      · rw [if_pos c, decide_eq_false (by omega), if_neg (by decide)]; rfl
      · rw [if_neg c, decide_eq_true c, if_pos rfl]
    · have hsp : ¬ Lib.isSp b = true := by
        unfold Lib.isSp
        intro h
        simp only [Bool.or_eq_true, beq_iff_eq] at h
        rcases h with ((((h | h) | h) | h) | h) | h <;> first | exact c32 h | (rw [h] at h32; exact absurd h32 (by decide))
      rw [if_neg c32, if_neg hsp, ih a (i + 1) hd2 (by omega) hlt hb2]
      have e : (s.extract a (i + 1)).data.toList = (s.extract a i).data.toList ++ [b] := by
        have ex : ∀ n, a ≤ n → (s.extract a n).data.toList = (s.data.toList.drop a).take (n - a) := by
          intro n hn
          rw [ByteArray.data_extract, Array.toList_extract, List.extract_eq_take_drop]
        rw [ex (i + 1) (by omega), ex i ha, show i + 1 - a = (i - a) + 1 by omega, List.take_add_one, List.getElem?_drop, show a + (i - a) = i by omega]
        have : s.data.toList[i]? = some b := by
          have := congrArg List.head? hd
          rw [List.head?_drop] at this
          exact this
        rw [this]
        rfl
      rw [e]

theorem size_app (a b : ByteArray) : (a ++ b).size = a.size + b.size := ByteArray.size_append

/-- Some answer of TextSize, at some round on. -/
theorem size_any (s : ByteArray) (size : Int) : ∃ t : Int × Int × Int, ∀ k, 120 ≤ k → terrref5_TextSize.f k s size = some t := by
  by_cases c : 1 ≤ size ∧ size ≤ 8 ∧ Plain s
  · exact ⟨_, fun k hk => (both_good s c.2.2 size c.1 c.2.1 k hk).2⟩
  · obtain ⟨e, -, -, h⟩ := both_bad s size c 120 (Nat.le_refl _)
    exact ⟨_, fun k hk => at_rounds (terrref5_TextSize.mono _ _) hk h⟩

theorem rd_mem (l : List ByteArray) (j : Nat) (h : j < l.length) : rdOf ByteArray.empty l (j : Int) ∈ l := by
  have e : rdOf ByteArray.empty l (j : Int) = l[j] := by
    unfold rdOf
    simp [h]
  rw [e]
  exact List.getElem_mem h

def Good (s : ByteArray) : Prop := ∀ i : Nat, i < s.size → 32 ≤ bt s (i : Int) ∧ bt s (i : Int) ≤ 126

theorem bt_app_l (a b : ByteArray) (i : Nat) (h : i < a.size) : bt (a ++ b) (i : Int) = bt a (i : Int) := by
  unfold bt
  rw [dif_pos (show ((i : Nat) : Int).toNat < (a ++ b).size by rw [size_app]; show i < _; omega), dif_pos (show ((i : Nat) : Int).toNat < a.size from h)]
  congr 2
  exact ByteArray.getElem_append_left h

theorem bt_app_r (a b : ByteArray) (i : Nat) (h : i < b.size) : bt (a ++ b) ((a.size + i : Nat) : Int) = bt b (i : Int) := by
  unfold bt
  rw [dif_pos (show ((a.size + i : Nat) : Int).toNat < (a ++ b).size by rw [size_app]; show a.size + i < _; omega), dif_pos (show ((i : Nat) : Int).toNat < b.size from h)]
  congr 2
  have key : ∀ (n : Nat) (hn : n = a.size + i) (h1 : n < (a ++ b).size), (a ++ b)[n]'h1 = b[i]'h := by
    intro n hn h1
    subst hn
    rw [ByteArray.getElem_append_right (by omega)]
    congr 1
    omega
  exact key _ rfl _

theorem widthOf_app (a b : ByteArray) : widthOf (a ++ b) = widthOf a + widthOf b := by
  unfold widthOf
  rw [size_app, sumF_split]
  rw [sumF_congr _ (fun i => ww (bt a (i : Int))) a.size (fun i hi => by rw [bt_app_l a b i hi]), sumF_congr (fun i => ww (bt (a ++ b) ((a.size + i : Nat) : Int))) (fun i => ww (bt b (i : Int))) b.size (fun i hi => by rw [bt_app_r a b i hi])]

theorem sumF_pos (f : Nat → Int) (n : Nat) (h : ∀ i, i < n → 0 ≤ f i) : 0 ≤ sumF f n := by
  induction n with
  | zero => exact Int.le_refl _
  | succ n ih =>
    have h1 := ih (fun i hi => h i (by omega))
    have h2 := h n (by omega)
    rw [sumF]
    omega

theorem widthOf_pos (s : ByteArray) : 0 ≤ widthOf s := sumF_pos _ _ (fun i hi => (wide_in _ (bt_range s _).1 (bt_range s _).2 70 (Nat.le_refl _)).2.2.1)

theorem Good.app {a b : ByteArray} (ha : Good a) (hb : Good b) : Good (a ++ b) := by
  intro i hi
  rw [size_app] at hi
  by_cases c : i < a.size
  · rw [bt_app_l a b i c]; exact ha i c
  · obtain ⟨j, rfl⟩ : ∃ j, i = a.size + j := ⟨i - a.size, by omega⟩
    rw [bt_app_r a b j (by omega)]; exact hb j (by omega)

/-- The bytes that words take with one space each. -/
def T : List ByteArray → Nat
  | [] => 0
  | w :: ws => w.size + 1 + T ws

theorem cut_T (s : ByteArray) : ∀ (l : List UInt8) (a i : Nat), s.data.toList.drop i = l → a ≤ i → i ≤ s.size → T (cut s l a i) ≤ l.length + (i - a) + 1 := by
  intro l
  induction l with
  | nil =>
    intro a i hd ha hi
    rw [cut]
    by_cases c : a < i
    · rw [if_pos c, T, T, ByteArray.size_extract]; omega
    · rw [if_neg c, T]; omega
  | cons b l ih =>
    intro a i hd ha hi
    obtain ⟨hlt, hd2, -⟩ := drop_step s i b l hd
    have h1 := ih (i + 1) (i + 1) hd2 (Nat.le_refl _) hlt
    have h2 := ih a (i + 1) hd2 (by omega) hlt
    rw [cut, List.length_cons]
    by_cases c32 : b = 32
    · rw [if_pos c32]
      by_cases c : a < i
      · rw [if_pos c, T, ByteArray.size_extract]; omega
      · rw [if_neg c]; omega
    · rw [if_neg c32]; omega

/-- What the law holds where font.Wrap holds lines and one open line. -/
def X (lines : List ByteArray) (line : ByteArray) : List ByteArray := if line.toList = ([] : List UInt8) then lines else lines ++ [line]

theorem eq_loop (l : List ByteArray) (hl : l.length ≤ 4000000000001) : ∀ (d i k : Nat), i + d = l.length → d < k → slices_Equal_string_string.l0 k l l (l.length : Int) (i : Int) = some true := by
  intro d
  induction d with
  | zero =>
    intro i k hi hk
    obtain ⟨k, rfl⟩ : ∃ m, k = m + 1 := ⟨k - 1, by omega⟩
    rw [slices_Equal_string_string.l0, if_neg (by omega)]
  | succ d ih =>
    intro i k hi hk
    obtain ⟨k, rfl⟩ : ∃ m, k = m + 1 := ⟨k - 1, by omega⟩
    have e2 : wrap64 ((i : Int) + 1) = ((i + 1 : Nat) : Int) := by rw [wrapF (by omega) (by omega)]; omega
    have := ih (i + 1) k (by omega) (by omega)
    rw [slices_Equal_string_string.l0]
    simp only [e2, this]
    simp

theorem eq_self (l : List ByteArray) (hl : l.length ≤ 4000000000001) (k : Nat) (hk : l.length < k) : slices_Equal_string_string.f k l l = some true := by
  unfold slices_Equal_string_string.f
  rw [if_pos rfl]
  exact eq_loop l hl l.length 0 k (by omega) hk

theorem empty_iff (s : ByteArray) : s.toList = ([] : List UInt8) ↔ s.size = 0 := by
  rw [Lib.toList_data, size_list]
  exact List.length_eq_zero_iff.symm

theorem rd_drop (W : List ByteArray) (j : Nat) (w : ByteArray) (ws : List ByteArray) (h : W.drop j = w :: ws) : j < W.length ∧ W.drop (j + 1) = ws ∧ rdOf ByteArray.empty W (j : Int) = w := by
  have hj : j < W.length := by
    refine Classical.byContradiction fun c => ?_
    rw [List.drop_eq_nil_of_le (by omega)] at h
    cases h
  have e := List.drop_eq_getElem_cons hj
  rw [e] at h
  obtain ⟨h1, h2⟩ := List.cons.inj h
  refine ⟨hj, h2, ?_⟩
  unfold rdOf
  simp [hj, h1]

theorem Good.plain {s : ByteArray} (h : Good s) (h40 : s.size ≤ 40) : Plain s := ⟨h40, h⟩

theorem good_space : Good (⟨#[32]⟩ : ByteArray) := by
  intro i hi
  have : i = 0 := by
    have z : (⟨#[32]⟩ : ByteArray).size = 1 := rfl
    omega
  subst this
  exact ⟨by decide, by decide⟩

theorem size_space : (⟨#[32]⟩ : ByteArray).size = 1 := rfl

theorem rd_last (l : List ByteArray) (x : ByteArray) : rdOf ByteArray.empty (l ++ [x]) (l.length : Int) = x := by
  unfold rdOf
  simp

theorem set_last (l : List ByteArray) (x y : ByteArray) : (l ++ [x]).set l.length y = l ++ [y] := by
  simp

/-- The law's words. -/
def W (s : ByteArray) : List ByteArray := cut s s.data.toList 0 0

theorem cut_len (s : ByteArray) : ∀ (l : List UInt8) (a i : Nat), (cut s l a i).length ≤ l.length + 1 := by
  intro l
  induction l with
  | nil => intro a i; rw [cut]; split <;> simp
  | cons b l ih =>
    intro a i
    have h1 := ih (i + 1) (i + 1)
    have h2 := ih a (i + 1)
    rw [cut, List.length_cons]
    by_cases c : b = 32
    · rw [if_pos c]
      by_cases c2 : a < i
      · rw [if_pos c2, List.length_cons]; omega
      · rw [if_neg c2]; omega
    · rw [if_neg c]; omega

theorem cut_mem (s : ByteArray) : ∀ (l : List UInt8) (a i : Nat) (w : ByteArray), w ∈ cut s l a i → ∃ p q : Nat, p < q ∧ w = s.extract p q ∧ q ≤ i + l.length := by
  intro l
  induction l with
  | nil =>
    intro a i w h
    rw [cut] at h
    by_cases c : a < i
    · rw [if_pos c] at h
      exact ⟨a, i, c, List.mem_singleton.1 h, by simp⟩
    · rw [if_neg c] at h; cases h
  | cons b l ih =>
    intro a i w h
    rw [cut] at h
    have rest : ∀ a', w ∈ cut s l a' (i + 1) → ∃ p q : Nat, p < q ∧ w = s.extract p q ∧ q ≤ i + (b :: l).length := by
      intro a' h
      obtain ⟨p, q, x, y, z⟩ := ih a' (i + 1) w h
      exact ⟨p, q, x, y, by rw [List.length_cons]; omega⟩
    by_cases c : b = 32
    · rw [if_pos c] at h
      by_cases c2 : a < i
      · rw [if_pos c2] at h
        rcases List.mem_cons.1 h with h | h
        · exact ⟨a, i, c2, h, by omega⟩
        · exact rest _ h
      · rw [if_neg c2] at h; exact rest _ h
    · rw [if_neg c] at h; exact rest _ h

theorem bt_extract (s : ByteArray) (p q i : Nat) (h : i < (s.extract p q).size) : bt (s.extract p q) (i : Int) = bt s ((p + i : Nat) : Int) := by
  have hs := h
  rw [ByteArray.size_extract] at hs
  unfold bt
  rw [dif_pos (show ((i : Nat) : Int).toNat < (s.extract p q).size from h), dif_pos (show ((p + i : Nat) : Int).toNat < s.size by show p + i < _; omega)]
  congr 2
  exact ByteArray.getElem_extract h

theorem W_facts (s : ByteArray) (hs : s.size ≤ 1048576) : (∀ w ∈ W s, w.size ≤ 4000000000000) ∧ (W s).length ≤ 1048577 ∧ (Plain s → (∀ w ∈ W s, Good w ∧ 0 < w.size) ∧ T (W s) ≤ 41 ∧ (W s).length ≤ 41) := by
  have hz := size_list s
  have hl := cut_len s s.data.toList 0 0
  refine ⟨fun w hw => ?_, by unfold W; omega, fun hp => ?_⟩
  · obtain ⟨p, q, h1, rfl, h2⟩ := cut_mem s _ _ _ w hw
    rw [ByteArray.size_extract]
    omega
  · refine ⟨fun w hw => ?_, ?_, ?_⟩
    · obtain ⟨p, q, h1, rfl, h2⟩ := cut_mem s _ _ _ w hw
      refine ⟨fun i hi => ?_, ?_⟩
      · rw [bt_extract s p q i hi]
        rw [ByteArray.size_extract] at hi
        exact hp.2 (p + i) (by omega)
      · rw [ByteArray.size_extract]
        omega
    · have := cut_T s s.data.toList 0 0 rfl (Nat.le_refl _) (Nat.zero_le _)
      have h40 := hp.1
      unfold W
      omega
    · have h40 := hp.1
      unfold W
      omega

theorem first_wrap : font_Wrap.f 200 (⟨#[97, 32, 98]⟩ : ByteArray) 1 5 = some ([⟨#[97]⟩, ⟨#[98]⟩], 0) := by decide +kernel

theorem words_eq (s : ByteArray) (hp : Plain s) : wordsB s = W s := by
  have hz := size_list s
  have h := cut_fields s s.data.toList 0 0 rfl (Nat.le_refl _) (Nat.zero_le _) (fun b hb => by
    obtain ⟨i, hi, e⟩ := List.getElem_of_mem hb
    have hlt : i < s.size := by omega
    have hd := drop_step s i b _ (by rw [← e]; exact List.drop_eq_getElem_cons hi)
    have := (hp.2 i hlt).1
    rw [hd.2.2] at this
    omega)
  have e : (s.extract 0 0).data.toList = [] := by
    have h1 : (s.extract 0 0).data.toList.length = 0 := by
      rw [← size_list, ByteArray.size_extract]
      omega
    exact List.eq_nil_of_length_eq_zero h1
  rw [e] at h
  unfold W
  rw [h]
  rfl

theorem ascii_ok (s : ByteArray) (hp : Plain s) : asciiB s = true := by
  have hz := size_list s
  have h40 := hp.1
  unfold asciiB
  rw [Bool.and_eq_true, decide_eq_true_iff, List.all_eq_true]
  refine ⟨by omega, fun b hb => ?_⟩
  obtain ⟨i, hi, e⟩ := List.getElem_of_mem hb
  have hlt : i < s.size := by omega
  have hd := drop_step s i b _ (by rw [← e]; exact List.drop_eq_getElem_cons hi)
  have := (hp.2 i hlt).2
  rw [hd.2.2] at this
  exact decide_eq_true (by omega)

end Go.Proofs.YtojehbkadlmbjaaDoor.U
