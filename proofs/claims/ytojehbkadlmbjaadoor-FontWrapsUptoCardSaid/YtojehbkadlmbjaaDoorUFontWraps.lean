/- The plain law of FontWraps: the printed twin answers true. Condition: the text has at most 1048576 bytes. -/
import Derived.Test.YtojehbkadlmbjaaDoorUWi
namespace Go.Proofs.YtojehbkadlmbjaaDoor.U
open Go.RowKit Go.Proofs.YtojehbkadlmbjaaDoor.Q Go.Proofs.YtojehbkadlmbjaaDoorW.PrintWords Go.Proofs.YtojehbkadlmbjaaDoorW.PrintLast Go.Proofs.YtojehbkadlmbjaaDoorW.PrintMore
set_option linter.unusedSimpArgs false
set_option linter.unusedVariables false

/-- The law's words. -/
def W (s : ByteArray) : List ByteArray := cut s s.data.toList 0 0

theorem cut_len (s : ByteArray) : ∀ (l : List UInt8) (a i : Nat), (cut s l a i).length ≤ l.length + 1 := by
  intro l
  induction l with
  | nil => intro a i; rw [cut]; split <;> simp
  | cons b l ih =>
    intro a i
    have h1 := ih (i + 1) (i + 1)
    have h2 := ih a (i + 1)
    rw [cut, List.length_cons]
    by_cases c : b = 32
    · rw [if_pos c]
      by_cases c2 : a < i
      · rw [if_pos c2, List.length_cons]; omega
      · rw [if_neg c2]; omega
    · rw [if_neg c]; omega

theorem cut_mem (s : ByteArray) : ∀ (l : List UInt8) (a i : Nat) (w : ByteArray), w ∈ cut s l a i → ∃ p q : Nat, p < q ∧ w = s.extract p q ∧ q ≤ i + l.length := by
  intro l
  induction l with
  | nil =>
    intro a i w h
    rw [cut] at h
    by_cases c : a < i
    · rw [if_pos c] at h
      exact ⟨a, i, c, List.mem_singleton.1 h, by simp⟩
    · rw [if_neg c] at h; cases h
  | cons b l ih =>
    intro a i w h
    rw [cut] at h
    have rest : ∀ a', w ∈ cut s l a' (i + 1) → ∃ p q : Nat, p < q ∧ w = s.extract p q ∧ q ≤ i + (b :: l).length := by
      intro a' h
      obtain ⟨p, q, x, y, z⟩ := ih a' (i + 1) w h
      exact ⟨p, q, x, y, by rw [List.length_cons]; omega⟩
    by_cases c : b = 32
    · rw [if_pos c] at h
      by_cases c2 : a < i
      · rw [if_pos c2] at h
        rcases List.mem_cons.1 h with h | h
        · exact ⟨a, i, c2, h, by omega⟩
        · exact rest _ h
      · rw [if_neg c2] at h; exact rest _ h
    · rw [if_neg c] at h; exact rest _ h

theorem bt_extract (s : ByteArray) (p q i : Nat) (h : i < (s.extract p q).size) : bt (s.extract p q) (i : Int) = bt s ((p + i : Nat) : Int) := by
  have hs := h
  rw [ByteArray.size_extract] at hs
  unfold bt
  rw [dif_pos (show ((i : Nat) : Int).toNat < (s.extract p q).size from h), dif_pos (show ((p + i : Nat) : Int).toNat < s.size by show p + i < _; omega)]
  congr 2
  exact ByteArray.getElem_extract h

theorem W_facts (s : ByteArray) (hs : s.size ≤ 1048576) : (∀ w ∈ W s, w.size ≤ 4000000000000) ∧ (W s).length ≤ 1048577 ∧ (Plain s → (∀ w ∈ W s, Good w ∧ 0 < w.size) ∧ T (W s) ≤ 41 ∧ (W s).length ≤ 41) := by
  have hz := size_list s
  have hl := cut_len s s.data.toList 0 0
  refine ⟨fun w hw => ?_, by unfold W; omega, fun hp => ?_⟩
  · obtain ⟨p, q, h1, rfl, h2⟩ := cut_mem s _ _ _ w hw
    rw [ByteArray.size_extract]
    omega
  · refine ⟨fun w hw => ?_, ?_, ?_⟩
    · obtain ⟨p, q, h1, rfl, h2⟩ := cut_mem s _ _ _ w hw
      refine ⟨fun i hi => ?_, ?_⟩
      · rw [bt_extract s p q i hi]
        rw [ByteArray.size_extract] at hi
        exact hp.2 (p + i) (by omega)
      · rw [ByteArray.size_extract]
        omega
    · have := cut_T s s.data.toList 0 0 rfl (Nat.le_refl _) (Nat.zero_le _)
      have h40 := hp.1
      unfold W
      omega
    · have h40 := hp.1
      unfold W
      omega

theorem start (s : ByteArray) (hs : s.size ≤ 1048576) (x1 x2 : Int) (x9 : List ByteArray) (x10 x13 : Int) (h : ∃ k, terrlaw5_FontWraps.l2 k x1 x2 x9 x10 x13 [] (W s) ((W s).length : Int) 0 = some true) :
    ∃ k, terrlaw5_FontWraps.j2 k s x1 x2 x9 x10 x13 = some true := by
  have hz := size_list s
  by_cases c : 0 < s.size
  · obtain ⟨k, hk⟩ := split_loop s (by omega) x1 x2 x9 x10 x13 s.data.toList 0 0 [] rfl (Nat.le_refl _) (Nat.zero_le _) (Nat.le_refl _) h
    refine ⟨k + 2, ?_⟩
    rw [terrlaw5_FontWraps.j2, terrlaw5_FontWraps.l0, if_pos (by omega)]
    exact hk
  · have hn : s.data.toList = [] := List.eq_nil_of_length_eq_zero (by omega)
    have hW : W s = [] := by unfold W; rw [hn, cut, if_neg (Nat.lt_irrefl _)]
    rw [hW] at h
    obtain ⟨k, hk⟩ := h
    refine ⟨k + 2, ?_⟩
    rw [terrlaw5_FontWraps.j2, terrlaw5_FontWraps.l0, if_neg (by omega)]
    exact hk

theorem fault (s : ByteArray) (hs : s.size ≤ 1048576) (x1 x2 e : Int) (he : e ≠ 0) : ∃ k, terrlaw5_FontWraps.j2 k s x1 x2 [] e e = some true := by
  obtain ⟨h1, h2, -⟩ := W_facts s hs
  refine start s hs x1 x2 [] e e ⟨3 * (W s).length + 130, ?_⟩
  exact fault_loop x1 x2 e he (W s) h1 (by omega) (W s).length 0 [] _ (by omega) (Nat.le_refl _) (Nat.le_refl _) (fun _ h => by cases h)

theorem first_wrap : font_Wrap.f 200 (⟨#[97, 32, 98]⟩ : ByteArray) 1 5 = some ([⟨#[97]⟩, ⟨#[98]⟩], 0) := by decide +kernel

/-- What remains behind the law's first call. -/
theorem behind (s : ByteArray) (x1 x2 : Int) (h : ∃ k, terrlaw5_FontWraps.j0 k s x1 x2 false = some true) : ∃ k, terrlaw5_FontWraps.f k s x1 x2 = some true := by
  obtain ⟨k, hk⟩ := h
  have hw := at_rounds (font_Wrap.mono _ _ _) (Nat.le_add_left 200 k) first_wrap
  have hj := at_rounds (fun k => (terrlaw5_FontWraps.mono_l k).1 _ _ _ _) (Nat.le_add_right k 200) hk
  refine ⟨k + 200, ?_⟩
  unfold terrlaw5_FontWraps.f
  rw [hw, Option.bind_some, if_pos rfl]
  exact hj

theorem words_eq (s : ByteArray) (hp : Plain s) : wordsB s = W s := by
  have hz := size_list s
  have h := cut_fields s s.data.toList 0 0 rfl (Nat.le_refl _) (Nat.zero_le _) (fun b hb => by
    obtain ⟨i, hi, e⟩ := List.getElem_of_mem hb
    have hlt : i < s.size := by omega
    have hd := drop_step s i b _ (by rw [← e]; exact List.drop_eq_getElem_cons hi)
    have := (hp.2 i hlt).1
    rw [hd.2.2] at this
    omega)
  have e : (s.extract 0 0).data.toList = [] := by
    have h1 : (s.extract 0 0).data.toList.length = 0 := by
      rw [← size_list, ByteArray.size_extract]
      omega
    exact List.eq_nil_of_length_eq_zero h1
  rw [e] at h
  unfold W
  rw [h]
  rfl

theorem ascii_ok (s : ByteArray) (hp : Plain s) : asciiB s = true := by
  have hz := size_list s
  have h40 := hp.1
  unfold asciiB
  rw [Bool.and_eq_true, decide_eq_true_iff, List.all_eq_true]
  refine ⟨by omega, fun b hb => ?_⟩
  obtain ⟨i, hi, e⟩ := List.getElem_of_mem hb
  have hlt : i < s.size := by omega
  have hd := drop_step s i b _ (by rw [← e]; exact List.drop_eq_getElem_cons hi)
  have := (hp.2 i hlt).2
  rw [hd.2.2] at this
  exact decide_eq_true (by omega)

theorem law (s : ByteArray) (hs : s.size ≤ 1048576) (x1 x2 : Int) : ∃ k, terrlaw5_FontWraps.f k s x1 x2 = some true := by
  refine behind s x1 x2 ?_
  by_cases c : 1 ≤ x1 ∧ x1 ≤ 8 ∧ Plain s
  · obtain ⟨z1, z8, hp⟩ := c
    by_cases c1 : x2 < 1
    · obtain ⟨k, hk⟩ := fault s hs x1 x2 1 (by decide)
      have hk2 := at_rounds (fun k => (terrlaw5_FontWraps.mono_l k).2.2.1 _ _ _ _ _ _) (Nat.le_add_right k 200) hk
      obtain ⟨q1, q2⟩ := both_good s hp x1 z1 z8 (k + 200 + 1) (by omega)
      refine ⟨k + 200 + 2, ?_⟩
      rw [terrlaw5_FontWraps.j0, if_neg (by decide)]
      unfold font_Wrap.f
      rw [q1, Option.bind_some, if_pos rfl, if_pos c1, Option.bind_some, q2, Option.bind_some, if_pos rfl, decide_eq_true c1, terrlaw5_FontWraps.j1, if_pos rfl]
      exact hk2
    · obtain ⟨h1, h2, h3⟩ := W_facts s hs
      obtain ⟨h3, h4, h5⟩ := h3 hp
      obtain ⟨r, p, q⟩ := wrap_loop x1 x2 z1 z8 (W s) (by omega) h3 h1 (W s) 0 [] (⟨#[]⟩ : ByteArray) rfl (Nat.zero_le _) (fun i hi => absurd hi (Nat.not_lt_zero i)) (Nat.le_refl _) (fun _ h => by cases h) (fun _ => ⟨rfl, h4⟩) (fun h => absurd rfl h)
      have hX : X [] (⟨#[]⟩ : ByteArray) = [] := by unfold X; rw [if_pos ((empty_iff _).2 rfl)]
      rw [hX] at q
      obtain ⟨k, hk⟩ := start s hs x1 x2 r.1 r.2 0 ⟨_, q _ (Nat.le_refl _)⟩
      have hk2 := at_rounds (fun k => (terrlaw5_FontWraps.mono_l k).2.2.1 _ _ _ _ _ _) (Nat.le_add_right k 2000) hk
      obtain ⟨q1, q2⟩ := both_good s hp x1 z1 z8 (k + 2000 + 1) (by omega)
      refine ⟨k + 2000 + 2, ?_⟩
      rw [terrlaw5_FontWraps.j0, if_neg (by decide)]
      unfold font_Wrap.f
      have hf : strings_Fields.f (k + 2000 + 1) s = some (W s) := by
        unfold strings_Fields.f
        rw [if_pos (ascii_ok s hp), words_eq s hp]
      have hp0 : font_Wrap.l0 (k + 2000 + 1) x1 x2 ([] : List ByteArray) (⟨#[]⟩ : ByteArray) (W s) ((W s).length : Int) 0 = some r := p (k + 2000 + 1) (by omega)
      rw [q1, Option.bind_some, if_pos rfl, if_neg c1, hf, Option.bind_some, hp0, Option.bind_some, q2, Option.bind_some, if_pos rfl, decide_eq_false c1, terrlaw5_FontWraps.j1, if_neg (by decide)]
      exact hk2
  · obtain ⟨e, he, -, -⟩ := both_bad s x1 c 120 (Nat.le_refl _)
    obtain ⟨e2, he2, g1, g2⟩ := both_bad s x1 c 120 (Nat.le_refl _)
    obtain ⟨k, hk⟩ := fault s hs x1 x2 e2 he2
    have hk2 := at_rounds (fun k => (terrlaw5_FontWraps.mono_l k).2.2.1 _ _ _ _ _ _) (Nat.le_add_right k 200) hk
    have q1 := at_rounds (font_Size.mono _ _) (show 120 ≤ k + 200 + 1 by omega) g1
    have q2 := at_rounds (terrref5_TextSize.mono _ _) (show 120 ≤ k + 200 + 1 by omega) g2
    refine ⟨k + 200 + 2, ?_⟩
    rw [terrlaw5_FontWraps.j0, if_neg (by decide)]
    unfold font_Wrap.f
    rw [q1, Option.bind_some, if_neg he2, Option.bind_some, q2, Option.bind_some, if_neg he2, terrlaw5_FontWraps.j1, if_neg (by decide)]
    exact hk2

end Go.Proofs.YtojehbkadlmbjaaDoor.U
