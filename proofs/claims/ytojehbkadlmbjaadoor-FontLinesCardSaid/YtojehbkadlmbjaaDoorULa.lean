/- Words joined by spaces: their bytes, their size, their fields, the first of them. Conditions: stated at each. -/
import Derived.Test.YtojehbkadlmbjaaDoorQFontLines
import Derived.Test.YtojehbkadlmbjaaDoorUWv
namespace Go.Proofs.YtojehbkadlmbjaaDoor.U
open Go.RowKit Go.Proofs.YtojehbkadlmbjaaDoor.Q Go.Proofs.YtojehbkadlmbjaaDoorW.PrintWords Go.Proofs.YtojehbkadlmbjaaDoorW.PrintLast Go.Proofs.YtojehbkadlmbjaaDoorW.PrintMore
set_option linter.unusedSimpArgs false
set_option linter.unusedVariables false

/-- Words, with one space between them. -/
def J : List ByteArray → ByteArray
  | [] => ⟨#[]⟩
  | w :: ws => ws.foldl (fun a b => (a ++ (⟨#[32]⟩ : ByteArray)) ++ b) w

theorem J_cons (w : ByteArray) (ws : List ByteArray) : J (w :: ws) = ws.foldl (fun a b => (a ++ (⟨#[32]⟩ : ByteArray)) ++ b) w := rfl
theorem J_two (w x : ByteArray) (r : List ByteArray) : J (w :: x :: r) = J (((w ++ (⟨#[32]⟩ : ByteArray)) ++ x) :: r) := rfl
theorem J_one (w : ByteArray) : J [w] = w := rfl

theorem J_snoc (g : List ByteArray) (hg : g ≠ []) (w : ByteArray) : J (g ++ [w]) = (J g ++ (⟨#[32]⟩ : ByteArray)) ++ w := by
  match g, hg with
  | x :: r, _ =>
    show J (x :: (r ++ [w])) = _
    rw [J_cons, J_cons, List.foldl_append]
    rfl

theorem data_app (a b : ByteArray) : (a ++ b).data.toList = a.data.toList ++ b.data.toList := by
  rw [ByteArray.data_append, Array.toList_append]

theorem J_data (ws : List ByteArray) : ∀ w, (J (w :: ws)).data.toList = w.data.toList ++ Lib.joinTail [32] (ws.map (·.data.toList)) := by
  induction ws with
  | nil => intro w; rw [J_one]; simp [Lib.joinTail]
  | cons x r ih =>
    intro w
    rw [J_two, ih, data_app, data_app]
    simp [Lib.joinTail]

theorem joinB_J (ws : List ByteArray) : joinB ws (⟨#[32]⟩ : ByteArray) = J ws ∧ (Lib.join (ws.map (·.data.toList)) (⟨#[32]⟩ : ByteArray).data.toList) = (J ws).data.toList := by
  have e2 : (Lib.join (ws.map (·.data.toList)) (⟨#[32]⟩ : ByteArray).data.toList) = (J ws).data.toList := by
    match ws with
    | [] => rfl
    | w :: r => rw [J_data, List.map_cons, Lib.join_cons]
  refine ⟨?_, e2⟩
  unfold joinB
  rw [e2, Array.toArray_toList]

theorem J_size (ws : List ByteArray) : ∀ w, (J (w :: ws)).size + 1 = T (w :: ws) := by
  induction ws with
  | nil => intro w; rfl
  | cons x r ih =>
    intro w
    rw [J_two, ih, T, T, T, size_app, size_app, size_space]
    omega

theorem J_app (a b : List ByteArray) (ha : a ≠ []) (hb : b ≠ []) : J (a ++ b) = (J a ++ (⟨#[32]⟩ : ByteArray)) ++ J b := by
  match b, hb with
  | y :: r, _ =>
    induction r generalizing y with
    | nil => exact J_snoc a ha y
    | cons z r ih =>
      have h := ih ((y ++ (⟨#[32]⟩ : ByteArray)) ++ z) (by simp)
      have e : J (a ++ y :: z :: r) = J (a ++ ((y ++ (⟨#[32]⟩ : ByteArray)) ++ z) :: r) := by
        match a, ha with
        | x :: l, _ =>
          show J (x :: (l ++ y :: z :: r)) = J (x :: (l ++ ((y ++ (⟨#[32]⟩ : ByteArray)) ++ z) :: r))
          rw [J_cons, J_cons, List.foldl_append, List.foldl_append]
          simp only [List.foldl_cons, ByteArray.append_assoc]
      rw [e, h, J_two]

theorem J_flat (gs : List (List ByteArray)) (h : ∀ g ∈ gs, g ≠ []) : J (gs.map J) = J gs.flatten := by
  induction gs with
  | nil => rfl
  | cons g r ih =>
    have ih := ih (fun x hx => h x (List.mem_cons_of_mem _ hx))
    have hg := h g List.mem_cons_self
    match r, ih, h with
    | [], _, _ => rw [List.map_cons, List.map_nil, J_one]; simp
    | x :: r, ih, h =>
      have hx := h x (List.mem_cons_of_mem _ List.mem_cons_self)
      rw [List.map_cons, List.flatten_cons, J_app g _ hg (by rw [List.flatten_cons]; intro e; exact hx (List.append_eq_nil_iff.1 e).1), ← ih]
      exact J_app [J g] _ (by simp) (by simp)

theorem J_good (ws : List ByteArray) (h : ∀ w ∈ ws, Good w) : Good (J ws) := by
  match ws, h with
  | [], _ => exact fun i hi => absurd hi (Nat.not_lt_zero i)
  | w :: r, h =>
    induction r generalizing w with
    | nil => exact h w List.mem_cons_self
    | cons x r ih =>
      rw [J_two]
      refine ih _ ?_
      intro y hy
      rcases List.mem_cons.1 hy with rfl | hy
      · exact ((h w List.mem_cons_self).app good_space).app (h x (by simp))
      · exact h y (by simp [hy])

/-! ### fields -/
def NoSp (l : List UInt8) : Prop := l ≠ [] ∧ ∀ b ∈ l, Lib.isSp b = false

theorem go_skip (rest : List UInt8) : ∀ (l cur : List UInt8), (∀ b ∈ l, Lib.isSp b = false) → Lib.fieldsGo cur (l ++ rest) = Lib.fieldsGo (cur ++ l) rest := by
  intro l
  induction l with
  | nil => intro cur _; simp
  | cons b l ih =>
    intro cur h
    rw [List.cons_append, Lib.fieldsGo_more cur b _ (h b List.mem_cons_self), ih _ (fun x hx => h x (List.mem_cons_of_mem _ hx)), List.append_assoc]
    rfl

theorem fields_join : ∀ (r : List (List UInt8)) (w : List UInt8), NoSp w → (∀ x ∈ r, NoSp x) → Lib.fieldsGo [] (w ++ Lib.joinTail [32] r) = w :: r := by
  intro r
  induction r with
  | nil =>
    intro w hw _
    rw [go_skip _ w [] hw.2]
    simp only [Lib.joinTail, List.map_nil, List.flatten_nil, List.nil_append, Lib.fieldsGo]
    rw [if_neg (by simpa using hw.1)]
  | cons x r ih =>
    intro w hw h
    have e : Lib.joinTail [32] (x :: r) = 32 :: (x ++ Lib.joinTail [32] r) := by simp [Lib.joinTail]
    rw [go_skip _ w [] hw.2, e, List.nil_append, Lib.fieldsGo_end w 32 _ rfl hw.1, ih x (h x List.mem_cons_self) (fun y hy => h y (List.mem_cons_of_mem _ hy))]

theorem fieldsGo_nosp : ∀ (l cur : List UInt8), (∀ b ∈ cur, Lib.isSp b = false) → ∀ f ∈ Lib.fieldsGo cur l, NoSp f := by
  intro l
  induction l with
  | nil =>
    intro cur hc f hf
    rw [Lib.fieldsGo] at hf
    cases cur with
    | nil => simp at hf
    | cons a b =>
      simp at hf
      subst hf
      exact ⟨by simp, hc⟩
  | cons b l ih =>
    intro cur hc f hf
    cases hb : Lib.isSp b with
    | true =>
      rw [Lib.fieldsGo, if_pos hb] at hf
      cases cur with
      | nil => exact ih [] (fun x hx => by cases hx) f (by simpa using hf)
      | cons a c =>
        rw [if_neg (by simp)] at hf
        rcases List.mem_cons.1 hf with rfl | hf
        · exact ⟨by simp, hc⟩
        · exact ih [] (fun x hx => by cases hx) f hf
    | false =>
      rw [Lib.fieldsGo_more cur b l hb] at hf
      refine ih _ ?_ f hf
      intro x hx
      rcases List.mem_append.1 hx with hx | hx
      · exact hc x hx
      · rw [List.mem_singleton.1 hx]; exact hb

theorem words_J (ws : List ByteArray) (h : ∀ w ∈ ws, NoSp w.data.toList) : wordsB (J ws) = ws := by
  match ws, h with
  | [], _ => rfl
  | w :: r, h =>
    unfold wordsB Lib.fields
    rw [J_data, fields_join _ _ (h w List.mem_cons_self) (by
      intro x hx
      obtain ⟨y, hy, rfl⟩ := List.mem_map.1 hx
      exact h y (List.mem_cons_of_mem _ hy))]
    rw [List.map_cons, List.map_map]
    have e : ∀ x : ByteArray, (⟨x.data.toList.toArray⟩ : ByteArray) = x := fun x => by rw [Array.toArray_toList]
    rw [e]
    congr 1
    exact (List.map_congr_left (fun x _ => e x)).trans (List.map_id _)

theorem words_nosp (s : ByteArray) : ∀ w ∈ wordsB s, NoSp w.data.toList := by
  intro w hw
  unfold wordsB Lib.fields at hw
  obtain ⟨f, hf, rfl⟩ := List.mem_map.1 hw
  exact fieldsGo_nosp _ [] (fun x hx => by cases hx) f hf

/-! ### the first word of a line -/
theorem idx_hit (rest : List UInt8) : ∀ l : List UInt8, (∀ b ∈ l, b ≠ 32) → Lib.index (l ++ 32 :: rest) [32] = (l.length : Int) := by
  intro l
  induction l with
  | nil => intro _; rw [List.nil_append, Lib.index, if_pos (by simp [List.isPrefixOf])]; rfl
  | cons b l ih =>
    intro h
    have hb := h b List.mem_cons_self
    have hi := ih (fun x hx => h x (List.mem_cons_of_mem _ hx))
    rw [List.cons_append, Lib.index, if_neg (by simpa [List.isPrefixOf] using fun e => hb e.symm), hi, if_neg (by simp), List.length_cons]
    omega
theorem idx_none : ∀ l : List UInt8, (∀ b ∈ l, b ≠ 32) → Lib.index l [32] = -1 := by
  intro l
  induction l with
  | nil => intro _; rfl
  | cons b l ih =>
    intro h
    have hb := h b List.mem_cons_self
    have hi := ih (fun x hx => h x (List.mem_cons_of_mem _ hx))
    rw [Lib.index, if_neg (by simpa [List.isPrefixOf] using fun e => hb e.symm), hi]
    rfl

theorem cut_first (w : ByteArray) (r : List ByteArray) (h : NoSp w.data.toList) : (cutB (J (w :: r)) (⟨#[32]⟩ : ByteArray)).1 = w := by
  have h32 : ∀ b ∈ w.data.toList, b ≠ 32 := by
    intro b hb e
    subst e
    exact absurd (h.2 _ hb) (by decide)
  have e : (Lib.cut (J (w :: r)).data.toList (⟨#[32]⟩ : ByteArray).data.toList).1 = w.data.toList := by
    rw [J_data]
    show (Lib.cut (w.data.toList ++ Lib.joinTail [32] (r.map (·.data.toList))) [32]).1 = _
    match r with
    | [] =>
      have e0 : w.data.toList ++ Lib.joinTail [32] (([] : List ByteArray).map (·.data.toList)) = w.data.toList := by simp [Lib.joinTail]
      rw [e0]
      unfold Lib.cut
      rw [idx_none _ h32, if_neg (by decide)]
    | x :: r =>
      have e0 : Lib.joinTail [32] ((x :: r).map (·.data.toList)) = 32 :: (x.data.toList ++ Lib.joinTail [32] (r.map (·.data.toList))) := by simp [Lib.joinTail]
      rw [e0]
      unfold Lib.cut
      rw [idx_hit _ _ h32, if_pos (by omega)]
      simp
  unfold cutB
  show (⟨(Lib.cut (J (w :: r)).data.toList (⟨#[32]⟩ : ByteArray).data.toList).1.toArray⟩ : ByteArray) = w
  rw [e, Array.toArray_toList]

end Go.Proofs.YtojehbkadlmbjaaDoor.U
