/- font.Wrap's answer: lines of words, each of them within the width, none with room for the next word; or a word is too wide. Conditions: stated at each. -/
import Derived.Test.YtojehbkadlmbjaaDoorULa
namespace Go.Proofs.YtojehbkadlmbjaaDoor.U
open Go.RowKit Go.Proofs.YtojehbkadlmbjaaDoor.Q Go.Proofs.YtojehbkadlmbjaaDoorW.PrintWords Go.Proofs.YtojehbkadlmbjaaDoorW.PrintLast Go.Proofs.YtojehbkadlmbjaaDoorW.PrintMore
set_option linter.unusedSimpArgs false
set_option linter.unusedVariables false

def One (x1 x2 : Int) (g : List ByteArray) : Prop := g ≠ [] ∧ 0 < (J g).size ∧ Plain (J g) ∧ x1 * widthOf (J g) ≤ x2
def Two (x1 x2 : Int) (g g2 : List ByteArray) : Prop := Plain ((J g ++ (⟨#[32]⟩ : ByteArray)) ++ g2.headD ByteArray.empty) ∧ ¬ x1 * widthOf ((J g ++ (⟨#[32]⟩ : ByteArray)) ++ g2.headD ByteArray.empty) ≤ x2
def Lines (x1 x2 : Int) : List (List ByteArray) → Prop
  | [] => True
  | [g] => One x1 x2 g
  | g :: g2 :: r => One x1 x2 g ∧ Two x1 x2 g g2 ∧ Lines x1 x2 (g2 :: r)

theorem wspec (x1 x2 : Int) (z1 : 1 ≤ x1) (z8 : x1 ≤ 8) (W : List ByteArray) (hl : W.length ≤ 900) (hG : ∀ w ∈ W, Good w ∧ 0 < w.size) :
    ∀ (ws : List ByteArray) (j : Nat) (lines : List ByteArray) (g : List ByteArray), W.drop j = ws → j ≤ W.length → g ≠ [] → Good (J g) → 0 < (J g).size → lines.length + 1 ≤ j → (J g).size + T ws ≤ 40 → x1 * widthOf (J g) ≤ x2 →
    (∀ k, 2 * ws.length + 1500 ≤ k → font_Wrap.l0 k x1 x2 lines (J g) W (W.length : Int) (j : Int) = some ([], 17)) ∨
    ∃ more rest, (∀ k, 2 * ws.length + 1500 ≤ k → font_Wrap.l0 k x1 x2 lines (J g) W (W.length : Int) (j : Int) = some (lines ++ ((g ++ more) :: rest).map J, 0)) ∧ (g ++ more) ++ rest.flatten = g ++ ws ∧ Lines x1 x2 ((g ++ more) :: rest) := by
  intro ws
  induction ws with
  | nil =>
    intro j lines g hd hj hg gg g0 hln h40 hw
    have hj2 : j = W.length := by
      have := congrArg List.length hd
      rw [List.length_drop] at this
      simp at this
      omega
    subst hj2
    refine .inr ⟨[], [], fun k hk => ?_, by simp, ?_⟩
    · obtain ⟨k, rfl⟩ : ∃ m, k = m + 1 := ⟨k - 1, by omega⟩
      rw [font_Wrap.l0, if_neg (Int.lt_irrefl _), if_neg (by rw [empty_iff]; omega), if_pos (by omega), List.append_nil]
      rfl
    · rw [List.append_nil]
      exact ⟨hg, g0, gg.plain (by have : T [] = 0 := rfl; omega), hw⟩
  | cons w ws ih =>
    intro j lines g hd hj hg gg g0 hln h40 hw
    obtain ⟨hj, hd2, hr⟩ := rd_drop W j w ws hd
    have hwm : w ∈ W := by rw [← hr]; exact rd_mem W j hj
    obtain ⟨gw, w0⟩ := hG w hwm
    have e2 : wrap64 ((j : Int) + 1) = ((j + 1 : Nat) : Int) := by rw [wrapF (by omega) (by omega)]; omega
    have hT : T (w :: ws) = w.size + 1 + T ws := rfl
    have hle : ¬ (J g).toList = ([] : List UInt8) := by rw [empty_iff]; omega
    have hpw : Plain w := gw.plain (by omega)
    have gj : Good ((J g ++ (⟨#[32]⟩ : ByteArray)) ++ w) := (gg.app good_space).app gw
    have hsz : ((J g ++ (⟨#[32]⟩ : ByteArray)) ++ w).size = (J g).size + 1 + w.size := by rw [size_app, size_app, size_space]
    have hpj : Plain ((J g ++ (⟨#[32]⟩ : ByteArray)) ++ w) := gj.plain (by omega)
    have hJ : J (g ++ [w]) = (J g ++ (⟨#[32]⟩ : ByteArray)) ++ w := J_snoc g hg w
    rw [List.length_cons]
    by_cases c2 : x1 * widthOf ((J g ++ (⟨#[32]⟩ : ByteArray)) ++ w) ≤ x2
    · have step : ∀ (r : List ByteArray × Int), (∀ k, 2 * ws.length + 1500 ≤ k → font_Wrap.l0 k x1 x2 lines (J (g ++ [w])) W (W.length : Int) ((j + 1 : Nat) : Int) = some r) → ∀ k, 2 * (ws.length + 1) + 1500 ≤ k → font_Wrap.l0 k x1 x2 lines (J g) W (W.length : Int) (j : Int) = some r := by
        intro r p k hk
        obtain ⟨k, rfl⟩ : ∃ m, k = m + 2 := ⟨k - 2, by omega⟩
        have hs := (both_good _ hpj x1 z1 z8 k (by omega)).1
        have p := p k (by omega)
        rw [hJ] at p
        rw [font_Wrap.l0, if_pos (by omega), if_pos (by omega), if_pos (by omega), if_neg hle, hr, if_pos (by omega), if_pos (by rw [size_app, size_space]; omega), font_Wrap.j1, hs, Option.bind_some, if_pos c2, e2]
        exact p
      rcases ih (j + 1) lines (g ++ [w]) hd2 hj (by simp) (by rw [hJ]; exact gj) (by rw [hJ]; omega) (by omega) (by rw [hJ]; omega) (by rw [hJ]; exact c2) with p | ⟨more, rest, p, q, t⟩
      · exact .inl (step _ p)
      · refine .inr ⟨w :: more, rest, ?_, ?_, ?_⟩
        · have e : g ++ w :: more = g ++ [w] ++ more := by simp
          rw [e]
          exact step _ p
        · have e : g ++ w :: more = g ++ [w] ++ more := by simp
          rw [e, q]
          simp
        · have e : g ++ w :: more = g ++ [w] ++ more := by simp
          rw [e]
          exact t
    · by_cases c3 : x1 * widthOf w > x2
      · refine .inl fun k hk => ?_
        obtain ⟨k, rfl⟩ : ∃ m, k = m + 2 := ⟨k - 2, by omega⟩
        have hs := (both_good _ hpj x1 z1 z8 k (by omega)).1
        have hs2 := (both_good w hpw x1 z1 z8 k (by omega)).1
        rw [font_Wrap.l0, if_pos (by omega), if_pos (by omega), if_pos (by omega), if_neg hle, hr, if_pos (by omega), if_pos (by rw [size_app, size_space]; omega), font_Wrap.j1, hs, Option.bind_some, if_neg c2, if_neg hle, hs2, Option.bind_some, if_pos c3]
      · have step : ∀ (r : List ByteArray × Int), (∀ k, 2 * ws.length + 1500 ≤ k → font_Wrap.l0 k x1 x2 (lines ++ [J g]) (J [w]) W (W.length : Int) ((j + 1 : Nat) : Int) = some r) → ∀ k, 2 * (ws.length + 1) + 1500 ≤ k → font_Wrap.l0 k x1 x2 lines (J g) W (W.length : Int) (j : Int) = some r := by
          intro r p k hk
          obtain ⟨k, rfl⟩ : ∃ m, k = m + 2 := ⟨k - 2, by omega⟩
          have hs := (both_good _ hpj x1 z1 z8 k (by omega)).1
          have hs2 := (both_good w hpw x1 z1 z8 k (by omega)).1
          have p := p k (by omega)
          rw [J_one] at p
          rw [font_Wrap.l0, if_pos (by omega), if_pos (by omega), if_pos (by omega), if_neg hle, hr, if_pos (by omega), if_pos (by rw [size_app, size_space]; omega), font_Wrap.j1, hs, Option.bind_some, if_neg c2, if_neg hle, hs2, Option.bind_some, if_neg c3, if_pos (by omega), e2]
          exact p
        rcases ih (j + 1) (lines ++ [J g]) [w] hd2 hj (by simp) gw w0 (by rw [List.length_append, List.length_singleton]; omega) (by rw [J_one]; omega) (by rw [J_one]; omega) with p | ⟨more, rest, p, q, t⟩
        · exact .inl (step _ p)
        · refine .inr ⟨[], ([w] ++ more) :: rest, ?_, ?_, ?_⟩
          · have e : lines ++ ((g ++ []) :: ([w] ++ more) :: rest).map J = (lines ++ [J g]) ++ (([w] ++ more) :: rest).map J := by simp
            rw [e]
            exact step _ p
          · rw [List.append_nil, List.flatten_cons, q]
            simp
          · rw [List.append_nil]
            exact ⟨⟨hg, g0, gg.plain (by omega), hw⟩, ⟨hpj, c2⟩, t⟩

theorem wspec0 (x1 x2 : Int) (z1 : 1 ≤ x1) (z8 : x1 ≤ 8) (W : List ByteArray) (hl : W.length ≤ 900) (hG : ∀ w ∈ W, Good w ∧ 0 < w.size) (hT : T W ≤ 41) :
    ∃ K, (∀ k, K ≤ k → font_Wrap.l0 k x1 x2 [] (⟨#[]⟩ : ByteArray) W (W.length : Int) 0 = some ([], 17)) ∨
    ∃ gs, (∀ k, K ≤ k → font_Wrap.l0 k x1 x2 [] (⟨#[]⟩ : ByteArray) W (W.length : Int) 0 = some (gs.map J, 0)) ∧ gs.flatten = W ∧ Lines x1 x2 gs := by
  have hem : (⟨#[]⟩ : ByteArray).toList = ([] : List UInt8) := (empty_iff _).2 rfl
  match W, hl, hG, hT with
  | [], _, _, _ =>
    refine ⟨1, .inr ⟨[], fun k hk => ?_, rfl, trivial⟩⟩
    obtain ⟨k, rfl⟩ : ∃ m, k = m + 1 := ⟨k - 1, by omega⟩
    rw [font_Wrap.l0, if_neg (by simp), if_pos hem]
    rfl
  | w :: ws, hl, hG, hT =>
    have hT2 : T (w :: ws) = w.size + 1 + T ws := rfl
    obtain ⟨gw, w0⟩ := hG w List.mem_cons_self
    have hpw : Plain w := gw.plain (by omega)
    have hlen : ((w :: ws).length : Int) = (ws.length : Int) + 1 := by rw [List.length_cons]; omega
    have hr : rdOf ByteArray.empty (w :: ws) 0 = w := rfl
    have e1 : wrap64 (0 + 1) = ((1 : Nat) : Int) := wrapF (by decide) (by decide)
    refine ⟨2 * ws.length + 1600, ?_⟩
    by_cases c2 : x1 * widthOf w ≤ x2
    · have step : ∀ (r : List ByteArray × Int), (∀ k, 2 * ws.length + 1500 ≤ k → font_Wrap.l0 k x1 x2 [] (J [w]) (w :: ws) ((w :: ws).length : Int) ((1 : Nat) : Int) = some r) → ∀ k, 2 * ws.length + 1600 ≤ k → font_Wrap.l0 k x1 x2 [] (⟨#[]⟩ : ByteArray) (w :: ws) ((w :: ws).length : Int) 0 = some r := by
        intro r p k hk
        obtain ⟨k, rfl⟩ : ∃ m, k = m + 2 := ⟨k - 2, by omega⟩
        have hs := (both_good w hpw x1 z1 z8 k (by omega)).1
        have p := p k (by omega)
        rw [J_one] at p
        rw [font_Wrap.l0, if_pos (by omega), if_pos (Int.le_refl _), if_pos (by omega), if_pos hem, hr, font_Wrap.j1, hs, Option.bind_some, if_pos c2, e1]
        exact p
      rcases wspec x1 x2 z1 z8 (w :: ws) hl hG ws 1 [] [w] rfl (by simp) (by simp) gw w0 (by simp) (by rw [J_one]; omega) (by rw [J_one]; exact c2) with p | ⟨more, rest, p, q, t⟩
      · exact .inl (step _ p)
      · refine .inr ⟨([w] ++ more) :: rest, step _ p, ?_, t⟩
        rw [List.flatten_cons, q]
        rfl
    · refine .inl fun k hk => ?_
      obtain ⟨k, rfl⟩ : ∃ m, k = m + 2 := ⟨k - 2, by omega⟩
      have hs := (both_good w hpw x1 z1 z8 k (by omega)).1
      rw [font_Wrap.l0, if_pos (by omega), if_pos (Int.le_refl _), if_pos (by omega), if_pos hem, hr, font_Wrap.j1, hs, Option.bind_some, if_neg c2, if_pos hem]

end Go.Proofs.YtojehbkadlmbjaaDoor.U
