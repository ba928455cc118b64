/- font.Wrap's loop and the law's own loop alike, from every state. Conditions: stated. -/
import Derived.Test.YtojehbkadlmbjaaDoorUWh
namespace Go.Proofs.YtojehbkadlmbjaaDoor.U
open Go.RowKit Go.Proofs.YtojehbkadlmbjaaDoor.Q Go.Proofs.YtojehbkadlmbjaaDoorW.PrintWords Go.Proofs.YtojehbkadlmbjaaDoorW.PrintLast Go.Proofs.YtojehbkadlmbjaaDoorW.PrintMore
set_option linter.unusedSimpArgs false
set_option linter.unusedVariables false

theorem wrap_loop (x1 x2 : Int) (z1 : 1 ≤ x1) (z8 : x1 ≤ 8) (W : List ByteArray) (hl : W.length ≤ 900) (hG : ∀ w ∈ W, Good w ∧ 0 < w.size) (hW : ∀ w ∈ W, w.size ≤ 4000000000000) :
    ∀ (ws : List ByteArray) (j : Nat) (lines : List ByteArray) (line : ByteArray), W.drop j = ws → j ≤ W.length → Good line → lines.length ≤ j → (∀ w ∈ lines, w.size ≤ 4000000000000) →
    (line.size = 0 → lines = [] ∧ T ws ≤ 41) → (line.size ≠ 0 → lines.length + 1 ≤ j ∧ line.size + T ws ≤ 40) →
    ∃ r : List ByteArray × Int, (∀ k, 2 * ws.length + 1500 ≤ k → font_Wrap.l0 k x1 x2 lines line W (W.length : Int) (j : Int) = some r) ∧
      (∀ k, 3 * ws.length + 3 * W.length + 1500 ≤ k → terrlaw5_FontWraps.l2 k x1 x2 r.1 r.2 0 (X lines line) W (W.length : Int) (j : Int) = some true) := by
  intro ws
  induction ws with
  | nil =>
    intro j lines line hd hj gl hln hls h0 h1
    have hj2 : j = W.length := by
      have := congrArg List.length hd
      rw [List.length_drop] at this
      simp at this
      omega
    subst hj2
    obtain ⟨p, q⟩ := wrap_end x1 x2 W lines line (by omega) (by omega)
    exact ⟨(X lines line, 0), fun k hk => p k (by omega), fun k hk => q k (by omega)⟩
  | cons w ws ih =>
    intro j lines line hd hj gl hln hls h0 h1
    obtain ⟨hj, hd2, hr⟩ := rd_drop W j w ws hd
    have hwm : w ∈ W := by rw [← hr]; exact rd_mem W j hj
    obtain ⟨gw, w0⟩ := hG w hwm
    have e2 : wrap64 ((j : Int) + 1) = ((j + 1 : Nat) : Int) := by rw [wrapF (by omega) (by omega)]; omega
    have hT : T (w :: ws) = w.size + 1 + T ws := rfl
    have hlw : ¬ w.toList = ([] : List UInt8) := by rw [empty_iff]; omega
    rw [List.length_cons]
    by_cases c : line.size = 0
    · obtain ⟨rfl, ht⟩ := h0 c
      have hle : line.toList = ([] : List UInt8) := (empty_iff line).2 c
      have hpw : Plain w := gw.plain (by omega)
      have hX : X [] line = [] := by unfold X; rw [if_pos hle]
      rw [hX]
      by_cases c2 : x1 * widthOf w ≤ x2
      · obtain ⟨r, p, q⟩ := ih (j + 1) [] w hd2 hj gw (Nat.zero_le _) (fun x hx => by cases hx) (fun h => by omega) (fun h => ⟨by simp, by omega⟩)
        refine ⟨r, fun k hk => ?_, fun k hk => ?_⟩
        · obtain ⟨k, rfl⟩ : ∃ m, k = m + 2 := ⟨k - 2, by omega⟩
          have hs := (both_good w hpw x1 z1 z8 k (by omega)).1
          rw [font_Wrap.l0, if_pos (by omega), if_pos (by omega), if_pos (by omega), if_pos hle, hr, font_Wrap.j1, hs, Option.bind_some, if_pos c2, e2]
          exact p k (by omega)
        · obtain ⟨k, rfl⟩ : ∃ m, k = m + 3 := ⟨k - 3, by omega⟩
          have hX2 : X [] w = [w] := by unfold X; rw [if_neg hlw]; rfl
          rw [hX2] at q
          refine law_first x1 x2 z1 z8 W r.1 r.2 (by omega) j hj (by rw [hr]; exact hpw) (by rw [hr]; omega) k (by omega) ?_
          rw [hr]
          exact q k (by omega)
      · refine ⟨([], 17), fun k hk => ?_, fun k hk => ?_⟩
        · obtain ⟨k, rfl⟩ : ∃ m, k = m + 2 := ⟨k - 2, by omega⟩
          have hs := (both_good w hpw x1 z1 z8 k (by omega)).1
          rw [font_Wrap.l0, if_pos (by omega), if_pos (by omega), if_pos (by omega), if_pos hle, hr, font_Wrap.j1, hs, Option.bind_some, if_neg c2, if_pos hle]
        · refine wide_word x1 x2 z1 z8 W (by omega) hW j hj [] (Nat.zero_le _) (fun x hx => by cases hx) (by rw [hr]; exact hpw) (by rw [hr]; omega) k (by omega) ?_
          exact fault_loop x1 x2 17 (by decide) W hW (by omega) (W.length - j) j [] k (by omega) (by omega) (Nat.zero_le _) (fun x hx => by cases hx)
    · obtain ⟨hj1, h40⟩ := h1 c
      have hle : ¬ line.toList = ([] : List UInt8) := by rw [empty_iff]; exact c
      have hpw : Plain w := gw.plain (by omega)
      have hX : X lines line = lines ++ [line] := by unfold X; rw [if_neg hle]
      rw [hX]
      have gj : Good ((line ++ (⟨#[32]⟩ : ByteArray)) ++ w) := (gl.app good_space).app gw
      have hsz : ((line ++ (⟨#[32]⟩ : ByteArray)) ++ w).size = line.size + 1 + w.size := by rw [size_app, size_app, size_space]
      have hpj : Plain ((line ++ (⟨#[32]⟩ : ByteArray)) ++ w) := gj.plain (by omega)
      by_cases c2 : x1 * widthOf ((line ++ (⟨#[32]⟩ : ByteArray)) ++ w) ≤ x2
      · obtain ⟨r, p, q⟩ := ih (j + 1) lines ((line ++ (⟨#[32]⟩ : ByteArray)) ++ w) hd2 hj gj (by omega) hls (fun h => by omega) (fun h => ⟨by omega, by omega⟩)
        refine ⟨r, fun k hk => ?_, fun k hk => ?_⟩
        · obtain ⟨k, rfl⟩ : ∃ m, k = m + 2 := ⟨k - 2, by omega⟩
          have hs := (both_good _ hpj x1 z1 z8 k (by omega)).1
          rw [font_Wrap.l0, if_pos (by omega), if_pos (by omega), if_pos (by omega), if_neg hle, hr, if_pos (by omega), if_pos (by rw [size_app, size_space]; omega), font_Wrap.j1, hs, Option.bind_some, if_pos c2, e2]
          exact p k (by omega)
        · obtain ⟨k, rfl⟩ : ∃ m, k = m + 3 := ⟨k - 3, by omega⟩
          have hX2 : X lines ((line ++ (⟨#[32]⟩ : ByteArray)) ++ w) = lines ++ [(line ++ (⟨#[32]⟩ : ByteArray)) ++ w] := by unfold X; rw [if_neg (by rw [empty_iff]; omega)]
          rw [hX2] at q
          exact law_join x1 x2 z1 z8 W r.1 r.2 (by omega) j hj w line lines hr (by omega) (by omega) gl gw c2 k (by omega) (q k (by omega))
      · by_cases c3 : x1 * widthOf w > x2
        · refine ⟨([], 17), fun k hk => ?_, fun k hk => ?_⟩
          · obtain ⟨k, rfl⟩ : ∃ m, k = m + 2 := ⟨k - 2, by omega⟩
            have hs := (both_good _ hpj x1 z1 z8 k (by omega)).1
            have hs2 := (both_good w hpw x1 z1 z8 k (by omega)).1
            rw [font_Wrap.l0, if_pos (by omega), if_pos (by omega), if_pos (by omega), if_neg hle, hr, if_pos (by omega), if_pos (by rw [size_app, size_space]; omega), font_Wrap.j1, hs, Option.bind_some, if_neg c2, if_neg hle, hs2, Option.bind_some, if_pos c3]
          · have hall : ∀ x ∈ lines ++ [line], x.size ≤ 4000000000000 := by
              intro x hx
              rcases List.mem_append.1 hx with h | h
              · exact hls x h
              · rw [List.mem_singleton.1 h]; omega
            have hxl : (lines ++ [line]).length ≤ j := by rw [List.length_append, List.length_singleton]; exact hj1
            refine wide_word x1 x2 z1 z8 W (by omega) hW j hj _ hxl hall (by rw [hr]; exact hpw) (by rw [hr]; exact c3) k (by omega) ?_
            exact fault_loop x1 x2 17 (by decide) W hW (by omega) (W.length - j) j _ k (by omega) (by omega) hxl hall
        · obtain ⟨r, p, q⟩ := ih (j + 1) (lines ++ [line]) w hd2 hj gw (by rw [List.length_append, List.length_singleton]; omega) (by
              intro x hx
              rcases List.mem_append.1 hx with h | h
              · exact hls x h
              · rw [List.mem_singleton.1 h]; omega) (fun h => by omega) (fun h => ⟨by rw [List.length_append, List.length_singleton]; omega, by omega⟩)
          refine ⟨r, fun k hk => ?_, fun k hk => ?_⟩
          · obtain ⟨k, rfl⟩ : ∃ m, k = m + 2 := ⟨k - 2, by omega⟩
            have hs := (both_good _ hpj x1 z1 z8 k (by omega)).1
            have hs2 := (both_good w hpw x1 z1 z8 k (by omega)).1
            rw [font_Wrap.l0, if_pos (by omega), if_pos (by omega), if_pos (by omega), if_neg hle, hr, if_pos (by omega), if_pos (by rw [size_app, size_space]; omega), font_Wrap.j1, hs, Option.bind_some, if_neg c2, if_neg hle, hs2, Option.bind_some, if_neg c3, if_pos (by omega), e2]
            exact p k (by omega)
          · obtain ⟨k, rfl⟩ : ∃ m, k = m + 3 := ⟨k - 3, by omega⟩
            have hX2 : X (lines ++ [line]) w = lines ++ [line] ++ [w] := by unfold X; rw [if_neg hlw]
            rw [hX2] at q
            exact law_open x1 x2 z1 z8 W r.1 r.2 (by omega) j hj w line lines hr (by omega) (by omega) gl gw c2 c3 k (by omega) (q k (by omega))

end Go.Proofs.YtojehbkadlmbjaaDoor.U
