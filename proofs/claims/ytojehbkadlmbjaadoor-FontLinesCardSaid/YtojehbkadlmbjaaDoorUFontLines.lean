/- The plain law of FontLines: the printed twin answers true. No condition. -/
import Derived.Test.YtojehbkadlmbjaaDoorULb
namespace Go.Proofs.YtojehbkadlmbjaaDoor.U
open Go.RowKit Go.Proofs.YtojehbkadlmbjaaDoor.Q Go.Proofs.YtojehbkadlmbjaaDoorW.PrintWords Go.Proofs.YtojehbkadlmbjaaDoorW.PrintLast Go.Proofs.YtojehbkadlmbjaaDoorW.PrintMore
set_option linter.unusedSimpArgs false
set_option linter.unusedVariables false

theorem belowF (x n : Int) (hn : 0 < n) (hb : n ≤ 4611686018427387904) : ∃ r, terrmake_Below.f x n = some r ∧ 0 ≤ r ∧ r < n := by
  unfold terrmake_Below.f
  rw [if_neg (by omega)]
  have h0 := Int.emod_nonneg x (show n ≠ 0 by omega)
  have h1 := Int.emod_lt_of_pos x hn
  have e : Int.tmod x n = x % n ∨ (Int.tmod x n = x % n - n) ∧ x % n ≠ 0 := by
    rw [Int.tmod_eq_emod]
    by_cases c : 0 ≤ x ∨ n ∣ x
    · rw [if_pos c]; left; simp
    · rw [if_neg c]; right
      refine ⟨by omega, fun h => c (Or.inr (Int.dvd_of_emod_eq_zero h))⟩
  rcases e with e | ⟨e, e2⟩
  · rw [if_neg (by omega)]
    exact ⟨_, rfl, by omega, by omega⟩
  · rw [if_pos (by omega), wrapF (by omega) (by omega)]
    exact ⟨_, rfl, by omega, by omega⟩

theorem num_byte (l : List Int) (i : Nat) (h : i < l.length) (hb : ∀ x ∈ l, 0 ≤ x ∧ x ≤ 255) : bt (strOfNums l) (i : Int) = l[i] ∧ (strOfNums l).size = l.length := by
  have hm := hb l[i] (List.getElem_mem h)
  have hs : (strOfNums l).size = l.length := by simp [strOfNums, ByteArray.size]
  refine ⟨?_, hs⟩
  unfold bt
  rw [dif_pos (by rw [hs]; exact h)]
  have e : (strOfNums l)[(i : Int).toNat]'(by rw [hs]; exact h) = l[i].toNat.toUInt8 := by simp [strOfNums, ByteArray.getElem_eq_getElem_data]
  rw [e]
  simp
  omega

theorem text_loop (L : List Int) (hL : L.length ≤ 40) : ∀ (d k i : Nat) (acc : List Int), i + d = L.length → d < k → acc.length = i → (∀ x ∈ acc, 32 ≤ x ∧ x ≤ 126) →
    ∃ out : List Int, out.length = L.length ∧ (∀ x ∈ out, 32 ≤ x ∧ x ≤ 126) ∧ terrkeep5_text.l0 k acc L (L.length : Int) (i : Int) = some (strOfNums out) := by
  intro d
  induction d with
  | zero =>
    intro k i acc hi hk ha hx
    obtain ⟨k, rfl⟩ : ∃ m, k = m + 1 := ⟨k - 1, by omega⟩
    refine ⟨acc, by omega, hx, ?_⟩
    rw [terrkeep5_text.l0, if_neg (by omega)]
  | succ d ih =>
    intro k i acc hi hk ha hx
    obtain ⟨k, rfl, hk1⟩ : ∃ m, k = m + 1 ∧ d < m := ⟨k - 1, by omega, by omega⟩
    have hlt : i < L.length := by omega
    have c1 : (i : Int) < (L.length : Int) := Int.ofNat_lt.mpr hlt
    obtain ⟨r, hr, r0, r1⟩ := belowF (rd L (i : Int)) 95 (by decide) (by decide)
    have e2 : wrap64 ((i : Int) + 1) = ((i + 1 : Nat) : Int) := by rw [wrapF (by omega) (by omega)]; omega
    have e3 : wrap64 (32 + r) % 256 = 32 + r := by rw [wrapF (by omega) (by omega)]; omega
    obtain ⟨out, h1, h2, h3⟩ := ih k (i + 1) (acc ++ [32 + r]) (by omega) hk1 (by rw [List.length_append, ha]; rfl) (fun x hx' => by
      rcases List.mem_append.1 hx' with h | h
      · exact hx x h
      · rw [List.mem_singleton.1 h]; omega)
    refine ⟨out, h1, h2, ?_⟩
    rw [terrkeep5_text.l0, if_pos c1, if_pos (Int.natCast_nonneg _), if_pos c1, hr, Option.bind_some, if_pos (by omega), e3, e2]
    exact h3

/-- TEXT: whatever list it is made of, a plain text comes out. -/
theorem text_in (l : List Int) (k : Nat) (hk : 50 ≤ k) : ∃ s, terrkeep5_text.f k l = some s ∧ Plain s := by
  have hm : mn (l.length : Int) 40 = ((min l.length 40 : Nat) : Int) := by unfold mn; split <;> omega
  have ht : (l.take (min l.length 40)).length = min l.length 40 := by rw [List.length_take]; omega
  obtain ⟨out, h1, h2, h3⟩ := text_loop (l.take (min l.length 40)) (by omega) (min l.length 40) k 0 [] (by omega) (by omega) rfl (fun x h => by cases h)
  refine ⟨strOfNums out, ?_, ?_, ?_⟩
  · unfold terrkeep5_text.f
    rw [hm, if_pos (Int.natCast_nonneg _), if_pos (by omega), Int.toNat_natCast]
    exact h3
  · have : (strOfNums out).size = out.length := by simp [strOfNums, ByteArray.size]
    omega
  · intro i hi
    have hs : (strOfNums out).size = out.length := by simp [strOfNums, ByteArray.size]
    rw [hs] at hi
    have := (num_byte out i hi (fun x hx => by have := h2 x hx; omega)).1
    rw [this]
    exact h2 _ (List.getElem_mem hi)

theorem lines_at (x1 x2 : Int) : ∀ (gs : List (List ByteArray)), Lines x1 x2 gs → ∀ (i : Nat) (h : i < gs.length), One x1 x2 gs[i] ∧ ∀ (h2 : i + 1 < gs.length), Two x1 x2 gs[i] gs[i + 1] := by
  intro gs
  induction gs with
  | nil => intro _ i h; exact absurd h (Nat.not_lt_zero i)
  | cons g r ih =>
    intro hl i h
    match r, ih, hl with
    | [], _, hl =>
      match i, h with
      | 0, _ => exact ⟨hl, fun h2 => by simp at h2⟩
    | g2 :: r, ih, hl =>
      obtain ⟨a, b, c⟩ := hl
      match i, h with
      | 0, _ => exact ⟨a, fun _ => b⟩
      | i + 1, h =>
        obtain ⟨p, q⟩ := ih c i (by simpa using h)
        exact ⟨p, fun h2 => q (by simpa using h2)⟩

theorem rd_map (gs : List (List ByteArray)) (i : Nat) (h : i < gs.length) : rdOf ByteArray.empty (gs.map J) (i : Int) = J gs[i] := by
  unfold rdOf
  simp [h]

theorem lines_loop (x1 x2 : Int) (z1 : 1 ≤ x1) (z8 : x1 ≤ 8) (gs : List (List ByteArray)) (hl : gs.length ≤ 900) (hL : Lines x1 x2 gs) (hW : ∀ g ∈ gs, ∀ w ∈ g, NoSp w.data.toList) :
    ∀ (d i k : Nat), i + d = gs.length → 2 * d + 200 ≤ k → terrkeep5_FontLines.l0 k x1 x2 (gs.map J) (gs.map J) ((gs.map J).length : Int) (i : Int) = some true := by
  have hlen : (gs.map J).length = gs.length := List.length_map _
  intro d
  induction d with
  | zero =>
    intro i k hi hk
    obtain ⟨k, rfl⟩ : ∃ m, k = m + 1 := ⟨k - 1, by omega⟩
    rw [terrkeep5_FontLines.l0, if_neg (by omega)]
  | succ d ih =>
    intro i k hi hk
    obtain ⟨k, rfl⟩ : ∃ m, k = m + 2 := ⟨k - 2, by omega⟩
    have hlt : i < gs.length := by omega
    have e2 : wrap64 ((i : Int) + 1) = ((i + 1 : Nat) : Int) := by rw [wrapF (by omega) (by omega)]; omega
    have go := ih (i + 1) k (by omega) (by omega)
    obtain ⟨⟨n0, s0, p0, w0⟩, -⟩ := lines_at x1 x2 gs hL i hlt
    have hs := (both_good _ p0 x1 z1 z8 (k + 1) (by omega)).1
    have hem : ((J gs[i]).toList == ([] : List UInt8)) = false := by
      rw [beq_eq_false_iff_ne, ne_eq, empty_iff]
      omega
    rw [terrkeep5_FontLines.l0, if_pos (by omega), if_pos (Int.natCast_nonneg _), if_pos (by omega), rd_map gs i hlt, hs, Option.bind_some, if_pos rfl, if_neg (by dsimp only; omega), hem, terrkeep5_FontLines.j2, if_neg (by decide)]
    by_cases c : i = 0
    · rw [if_pos (by omega), e2]
      exact go
    · obtain ⟨j, rfl⟩ : ∃ j, i = j + 1 := ⟨i - 1, by omega⟩
      have e3 : wrap64 (((j + 1 : Nat) : Int) - 1) = (j : Int) := by rw [wrapF (by omega) (by omega)]; omega
      obtain ⟨⟨-, -, pj, -⟩, t⟩ := lines_at x1 x2 gs hL j (by omega)
      obtain ⟨tp, tw⟩ := t hlt
      have hc : ∃ w r, gs[j + 1] = w :: r ∧ NoSp w.data.toList := by
        match hg : gs[j + 1], n0 with
        | w :: r, _ => exact ⟨w, r, rfl, hW gs[j + 1] (List.getElem_mem hlt) w (by rw [hg]; exact List.mem_cons_self)⟩
      obtain ⟨w, r, hg, hn⟩ := hc
      rw [hg] at tp tw
      change Plain ((J gs[j] ++ (⟨#[32]⟩ : ByteArray)) ++ w) at tp
      change ¬ x1 * widthOf ((J gs[j] ++ (⟨#[32]⟩ : ByteArray)) ++ w) ≤ x2 at tw
      have hcut : strings_Cut.f (J gs[j + 1]) (⟨#[32]⟩ : ByteArray) = some (cutB (J gs[j + 1]) (⟨#[32]⟩ : ByteArray)) := by
        unfold strings_Cut.f
        have := p0.1
        rw [if_pos (by omega)]
      have hf : (cutB (J gs[j + 1]) (⟨#[32]⟩ : ByteArray)).1 = w := by rw [hg]; exact cut_first w r hn
      have hs2 := (both_good _ tp x1 z1 z8 k (by omega)).1
      have hsz := tp.1
      rw [size_app, size_app, size_space] at hsz
      rw [if_neg (by omega), hcut, Option.bind_some, e3, hf, if_pos (by omega), if_pos (by omega), rd_map gs j (by omega), if_pos (by omega), if_pos (by rw [size_app, size_space]; omega), hs2, Option.bind_some, if_neg tw, e2]
      exact go

theorem flat_len (gs : List (List ByteArray)) (h : ∀ g ∈ gs, g ≠ []) : gs.length ≤ gs.flatten.length := by
  induction gs with
  | nil => exact Nat.le_refl _
  | cons g r ih =>
    have h1 := ih (fun x hx => h x (List.mem_cons_of_mem _ hx))
    have h2 := h g List.mem_cons_self
    have h3 : 0 < g.length := List.length_pos_iff.2 h2
    rw [List.flatten_cons, List.length_append, List.length_cons]
    omega

theorem law (l : List Int) (a1 a2 : Int) : ∃ k, terrkeep5_FontLines.f k l a1 a2 = some true := by
  obtain ⟨s, es, hp⟩ := text_in l 50 (Nat.le_refl _)
  obtain ⟨b1, hb1, b10, b11⟩ := belowF a1 4 (by decide) (by decide)
  obtain ⟨b2, hb2, b20, b21⟩ := belowF a2 300 (by decide) (by decide)
  have e1 : wrap64 (1 + b1) = 1 + b1 := wrapF (by omega) (by omega)
  have e2 : wrap64 (1 + b2) = 1 + b2 := wrapF (by omega) (by omega)
  have h40 := hp.1
  obtain ⟨h1, h2, h3⟩ := W_facts s (by omega)
  obtain ⟨h3, h4, h5⟩ := h3 hp
  have hnsp : ∀ w ∈ W s, NoSp w.data.toList := by rw [← words_eq s hp]; exact words_nosp s
  obtain ⟨K, hK⟩ := wspec0 (1 + b1) (1 + b2) (by omega) (by omega) (W s) (by omega) h3 h4
  have f1 : font_Wrap.f (K + 4000) (⟨#[97, 32, 98]⟩ : ByteArray) 1 5 = some ([⟨#[97]⟩, ⟨#[98]⟩], 0) := at_rounds (font_Wrap.mono _ _ _) (by omega) first_wrap
  have es2 : terrkeep5_text.f (K + 3999) l = some s := at_rounds (terrkeep5_text.mono _) (by omega) es
  have ff : strings_Fields.f (K + 3999) s = some (W s) := by
    unfold strings_Fields.f
    rw [if_pos (ascii_ok s hp), words_eq s hp]
  have hs := (both_good s hp (1 + b1) (by omega) (by omega) (K + 3999) (by omega)).1
  have wr : ∀ r : List ByteArray × Int, font_Wrap.l0 (K + 3999) (1 + b1) (1 + b2) [] (⟨#[]⟩ : ByteArray) (W s) ((W s).length : Int) 0 = some r → font_Wrap.f (K + 3999) s (1 + b1) (1 + b2) = some r := by
    intro r h
    unfold font_Wrap.f
    rw [hs, Option.bind_some, if_pos rfl, if_neg (by omega), ff, Option.bind_some]
    exact h
  refine ⟨K + 4000, ?_⟩
  unfold terrkeep5_FontLines.f
  rw [f1, Option.bind_some, if_pos rfl]
  show terrkeep5_FontLines.j0 (K + 3999 + 1) l a1 a2 false = some true
  rw [terrkeep5_FontLines.j0, if_neg (by decide), es2, Option.bind_some, hb1, Option.bind_some, hb2, Option.bind_some, e1, e2]
  rcases hK with p | ⟨gs, p, q, t⟩
  · rw [wr _ (p _ (by omega)), Option.bind_some, if_neg (by decide), if_pos rfl]
    rfl
  · have hne : ∀ g ∈ gs, g ≠ [] := by
      intro g hg
      obtain ⟨i, hi, rfl⟩ := List.getElem_of_mem hg
      exact (lines_at _ _ gs t i hi).1.1
    have hlen := flat_len gs hne
    rw [q] at hlen
    have hJ : joinB (gs.map J) (⟨#[32]⟩ : ByteArray) = J (W s) := by rw [(joinB_J _).1, J_flat gs hne, q]
    have hgood : Good (J (W s)) := J_good _ (fun w hw => (h3 w hw).1)
    have hsize : (J (W s)).size ≤ 40 := by
      match hw : W s with
      | [] => exact Nat.zero_le _
      | w :: r =>
        have := J_size r w
        rw [hw] at h4
        omega
    have hpl := hgood.plain hsize
    have hjoin : strings_Join.f (gs.map J) (⟨#[32]⟩ : ByteArray) = some (J (W s)) := by
      unfold strings_Join.f
      have ok : joinOk (gs.map J) (⟨#[32]⟩ : ByteArray) = true := by
        unfold joinOk
        rw [Bool.and_eq_true, decide_eq_true_iff, decide_eq_true_iff, (joinB_J _).2, J_flat gs hne, q, ← size_list, List.length_map]
        omega
      rw [if_pos ok, hJ]
    have ff2 : strings_Fields.f (K + 3999) (J (W s)) = some (W s) := by
      unfold strings_Fields.f
      rw [if_pos (ascii_ok _ hpl), words_J _ hnsp]
    rw [wr _ (p _ (by omega)), Option.bind_some, if_pos rfl, hjoin, Option.bind_some, ff2, Option.bind_some, ff, Option.bind_some, eq_self (W s) (by omega) (K + 3999) (by omega), Option.bind_some, if_pos rfl]
    exact lines_loop (1 + b1) (1 + b2) (by omega) (by omega) gs (by omega) t (fun g hg w hw => hnsp w (by rw [← q]; exact List.mem_flatten.2 ⟨g, hg, hw⟩)) gs.length 0 (K + 3999) (by omega) (by omega)

end Go.Proofs.YtojehbkadlmbjaaDoor.U
