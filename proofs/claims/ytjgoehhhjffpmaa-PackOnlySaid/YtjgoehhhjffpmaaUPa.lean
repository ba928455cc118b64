/- Plain facts on packs: some fuel is enough; the checks of commands. Conditions: stated at each. -/
import Derived.Test.YtjgoehhhjffpmaaUW
import Derived.Test.YtjgoehhhjffpmaaQf33
namespace Go.Proofs.Ytjgoehhhjffpmaa.U
open Go.RowKit Go.Proofs.Ytjgoehhhjffpmaa.Q Go.Proofs.YtjgoehhhjffpmaaW.PrintWords Go.Proofs.YtjgoehhhjffpmaaW.PrintLast Go.Proofs.YtjgoehhhjffpmaaW.PrintMore
set_option linter.unusedSimpArgs false
set_option linter.unusedVariables false
/-- From some fuel on, g gives r, and r is as P says. -/
def Tot {α : Type} (g : Nat → Option α) (P : α → Prop) : Prop := ∃ r, P r ∧ ∃ K, ∀ k, K ≤ k → g k = some r
theorem Tot.pure {α : Type} {P : α → Prop} {r : α} (h : P r) : Tot (fun _ => some r) P := ⟨r, h, 0, fun _ _ => rfl⟩
theorem Tot.bind {α β : Type} {g : Nat → Option α} {f : Nat → α → Option β} {P : α → Prop} {Q : β → Prop} (h : Tot g P) (hf : ∀ r, P r → Tot (fun k => f k r) Q) : Tot (fun k => (g k).bind (f k)) Q := by
  obtain ⟨r, hr, K, hK⟩ := h
  obtain ⟨s, hs, K', hK'⟩ := hf r hr
  exact ⟨s, hs, K + K', fun k hk => by show (g k).bind (f k) = some s; rw [hK k (by omega), Option.bind_some]; exact hK' k (by omega)⟩
theorem Tot.ite {β : Type} {c : Prop} [Decidable c] {f g : Nat → Option β} {Q : β → Prop} (h : c → Tot f Q) (h' : ¬ c → Tot g Q) : Tot (fun k => if c then f k else g k) Q := by
  by_cases d : c
  · obtain ⟨r, hr, K, hK⟩ := h d
    exact ⟨r, hr, K, fun k hk => by simp only [if_pos d]; exact hK k hk⟩
  · obtain ⟨r, hr, K, hK⟩ := h' d
    exact ⟨r, hr, K, fun k hk => by simp only [if_neg d]; exact hK k hk⟩
theorem Tot.step {α : Type} {g f : Nat → Option α} {P : α → Prop} (h : Tot f P) (e : ∀ k, g (k + 1) = f k) : Tot g P := by
  obtain ⟨r, hr, K, hK⟩ := h
  refine ⟨r, hr, K + 1, fun k hk => ?_⟩
  obtain ⟨m, rfl⟩ : ∃ m, k = m + 1 := ⟨k - 1, by omega⟩
  rw [e]; exact hK m (by omega)
theorem Tot.mono {α : Type} {g : Nat → Option α} {P Q : α → Prop} (h : Tot g P) (hi : ∀ r, P r → Q r) : Tot g Q := by
  obtain ⟨r, hr, h⟩ := h
  exact ⟨r, hi r hr, h⟩
theorem Tot.same {α : Type} {g f : Nat → Option α} {P : α → Prop} (h : Tot f P) (e : ∀ k, g k = f k) : Tot g P := by
  rw [show g = f from funext e]; exact h
theorem nx1 {i n : Nat} (h : i < n) (hn : n ≤ 1000000) : wrap64 ((i : Int) + 1) = ((i + 1 : Nat) : Int) := by rw [wrap_id (by omega) (by omega)]; omega
/-! ### one list of points -/
def VP (p : S44) : Prop := -4096 ≤ p.f0 ∧ p.f0 ≤ 4096 ∧ -4096 ≤ p.f1 ∧ p.f1 ≤ 4096
theorem part_loop (l : List S44) (hl : l.length ≤ 400) : ∀ (d i : Nat), i + d = l.length → Tot (fun k => pack_part.l0 k l (l.length : Int) (i : Int)) (fun t => (∀ p ∈ l, VP p) → t = 0)
  | 0, i, hi => Tot.step (f := fun _ => some 0) (Tot.pure fun _ => rfl) (fun k => by rw [pack_part.l0, if_neg (by omega)])
  | d + 1, i, hi => by
    have ih := part_loop l hl d (i + 1) (by omega)
    have hlt : i < l.length := by omega
    refine Tot.step (f := fun k => if (mn ((rd_T44 l (i : Int)).f0) ((rd_T44 l (i : Int)).f1)) < (-4096) then (some 1) else (if (mx ((rd_T44 l (i : Int)).f0) ((rd_T44 l (i : Int)).f1)) > 4096 then (some 1) else (pack_part.l0 k l (l.length : Int) ((i + 1 : Nat) : Int)))) ?_ (fun k => by rw [pack_part.l0, if_pos (by omega), if_pos (by omega), if_pos (by omega), nx1 hlt (by omega)])
    have hv : (∀ p ∈ l, VP p) → VP (rd_T44 l (i : Int)) := fun h => by rw [rdT_at hlt]; exact h _ (List.getElem_mem hlt)
    refine Tot.ite (fun c => Tot.pure fun h => ?_) (fun _ => Tot.ite (fun c => Tot.pure fun h => ?_) (fun _ => ih))
    · have := hv h; unfold VP at this; unfold mn at c; split at c <;> omega
    · have := hv h; unfold VP at this; unfold mx at c; split at c <;> omega
def VPart (kind : Int) (l : List S44) : Prop := 1 ≤ l.length ∧ (l.length = 1 → kind ≠ 2) ∧ (l.length < 3 → kind ≠ 3) ∧ (1 < l.length → kind ≠ 1 ∧ kind ≠ 4) ∧ l.length ≤ 400 ∧ ∀ p ∈ l, VP p
theorem part_tot (kind : Int) (l : List S44) : Tot (fun k => pack_part.f k kind l) (fun t => VPart kind l → t = 0) := by
  have hbad : ∀ (P : Prop), ¬ P → Tot (fun _ : Nat => (some 3 : Option Int)) (fun t => P → t = 0) := fun P h => Tot.pure fun hp => absurd hp h
  unfold pack_part.f
  refine Tot.ite (fun c => Tot.pure fun h => absurd h.2.2.2.2.1 (by omega)) (fun c400 => Tot.ite (fun c => Tot.pure fun h => absurd h.1 (by omega)) (fun c0 => ?_))
  have j2 : Tot (fun k => pack_part.j2 k l) (fun t => VPart kind l → t = 0) :=
    Tot.step (f := fun k => pack_part.l0 k l (l.length : Int) 0) ((part_loop l (by omega) l.length 0 (by omega)).mono fun t h hv => h hv.2.2.2.2.2) (fun k => by rw [pack_part.j2])
  have j1 : ∀ x : Bool, (x = true → ¬ VPart kind l) → Tot (fun k => pack_part.j1 k kind l (l.length : Int) x) (fun t => VPart kind l → t = 0) := fun x hx =>
    Tot.step (f := fun k => if x = true then (some 3) else (if (l.length : Int) > 1 then (if kind = 1 then (some 3) else (if kind = 4 then (some 3) else (pack_part.j2 k l))) else (pack_part.j2 k l)))
      (Tot.ite (fun c => hbad _ (hx c)) (fun _ => Tot.ite (fun c => Tot.ite (fun c1 => hbad _ fun h => (h.2.2.2.1 (by omega)).1 c1) (fun _ => Tot.ite (fun c1 => hbad _ fun h => (h.2.2.2.1 (by omega)).2 c1) (fun _ => j2))) (fun _ => j2))) (fun k => by rw [pack_part.j1])
  have j0 : ∀ x : Bool, (x = true → ¬ VPart kind l) → Tot (fun k => pack_part.j0 k kind l (l.length : Int) x) (fun t => VPart kind l → t = 0) := fun x hx =>
    Tot.step (f := fun k => if x = true then (some 3) else (if (l.length : Int) < 3 then (pack_part.j1 k kind l (l.length : Int) (kind == 3)) else (pack_part.j1 k kind l (l.length : Int) false)))
      (Tot.ite (fun c => hbad _ (hx c)) (fun _ => Tot.ite (fun c => j1 _ fun e h => h.2.2.1 (by omega) (by simpa using e)) (fun _ => j1 _ fun e => by cases e))) (fun k => by rw [pack_part.j0])
  exact Tot.ite (fun c => j0 _ fun e h => h.2.1 (by omega) (by simpa using e)) (fun _ => j0 _ fun e => by cases e)
/-! ### the text -/
theorem text_loop (s : ByteArray) (hs : s.size ≤ 40) (a b c e : Int) (l : List (List S44)) : ∀ (d i : Nat), i + d = s.size → Tot (fun k => pack_text.l0 k (s.size : Int) (i : Int) a b c e l s) (fun t => (∀ j : Nat, j < s.size → 32 ≤ bt s (j : Int) ∧ bt s (j : Int) ≤ 126) → t = 0)
  | 0, i, hi => Tot.step (f := fun _ => some 0) (Tot.pure fun _ => rfl) (fun k => by rw [pack_text.l0, if_neg (by omega)])
  | d + 1, i, hi => by
    have ih := text_loop s hs a b c e l d (i + 1) (by omega)
    have hlt : i < s.size := by omega
    refine Tot.step (f := fun k => if (bt s (i : Int)) < 32 then (some 3) else (if (bt s (i : Int)) > 126 then (some 3) else (pack_text.l0 k (s.size : Int) ((i + 1 : Nat) : Int) a b c e l s))) ?_ (fun k => by rw [pack_text.l0, if_pos (by omega), if_pos (by omega), if_pos (by omega), nx1 hlt (by omega)])
    refine Tot.ite (fun c => Tot.pure fun h => ?_) (fun _ => Tot.ite (fun c => Tot.pure fun h => ?_) (fun _ => ih))
    · have := h i hlt; omega
    · have := h i hlt; omega
def VText (kind : Int) (s : ByteArray) : Prop := ((s.toList == ([] : List UInt8)) == (kind == 4)) = false ∧ s.size ≤ 40 ∧ ∀ j : Nat, j < s.size → 32 ≤ bt s (j : Int) ∧ bt s (j : Int) ≤ 126
theorem text_tot (a b c e : Int) (l : List (List S44)) (s : ByteArray) : Tot (fun k => pack_text.f k a b c e l s) (fun t => (t = 0 → s.size ≤ 40) ∧ (VText a s → t = 0)) := by
  unfold pack_text.f
  refine Tot.ite (fun c => Tot.pure ⟨fun h => (by cases h), fun h => (by rw [h.1] at c; cases c)⟩) (fun _ => Tot.ite (fun c => Tot.pure ⟨fun h => (by cases h), fun h => absurd h.2.1 (by omega)⟩) (fun c40 => ?_))
  exact (text_loop s (by omega) a b c e l s.size 0 (by omega)).mono fun t h => ⟨fun _ => by omega, fun hv => h hv.2.2⟩
/-! ### a command -/
structure VD (d : S48) : Prop where
  kind : 1 ≤ d.f0 ∧ d.f0 ≤ 4
  layer : 0 ≤ d.f1 ∧ d.f1 ≤ 100
  color : 0 ≤ d.f2 ∧ d.f2 ≤ 255
  width : 0 ≤ d.f3 ∧ d.f3 ≤ 64
  text : VText d.f0 d.f5
  parts : 1 ≤ d.f4.length ∧ d.f4.length ≤ 20 ∧ (d.f0 = 4 → d.f4.length = 1)
  part : ∀ p ∈ d.f4, VPart d.f0 p
/-- What a command that passes has. -/
def PD (d : S48) : Prop := d.f5.size ≤ 40 ∧ 1 ≤ d.f0 ∧ d.f0 ≤ 4 ∧ 0 ≤ d.f1 ∧ d.f1 ≤ 100 ∧ 0 ≤ d.f2 ∧ d.f2 ≤ 255 ∧ 0 ≤ d.f3 ∧ d.f3 ≤ 64 ∧ d.f4.length ≤ 20
theorem check_tot (d : S48) : Tot (fun k => pack_Check.f k d.f0 d.f1 d.f2 d.f3 d.f4 d.f5) (fun t => (t = 0 → PD d) ∧ (VD d → t = 0)) := by
  obtain ⟨kd, la, co, wi, ps, tx⟩ := d
  simp only
  have bad : ∀ (t : Int) (d : S48), t ≠ 0 → ¬ VD d → (fun t : Int => (t = 0 → PD d) ∧ (VD d → t = 0)) t := fun t d h1 h2 => ⟨fun h => absurd h h1, fun h => absurd h h2⟩
  have lo : ps.length ≤ 20 → ∀ (n i : Nat), i + n = ps.length → Tot (fun k => pack_Check.l0 k ps (ps.length : Int) (i : Int) kd la co wi ps tx) (fun t => (∀ p ∈ ps, VPart kd p) → t = 0) := by
    intro h20 n
    induction n with
    | zero => intro i hi; exact Tot.step (f := fun _ => some 0) (Tot.pure fun _ => rfl) (fun k => by rw [pack_Check.l0, if_neg (by omega)])
    | succ n ih =>
      intro i hi
      have hlt : i < ps.length := by omega
      refine Tot.step (f := fun k => (pack_part.f k kd (rd_L4 ps (i : Int))).bind fun t151 => (if t151 = 0 then (pack_Check.l0 k ps (ps.length : Int) ((i + 1 : Nat) : Int) kd la co wi ps tx) else (some t151))) ?_ (fun k => by rw [pack_Check.l0, if_pos (by omega), if_pos (by omega), if_pos (by omega), nx1 hlt (by omega)])
      refine Tot.bind (part_tot kd (rd_L4 ps (i : Int))) (fun t ht => Tot.ite (fun _ => ih (i + 1) (by omega)) (fun c => Tot.pure fun h => ?_))
      exact ht (by rw [rdL_at hlt]; exact h _ (List.getElem_mem hlt))
  have j2 : ∀ x : Bool, (x = false → PD ⟨kd, la, co, wi, ps, tx⟩ ∧ ps.length ≤ 20) → (x = true → ¬ VD ⟨kd, la, co, wi, ps, tx⟩) → Tot (fun k => pack_Check.j2 k x kd la co wi ps tx) (fun t => (t = 0 → PD ⟨kd, la, co, wi, ps, tx⟩) ∧ (VD ⟨kd, la, co, wi, ps, tx⟩ → t = 0)) := fun x hf ht =>
    Tot.step (f := fun k => if x = true then (some 3) else (pack_Check.l0 k ps (ps.length : Int) 0 kd la co wi ps tx))
      (Tot.ite (fun c => Tot.pure (bad 3 _ (by decide) (ht c))) (fun c => by
        obtain ⟨h1, h2⟩ := hf (by simpa using c)
        exact (lo h2 ps.length 0 (by omega)).mono fun t h => ⟨fun _ => h1, fun hv => h hv.part⟩)) (fun k => by rw [pack_Check.j2])
  have j1 : ∀ x : Bool, (x = false → 1 ≤ kd ∧ kd ≤ 4 ∧ 0 ≤ la ∧ la ≤ 100 ∧ 0 ≤ co ∧ co ≤ 255 ∧ 0 ≤ wi ∧ wi ≤ 64) → (x = true → ¬ VD ⟨kd, la, co, wi, ps, tx⟩) → Tot (fun k => pack_Check.j1 k x kd la co wi ps tx) (fun t => (t = 0 → PD ⟨kd, la, co, wi, ps, tx⟩) ∧ (VD ⟨kd, la, co, wi, ps, tx⟩ → t = 0)) := fun x hf ht => by
    refine Tot.step (f := fun k => if x = true then (some 2) else ((pack_text.f k kd la co wi ps tx).bind fun t149 => (if t149 = 0 then (if (ps.length : Int) = 0 then (pack_Check.j2 k true kd la co wi ps tx) else (if (ps.length : Int) > 20 then (pack_Check.j2 k true kd la co wi ps tx) else (if kd = 4 then (pack_Check.j2 k ((ps.length : Int) != 1) kd la co wi ps tx) else (pack_Check.j2 k false kd la co wi ps tx)))) else (some t149)))) ?_ (fun k => by rw [pack_Check.j1])
    refine Tot.ite (fun c => Tot.pure (bad 2 _ (by decide) (ht c))) (fun c => Tot.bind (text_tot kd la co wi ps tx) (fun t htx => Tot.ite (fun c0 => ?_) (fun c0 => Tot.pure ⟨fun h => absurd h c0, fun hv => absurd (htx.2 hv.text) c0⟩)))
    obtain ⟨b1, b2, b3, b4, b5, b6, b7, b8⟩ := hf (by simpa using c)
    have good : ps.length ≤ 20 → PD ⟨kd, la, co, wi, ps, tx⟩ := fun h => ⟨htx.1 c0, b1, b2, b3, b4, b5, b6, b7, b8, h⟩
    refine Tot.ite (fun c1 => j2 _ (fun e => by cases e) fun _ hv => ?_) (fun _ => Tot.ite (fun c1 => j2 _ (fun e => by cases e) fun _ hv => ?_) (fun c20 => Tot.ite (fun c4 => j2 _ (fun _ => ⟨good (by omega), by omega⟩) fun e hv => ?_) (fun _ => j2 _ (fun _ => ⟨good (by omega), by omega⟩) fun e => by cases e)))
    · have := hv.parts.1; simp only at this; omega
    · have := hv.parts.2.1; simp only at this; omega
    · have h1 := hv.parts.2.2 c4; simp only at h1; rw [h1] at e; simp at e
  have j0 : ∀ x : Bool, (x = false → 1 ≤ kd ∧ kd ≤ 4) → (x = true → ¬ VD ⟨kd, la, co, wi, ps, tx⟩) → Tot (fun k => pack_Check.j0 k x kd la co wi ps tx) (fun t => (t = 0 → PD ⟨kd, la, co, wi, ps, tx⟩) ∧ (VD ⟨kd, la, co, wi, ps, tx⟩ → t = 0)) := fun x hf ht => by
    refine Tot.step (f := fun k => if x = true then (some 1) else (if (mn (mn la co) wi) < 0 then (pack_Check.j1 k true kd la co wi ps tx) else (if la > 100 then (pack_Check.j1 k true kd la co wi ps tx) else (if co > 255 then (pack_Check.j1 k true kd la co wi ps tx) else (pack_Check.j1 k (decide (wi > 64)) kd la co wi ps tx))))) ?_ (fun k => by rw [pack_Check.j0])
    refine Tot.ite (fun c => Tot.pure (bad 1 _ (by decide) (ht c))) (fun c => ?_)
    obtain ⟨b1, b2⟩ := hf (by simpa using c)
    refine Tot.ite (fun c1 => j1 _ (fun e => by cases e) fun _ hv => ?_) (fun cm => Tot.ite (fun c1 => j1 _ (fun e => by cases e) fun _ hv => ?_) (fun c2 => Tot.ite (fun c1 => j1 _ (fun e => by cases e) fun _ hv => ?_) (fun c3 => j1 _ (fun e => ?_) fun e hv => ?_)))
    · have h1 := hv.layer.1; have h2 := hv.color.1; have h3 := hv.width.1; simp only at h1 h2 h3; unfold mn at c1; split at c1 <;> (try split at c1) <;> omega
    · have h1 := hv.layer.2; simp only at h1; omega
    · have h1 := hv.color.2; simp only at h1; omega
    · have h1 := of_decide_eq_false e; unfold mn at cm; split at cm <;> (try split at cm) <;> omega
    · have h1 := of_decide_eq_true e; have h2 := hv.width.2; simp only at h2; omega
  unfold pack_Check.f
  refine Tot.ite (fun c => j0 _ (fun e => by cases e) fun _ hv => ?_) (fun c => j0 _ (fun e => ?_) fun e hv => ?_)
  · have h1 := hv.kind.1; simp only at h1; omega
  · have h1 := of_decide_eq_false e; omega
  · have h1 := of_decide_eq_true e; have h2 := hv.kind.2; simp only at h2; omega
theorem rd48_at {l : List S48} {j : Nat} (h : j < l.length) : rd_T48 l (j : Int) = l[j] := by
  unfold rd_T48; simp [List.getD, h]
theorem all_loop (l : List S48) (hl : l.length ≤ 500) : ∀ (n i : Nat), i + n = l.length → Tot (fun k => pack_All.l0 k l (l.length : Int) (i : Int)) (fun t => (t = 0 → ∀ j, i ≤ j → (h : j < l.length) → PD l[j]) ∧ ((∀ d ∈ l, VD d) → t = 0))
  | 0, i, hi => Tot.step (f := fun _ => some 0) (Tot.pure ⟨fun _ j h1 h2 => by omega, fun _ => rfl⟩) (fun k => by rw [pack_All.l0, if_neg (by omega)])
  | n + 1, i, hi => by
    have ih := all_loop l hl n (i + 1) (by omega)
    have hlt : i < l.length := by omega
    refine Tot.step (f := fun k => (pack_Check.f k ((rd_T48 l (i : Int)).f0) ((rd_T48 l (i : Int)).f1) ((rd_T48 l (i : Int)).f2) ((rd_T48 l (i : Int)).f3) ((rd_T48 l (i : Int)).f4) ((rd_T48 l (i : Int)).f5)).bind fun t154 => (if t154 = 0 then (pack_All.l0 k l (l.length : Int) ((i + 1 : Nat) : Int)) else (some t154))) ?_ (fun k => by rw [pack_All.l0, if_pos (by omega), if_pos (by omega), if_pos (by omega), nx1 hlt (by omega)])
    refine Tot.bind (check_tot (rd_T48 l (i : Int))) (fun t ht => Tot.ite (fun c => ih.mono fun t' h' => ⟨fun h j h1 h2 => ?_, h'.2⟩) (fun c => Tot.pure ⟨fun h => absurd h c, fun h => ?_⟩))
    · by_cases e : j = i
      · subst e; have := ht.1 c; rw [rd48_at h2] at this; exact this
      · exact h'.1 h j (by omega) h2
    · exact ht.2 (by rw [rd48_at hlt]; exact h _ (List.getElem_mem hlt))
theorem all_tot (l : List S48) : Tot (fun k => pack_All.f k l) (fun t => (t = 0 → l.length ≤ 500 ∧ ∀ d ∈ l, PD d) ∧ (l.length ≤ 500 → (∀ d ∈ l, VD d) → t = 0)) := by
  unfold pack_All.f
  refine Tot.ite (fun c => Tot.pure ⟨fun h => (by cases h), fun h => (by omega)⟩) (fun c => ?_)
  refine (all_loop l (by omega) l.length 0 (by omega)).mono fun t h => ⟨fun e => ⟨by omega, fun d hd => ?_⟩, fun _ => h.2⟩
  obtain ⟨j, hj, rfl⟩ := List.mem_iff_getElem.1 hd
  exact h.1 e j (Nat.zero_le _) hj
end Go.Proofs.Ytjgoehhhjffpmaa.U
