/- Plain facts on packs: what is written, and the commands that Draws makes. Conditions: stated at each. -/
import Derived.Test.YtjgoehhhjffpmaaUW
import Derived.Test.YtjgoehhhjffpmaaQf33
import Derived.Test.YtjgoehhhjffpmaaQf25
import Derived.Test.YtjgoehhhjffpmaaQf35
import Derived.Test.YtjgoehhhjffpmaaQf37
namespace Go.Proofs.Ytjgoehhhjffpmaa.U
open Go.RowKit Go.Proofs.Ytjgoehhhjffpmaa.Q Go.Proofs.YtjgoehhhjffpmaaW.PrintWords Go.Proofs.YtjgoehhhjffpmaaW.PrintLast Go.Proofs.YtjgoehhhjffpmaaW.PrintMore
set_option linter.unusedSimpArgs false
set_option linter.unusedVariables false
/-- From some fuel on, g gives r, and r is as P says. -/
def Tot {α : Type} (g : Nat → Option α) (P : α → Prop) : Prop := ∃ r, P r ∧ ∃ K, ∀ k, K ≤ k → g k = some r
theorem Tot.pure {α : Type} {P : α → Prop} {r : α} (h : P r) : Tot (fun _ => some r) P := ⟨r, h, 0, fun _ _ => rfl⟩
theorem Tot.bind {α β : Type} {g : Nat → Option α} {f : Nat → α → Option β} {P : α → Prop} {Q : β → Prop} (h : Tot g P) (hf : ∀ r, P r → Tot (fun k => f k r) Q) : Tot (fun k => (g k).bind (f k)) Q := by
  obtain ⟨r, hr, K, hK⟩ := h
  obtain ⟨s, hs, K', hK'⟩ := hf r hr
  exact ⟨s, hs, K + K', fun k hk => by show (g k).bind (f k) = some s; rw [hK k (by omega), Option.bind_some]; exact hK' k (by omega)⟩
theorem Tot.ite {β : Type} {c : Prop} [Decidable c] {f g : Nat → Option β} {Q : β → Prop} (h : c → Tot f Q) (h' : ¬ c → Tot g Q) : Tot (fun k => if c then f k else g k) Q := by
  by_cases d : c
  · obtain ⟨r, hr, K, hK⟩ := h d
    exact ⟨r, hr, K, fun k hk => by simp only [if_pos d]; exact hK k hk⟩
  · obtain ⟨r, hr, K, hK⟩ := h' d
    exact ⟨r, hr, K, fun k hk => by simp only [if_neg d]; exact hK k hk⟩
theorem Tot.step {α : Type} {g f : Nat → Option α} {P : α → Prop} (h : Tot f P) (e : ∀ k, g (k + 1) = f k) : Tot g P := by
  obtain ⟨r, hr, K, hK⟩ := h
  refine ⟨r, hr, K + 1, fun k hk => ?_⟩
  obtain ⟨m, rfl⟩ : ∃ m, k = m + 1 := ⟨k - 1, by omega⟩
  rw [e]; exact hK m (by omega)
theorem Tot.mono {α : Type} {g : Nat → Option α} {P Q : α → Prop} (h : Tot g P) (hi : ∀ r, P r → Q r) : Tot g Q := by
  obtain ⟨r, hr, h⟩ := h
  exact ⟨r, hi r hr, h⟩
theorem Tot.same {α : Type} {g f : Nat → Option α} {P : α → Prop} (h : Tot f P) (e : ∀ k, g k = f k) : Tot g P := by
  rw [show g = f from funext e]; exact h
theorem nx1 {i n : Nat} (h : i < n) (hn : n ≤ 1000000) : wrap64 ((i : Int) + 1) = ((i + 1 : Nat) : Int) := by rw [wrap_id (by omega) (by omega)]; omega
/-! ### one list of points -/
def VP (p : S44) : Prop := -4096 ≤ p.f0 ∧ p.f0 ≤ 4096 ∧ -4096 ≤ p.f1 ∧ p.f1 ≤ 4096
theorem part_loop (l : List S44) (hl : l.length ≤ 400) : ∀ (d i : Nat), i + d = l.length → Tot (fun k => pack_part.l0 k l (l.length : Int) (i : Int)) (fun t => (∀ p ∈ l, VP p) → t = 0)
  | 0, i, hi => Tot.step (f := fun _ => some 0) (Tot.pure fun _ => rfl) (fun k => by rw [pack_part.l0, if_neg (by omega)])
  | d + 1, i, hi => by
    have ih := part_loop l hl d (i + 1) (by omega)
    have hlt : i < l.length := by omega
    refine Tot.step (f := fun k => if (mn ((rd_T44 l (i : Int)).f0) ((rd_T44 l (i : Int)).f1)) < (-4096) then (some 1) else (if (mx ((rd_T44 l (i : Int)).f0) ((rd_T44 l (i : Int)).f1)) > 4096 then (some 1) else (pack_part.l0 k l (l.length : Int) ((i + 1 : Nat) : Int)))) ?_ (fun k => by rw [pack_part.l0, if_pos (by omega), if_pos (by omega), if_pos (by omega), nx1 hlt (by omega)])
    have hv : (∀ p ∈ l, VP p) → VP (rd_T44 l (i : Int)) := fun h => by rw [rdT_at hlt]; exact h _ (List.getElem_mem hlt)
    refine Tot.ite (fun c => Tot.pure fun h => ?_) (fun _ => Tot.ite (fun c => Tot.pure fun h => ?_) (fun _ => ih))
    · have := hv h; unfold VP at this; unfold mn at c; split at c <;> omega
    · have := hv h; unfold VP at this; unfold mx at c; split at c <;> omega
def VPart (kind : Int) (l : List S44) : Prop := 1 ≤ l.length ∧ (l.length = 1 → kind ≠ 2) ∧ (l.length < 3 → kind ≠ 3) ∧ (1 < l.length → kind ≠ 1 ∧ kind ≠ 4) ∧ l.length ≤ 400 ∧ ∀ p ∈ l, VP p
theorem part_tot (kind : Int) (l : List S44) : Tot (fun k => pack_part.f k kind l) (fun t => VPart kind l → t = 0) := by
  have hbad : ∀ (P : Prop), ¬ P → Tot (fun _ : Nat => (some 3 : Option Int)) (fun t => P → t = 0) := fun P h => Tot.pure fun hp => absurd hp h
  unfold pack_part.f
  refine Tot.ite (fun c => Tot.pure fun h => absurd h.2.2.2.2.1 (by omega)) (fun c400 => Tot.ite (fun c => Tot.pure fun h => absurd h.1 (by omega)) (fun c0 => ?_))
  have j2 : Tot (fun k => pack_part.j2 k l) (fun t => VPart kind l → t = 0) :=
    Tot.step (f := fun k => pack_part.l0 k l (l.length : Int) 0) ((part_loop l (by omega) l.length 0 (by omega)).mono fun t h hv => h hv.2.2.2.2.2) (fun k => by rw [pack_part.j2])
  have j1 : ∀ x : Bool, (x = true → ¬ VPart kind l) → Tot (fun k => pack_part.j1 k kind l (l.length : Int) x) (fun t => VPart kind l → t = 0) := fun x hx =>
    Tot.step (f := fun k => if x = true then (some 3) else (if (l.length : Int) > 1 then (if kind = 1 then (some 3) else (if kind = 4 then (some 3) else (pack_part.j2 k l))) else (pack_part.j2 k l)))
      (Tot.ite (fun c => hbad _ (hx c)) (fun _ => Tot.ite (fun c => Tot.ite (fun c1 => hbad _ fun h => (h.2.2.2.1 (by omega)).1 c1) (fun _ => Tot.ite (fun c1 => hbad _ fun h => (h.2.2.2.1 (by omega)).2 c1) (fun _ => j2))) (fun _ => j2))) (fun k => by rw [pack_part.j1])
  have j0 : ∀ x : Bool, (x = true → ¬ VPart kind l) → Tot (fun k => pack_part.j0 k kind l (l.length : Int) x) (fun t => VPart kind l → t = 0) := fun x hx =>
    Tot.step (f := fun k => if x = true then (some 3) else (if (l.length : Int) < 3 then (pack_part.j1 k kind l (l.length : Int) (kind == 3)) else (pack_part.j1 k kind l (l.length : Int) false)))
      (Tot.ite (fun c => hbad _ (hx c)) (fun _ => Tot.ite (fun c => j1 _ fun e h => h.2.2.1 (by omega) (by simpa using e)) (fun _ => j1 _ fun e => by cases e))) (fun k => by rw [pack_part.j0])
  exact Tot.ite (fun c => j0 _ fun e h => h.2.1 (by omega) (by simpa using e)) (fun _ => j0 _ fun e => by cases e)
/-! ### the text -/
theorem text_loop (s : ByteArray) (hs : s.size ≤ 40) (a b c e : Int) (l : List (List S44)) : ∀ (d i : Nat), i + d = s.size → Tot (fun k => pack_text.l0 k (s.size : Int) (i : Int) a b c e l s) (fun t => (∀ j : Nat, j < s.size → 32 ≤ bt s (j : Int) ∧ bt s (j : Int) ≤ 126) → t = 0)
  | 0, i, hi => Tot.step (f := fun _ => some 0) (Tot.pure fun _ => rfl) (fun k => by rw [pack_text.l0, if_neg (by omega)])
  | d + 1, i, hi => by
    have ih := text_loop s hs a b c e l d (i + 1) (by omega)
    have hlt : i < s.size := by omega
    refine Tot.step (f := fun k => if (bt s (i : Int)) < 32 then (some 3) else (if (bt s (i : Int)) > 126 then (some 3) else (pack_text.l0 k (s.size : Int) ((i + 1 : Nat) : Int) a b c e l s))) ?_ (fun k => by rw [pack_text.l0, if_pos (by omega), if_pos (by omega), if_pos (by omega), nx1 hlt (by omega)])
    refine Tot.ite (fun c => Tot.pure fun h => ?_) (fun _ => Tot.ite (fun c => Tot.pure fun h => ?_) (fun _ => ih))
    · have := h i hlt; omega
    · have := h i hlt; omega
def VText (kind : Int) (s : ByteArray) : Prop := ((s.toList == ([] : List UInt8)) == (kind == 4)) = false ∧ s.size ≤ 40 ∧ ∀ j : Nat, j < s.size → 32 ≤ bt s (j : Int) ∧ bt s (j : Int) ≤ 126
theorem text_tot (a b c e : Int) (l : List (List S44)) (s : ByteArray) : Tot (fun k => pack_text.f k a b c e l s) (fun t => (t = 0 → s.size ≤ 40) ∧ (VText a s → t = 0)) := by
  unfold pack_text.f
  refine Tot.ite (fun c => Tot.pure ⟨fun h => (by cases h), fun h => (by rw [h.1] at c; cases c)⟩) (fun _ => Tot.ite (fun c => Tot.pure ⟨fun h => (by cases h), fun h => absurd h.2.1 (by omega)⟩) (fun c40 => ?_))
  exact (text_loop s (by omega) a b c e l s.size 0 (by omega)).mono fun t h => ⟨fun _ => by omega, fun hv => h hv.2.2⟩
/-! ### a command -/
structure VD (d : S48) : Prop where
  kind : 1 ≤ d.f0 ∧ d.f0 ≤ 4
  layer : 0 ≤ d.f1 ∧ d.f1 ≤ 100
  color : 0 ≤ d.f2 ∧ d.f2 ≤ 255
  width : 0 ≤ d.f3 ∧ d.f3 ≤ 64
  text : VText d.f0 d.f5
  parts : 1 ≤ d.f4.length ∧ d.f4.length ≤ 20 ∧ (d.f0 = 4 → d.f4.length = 1)
  part : ∀ p ∈ d.f4, VPart d.f0 p
/-- What a command that passes has. -/
def PD (d : S48) : Prop := d.f5.size ≤ 40 ∧ 1 ≤ d.f0 ∧ d.f0 ≤ 4 ∧ 0 ≤ d.f1 ∧ d.f1 ≤ 100 ∧ 0 ≤ d.f2 ∧ d.f2 ≤ 255 ∧ 0 ≤ d.f3 ∧ d.f3 ≤ 64 ∧ d.f4.length ≤ 20
theorem check_tot (d : S48) : Tot (fun k => pack_Check.f k d.f0 d.f1 d.f2 d.f3 d.f4 d.f5) (fun t => (t = 0 → PD d) ∧ (VD d → t = 0)) := by
  obtain ⟨kd, la, co, wi, ps, tx⟩ := d
  simp only
  have bad : ∀ (t : Int) (d : S48), t ≠ 0 → ¬ VD d → (fun t : Int => (t = 0 → PD d) ∧ (VD d → t = 0)) t := fun t d h1 h2 => ⟨fun h => absurd h h1, fun h => absurd h h2⟩
  have lo : ps.length ≤ 20 → ∀ (n i : Nat), i + n = ps.length → Tot (fun k => pack_Check.l0 k ps (ps.length : Int) (i : Int) kd la co wi ps tx) (fun t => (∀ p ∈ ps, VPart kd p) → t = 0) := by
    intro h20 n
    induction n with
    | zero => intro i hi; exact Tot.step (f := fun _ => some 0) (Tot.pure fun _ => rfl) (fun k => by rw [pack_Check.l0, if_neg (by omega)])
    | succ n ih =>
      intro i hi
      have hlt : i < ps.length := by omega
      refine Tot.step (f := fun k => (pack_part.f k kd (rd_L4 ps (i : Int))).bind fun t151 => (if t151 = 0 then (pack_Check.l0 k ps (ps.length : Int) ((i + 1 : Nat) : Int) kd la co wi ps tx) else (some t151))) ?_ (fun k => by rw [pack_Check.l0, if_pos (by omega), if_pos (by omega), if_pos (by omega), nx1 hlt (by omega)])
      refine Tot.bind (part_tot kd (rd_L4 ps (i : Int))) (fun t ht => Tot.ite (fun _ => ih (i + 1) (by omega)) (fun c => Tot.pure fun h => ?_))
      exact ht (by rw [rdL_at hlt]; exact h _ (List.getElem_mem hlt))
  have j2 : ∀ x : Bool, (x = false → PD ⟨kd, la, co, wi, ps, tx⟩ ∧ ps.length ≤ 20) → (x = true → ¬ VD ⟨kd, la, co, wi, ps, tx⟩) → Tot (fun k => pack_Check.j2 k x kd la co wi ps tx) (fun t => (t = 0 → PD ⟨kd, la, co, wi, ps, tx⟩) ∧ (VD ⟨kd, la, co, wi, ps, tx⟩ → t = 0)) := fun x hf ht =>
    Tot.step (f := fun k => if x = true then (some 3) else (pack_Check.l0 k ps (ps.length : Int) 0 kd la co wi ps tx))
      (Tot.ite (fun c => Tot.pure (bad 3 _ (by decide) (ht c))) (fun c => by
        obtain ⟨h1, h2⟩ := hf (by simpa using c)
        exact (lo h2 ps.length 0 (by omega)).mono fun t h => ⟨fun _ => h1, fun hv => h hv.part⟩)) (fun k => by rw [pack_Check.j2])
  have j1 : ∀ x : Bool, (x = false → 1 ≤ kd ∧ kd ≤ 4 ∧ 0 ≤ la ∧ la ≤ 100 ∧ 0 ≤ co ∧ co ≤ 255 ∧ 0 ≤ wi ∧ wi ≤ 64) → (x = true → ¬ VD ⟨kd, la, co, wi, ps, tx⟩) → Tot (fun k => pack_Check.j1 k x kd la co wi ps tx) (fun t => (t = 0 → PD ⟨kd, la, co, wi, ps, tx⟩) ∧ (VD ⟨kd, la, co, wi, ps, tx⟩ → t = 0)) := fun x hf ht => by
    refine Tot.step (f := fun k => if x = true then (some 2) else ((pack_text.f k kd la co wi ps tx).bind fun t149 => (if t149 = 0 then (if (ps.length : Int) = 0 then (pack_Check.j2 k true kd la co wi ps tx) else (if (ps.length : Int) > 20 then (pack_Check.j2 k true kd la co wi ps tx) else (if kd = 4 then (pack_Check.j2 k ((ps.length : Int) != 1) kd la co wi ps tx) else (pack_Check.j2 k false kd la co wi ps tx)))) else (some t149)))) ?_ (fun k => by rw [pack_Check.j1])
    refine Tot.ite (fun c => Tot.pure (bad 2 _ (by decide) (ht c))) (fun c => Tot.bind (text_tot kd la co wi ps tx) (fun t htx => Tot.ite (fun c0 => ?_) (fun c0 => Tot.pure ⟨fun h => absurd h c0, fun hv => absurd (htx.2 hv.text) c0⟩)))
    obtain ⟨b1, b2, b3, b4, b5, b6, b7, b8⟩ := hf (by simpa using c)
    have good : ps.length ≤ 20 → PD ⟨kd, la, co, wi, ps, tx⟩ := fun h => ⟨htx.1 c0, b1, b2, b3, b4, b5, b6, b7, b8, h⟩
    refine Tot.ite (fun c1 => j2 _ (fun e => by cases e) fun _ hv => ?_) (fun _ => Tot.ite (fun c1 => j2 _ (fun e => by cases e) fun _ hv => ?_) (fun c20 => Tot.ite (fun c4 => j2 _ (fun _ => ⟨good (by omega), by omega⟩) fun e hv => ?_) (fun _ => j2 _ (fun _ => ⟨good (by omega), by omega⟩) fun e => by cases e)))
    · have := hv.parts.1; simp only at this; omega
    · have := hv.parts.2.1; simp only at this; omega
    · have h1 := hv.parts.2.2 c4; simp only at h1; rw [h1] at e; simp at e
  have j0 : ∀ x : Bool, (x = false → 1 ≤ kd ∧ kd ≤ 4) → (x = true → ¬ VD ⟨kd, la, co, wi, ps, tx⟩) → Tot (fun k => pack_Check.j0 k x kd la co wi ps tx) (fun t => (t = 0 → PD ⟨kd, la, co, wi, ps, tx⟩) ∧ (VD ⟨kd, la, co, wi, ps, tx⟩ → t = 0)) := fun x hf ht => by
    refine Tot.step (f := fun k => if x = true then (some 1) else (if (mn (mn la co) wi) < 0 then (pack_Check.j1 k true kd la co wi ps tx) else (if la > 100 then (pack_Check.j1 k true kd la co wi ps tx) else (if co > 255 then (pack_Check.j1 k true kd la co wi ps tx) else (pack_Check.j1 k (decide (wi > 64)) kd la co wi ps tx))))) ?_ (fun k => by rw [pack_Check.j0])
    refine Tot.ite (fun c => Tot.pure (bad 1 _ (by decide) (ht c))) (fun c => ?_)
    obtain ⟨b1, b2⟩ := hf (by simpa using c)
    refine Tot.ite (fun c1 => j1 _ (fun e => by cases e) fun _ hv => ?_) (fun cm => Tot.ite (fun c1 => j1 _ (fun e => by cases e) fun _ hv => ?_) (fun c2 => Tot.ite (fun c1 => j1 _ (fun e => by cases e) fun _ hv => ?_) (fun c3 => j1 _ (fun e => ?_) fun e hv => ?_)))
    · have h1 := hv.layer.1; have h2 := hv.color.1; have h3 := hv.width.1; simp only at h1 h2 h3; unfold mn at c1; split at c1 <;> (try split at c1) <;> omega
    · have h1 := hv.layer.2; simp only at h1; omega
    · have h1 := hv.color.2; simp only at h1; omega
    · have h1 := of_decide_eq_false e; unfold mn at cm; split at cm <;> (try split at cm) <;> omega
    · have h1 := of_decide_eq_true e; have h2 := hv.width.2; simp only at h2; omega
  unfold pack_Check.f
  refine Tot.ite (fun c => j0 _ (fun e => by cases e) fun _ hv => ?_) (fun c => j0 _ (fun e => ?_) fun e hv => ?_)
  · have h1 := hv.kind.1; simp only at h1; omega
  · have h1 := of_decide_eq_false e; omega
  · have h1 := of_decide_eq_true e; have h2 := hv.kind.2; simp only at h2; omega
theorem rd48_at {l : List S48} {j : Nat} (h : j < l.length) : rd_T48 l (j : Int) = l[j] := by
  unfold rd_T48; simp [List.getD, h]
theorem all_loop (l : List S48) (hl : l.length ≤ 500) : ∀ (n i : Nat), i + n = l.length → Tot (fun k => pack_All.l0 k l (l.length : Int) (i : Int)) (fun t => (t = 0 → ∀ j, i ≤ j → (h : j < l.length) → PD l[j]) ∧ ((∀ d ∈ l, VD d) → t = 0))
  | 0, i, hi => Tot.step (f := fun _ => some 0) (Tot.pure ⟨fun _ j h1 h2 => by omega, fun _ => rfl⟩) (fun k => by rw [pack_All.l0, if_neg (by omega)])
  | n + 1, i, hi => by
    have ih := all_loop l hl n (i + 1) (by omega)
    have hlt : i < l.length := by omega
    refine Tot.step (f := fun k => (pack_Check.f k ((rd_T48 l (i : Int)).f0) ((rd_T48 l (i : Int)).f1) ((rd_T48 l (i : Int)).f2) ((rd_T48 l (i : Int)).f3) ((rd_T48 l (i : Int)).f4) ((rd_T48 l (i : Int)).f5)).bind fun t154 => (if t154 = 0 then (pack_All.l0 k l (l.length : Int) ((i + 1 : Nat) : Int)) else (some t154))) ?_ (fun k => by rw [pack_All.l0, if_pos (by omega), if_pos (by omega), if_pos (by omega), nx1 hlt (by omega)])
    refine Tot.bind (check_tot (rd_T48 l (i : Int))) (fun t ht => Tot.ite (fun c => ih.mono fun t' h' => ⟨fun h j h1 h2 => ?_, h'.2⟩) (fun c => Tot.pure ⟨fun h => absurd h c, fun h => ?_⟩))
    · by_cases e : j = i
      · subst e; have := ht.1 c; rw [rd48_at h2] at this; exact this
      · exact h'.1 h j (by omega) h2
    · exact ht.2 (by rw [rd48_at hlt]; exact h _ (List.getElem_mem hlt))
theorem all_tot (l : List S48) : Tot (fun k => pack_All.f k l) (fun t => (t = 0 → l.length ≤ 500 ∧ ∀ d ∈ l, PD d) ∧ (l.length ≤ 500 → (∀ d ∈ l, VD d) → t = 0)) := by
  unfold pack_All.f
  refine Tot.ite (fun c => Tot.pure ⟨fun h => (by cases h), fun h => (by omega)⟩) (fun c => ?_)
  refine (all_loop l (by omega) l.length 0 (by omega)).mono fun t h => ⟨fun e => ⟨by omega, fun d hd => ?_⟩, fun _ => h.2⟩
  obtain ⟨j, hj, rfl⟩ := List.mem_iff_getElem.1 hd
  exact h.1 e j (Nat.zero_le _) hj
end Go.Proofs.Ytjgoehhhjffpmaa.U

namespace Go.Proofs.Ytjgoehhhjffpmaa.U
open Go Go.RowKit Go.Proofs.Ytjgoehhhjffpmaa.Q Go.Proofs.YtjgoehhhjffpmaaW.PrintWords Go.Proofs.YtjgoehhhjffpmaaW.PrintLast Go.Proofs.YtjgoehhhjffpmaaW.PrintMore
set_option linter.unusedSimpArgs false
set_option linter.unusedVariables false
/-! ### sums, equal rows, rows together -/
theorem sum_loop (b : List Int) (hb : b.length ≤ 900000) : ∀ (d i : Nat) (x y : Int), i + d = b.length → Tot (fun k => pack_Sum.l0 k x y b (b.length : Int) (i : Int)) (fun _ => True)
  | 0, i, x, y, hi => Tot.step (f := fun _ => some (Go.bits .or .u32 ((y * 65536) % 4294967296) x)) (Tot.pure trivial) (fun k => by rw [pack_Sum.l0, if_neg (by omega)])
  | d + 1, i, x, y, hi => Tot.step (sum_loop b hb d (i + 1) _ _ (by omega)) (fun k => by rw [pack_Sum.l0, if_pos (by omega), if_pos (by omega), if_pos (by omega), nx1 (n := b.length) (by omega) (by omega)])
theorem sum_tot (b : List Int) (hb : b.length ≤ 900000) : Tot (fun k => pack_Sum.f k b) (fun _ => True) := sum_loop b hb b.length 0 1 0 (by omega)
theorem eqb_loop (u v : List Int) (hl : u.length = v.length) (hb : u.length ≤ 900000) : ∀ (d i : Nat), i + d = u.length → (∀ j, j < i → rd u (j : Int) = rd v (j : Int)) → Tot (fun k => slices_Equal_byte_byte.l0 k u v (u.length : Int) (i : Int)) (fun t => t = true → u = v)
  | 0, i, hi, hp => Tot.step (f := fun _ => some true) (Tot.pure fun _ => by
      refine List.ext_getElem hl fun j h1 h2 => ?_
      have := hp j (by omega)
      rw [rd_at h1, rd_at h2] at this; exact this) (fun k => by rw [slices_Equal_byte_byte.l0, if_neg (by omega)])
  | d + 1, i, hi, hp => by
    refine Tot.step (f := fun k => if (rd u (i : Int)) = (rd v (i : Int)) then (slices_Equal_byte_byte.l0 k u v (u.length : Int) ((i + 1 : Nat) : Int)) else (some false)) (Tot.ite (fun c => eqb_loop u v hl hb d (i + 1) (by omega) (fun j hj => ?_)) (fun _ => Tot.pure fun h => by cases h)) (fun k => by rw [slices_Equal_byte_byte.l0, if_pos (by omega), if_pos (by omega), if_pos (by omega), if_pos (by omega), nx1 (n := u.length) (by omega) (by omega)])
    by_cases e : j = i
    · subst e; exact c
    · exact hp j (by omega)
theorem eqb_tot (u v : List Int) (hb : u.length ≤ 900000) : Tot (fun k => slices_Equal_byte_byte.f k u v) (fun t => t = true → u = v) := by
  unfold slices_Equal_byte_byte.f
  exact Tot.ite (fun c => eqb_loop u v (by omega) hb u.length 0 (by omega) (fun j hj => by omega)) (fun _ => Tot.pure fun h => by cases h)
theorem eqb_same (u : List Int) (hb : u.length ≤ 900000) : Tot (fun k => slices_Equal_byte_byte.f k u u) (fun t => t = true) :=
  ⟨true, rfl, u.length + 1, fun k hk => eq_self u (by omega) k (by omega)⟩
theorem rdL1_at {l : List (List Int)} {j : Nat} (h : j < l.length) : rd_L1 l (j : Int) = l[j] := by
  unfold rd_L1; simp [List.getD, h]
def sumL : List (List Int) → Nat
  | [] => 0
  | a :: r => a.length + sumL r
theorem cat_l1 (lim : Nat) (hlim : lim = 140737488355328) (L : List (List Int)) (hL : L.length ≤ 1000) : ∀ (d i : Nat) (acc : List Int), i + d = L.length → acc.length + sumL (L.drop i) < lim → Tot (fun k => slices_Concat_byte_byte.l1 k acc L (L.length : Int) (i : Int)) (fun r => r = acc ++ (L.drop i).flatten)
  | 0, i, acc, hi, hs => Tot.step (f := fun _ => some acc) (Tot.pure (by rw [List.drop_of_length_le (by omega)]; simp)) (fun k => by rw [slices_Concat_byte_byte.l1, if_neg (by omega)])
  | d + 1, i, acc, hi, hs => by
    have hlt : i < L.length := by omega
    have e : L.drop i = L[i] :: L.drop (i + 1) := (List.getElem_cons_drop (h := hlt)).symm
    rw [e, sumL] at hs
    refine Tot.step ((cat_l1 lim hlim L hL d (i + 1) (acc ++ L[i]) (by omega) (by rw [List.length_append]; omega)).mono fun r h => ?_) (fun k => by
      rw [slices_Concat_byte_byte.l1, if_pos (by omega), if_pos (by omega), if_pos (by omega), rdL1_at hlt, if_pos (by rw [← hlim]; omega), nx1 (n := L.length) (by omega) (by omega)])
    rw [h, e, List.flatten_cons, List.append_assoc]
theorem cat_l0 (lim : Nat) (hlim : lim = 140737488355328) (L : List (List Int)) (hL : L.length ≤ 1000) (hs : sumL L < lim) : ∀ (d i s : Nat), i + d = L.length → s + sumL (L.drop i) = sumL L → Tot (fun k => slices_Concat_byte_byte.l0 k L (s : Int) L (L.length : Int) (i : Int)) (fun r => r = L.flatten)
  | 0, i, s, hi, he => by
    refine Tot.step ((cat_l1 lim hlim L hL L.length 0 [] (by omega) (by simpa using hs)).mono fun r h => by simpa using h) (fun k => by rw [slices_Concat_byte_byte.l0, if_neg (by omega), if_pos (by rw [List.drop_of_length_le (by omega), sumL] at he; omega)]; rfl)
  | d + 1, i, s, hi, he => by
    have hlt : i < L.length := by omega
    have e : L.drop i = L[i] :: L.drop (i + 1) := (List.getElem_cons_drop (h := hlt)).symm
    rw [e, sumL] at he
    have w : wrap64 ((s : Int) + (L[i].length : Int)) = ((s + L[i].length : Nat) : Int) := by rw [wrap_id (by omega) (by omega)]; omega
    exact Tot.step (cat_l0 lim hlim L hL hs d (i + 1) (s + L[i].length) (by omega) (by omega)) (fun k => by
      rw [slices_Concat_byte_byte.l0, if_pos (by omega), if_pos (by omega), if_pos (by omega), rdL1_at hlt, w, if_neg (by omega), nx1 (n := L.length) (by omega) (by omega)])
theorem cat_tot (L : List (List Int)) (hL : L.length ≤ 1000) (hs : sumL L ≤ 9000000) : Tot (fun k => slices_Concat_byte_byte.f k L) (fun r => r = L.flatten) :=
  cat_l0 140737488355328 rfl L hL (by omega) L.length 0 0 (by omega) (by simp)
/-! ### a command in bytes -/
def encD (d : S48) : List Int := d.f0 % 256 :: d.f1 % 256 :: d.f2 % 256 :: d.f3 % 256 :: (d.f5.size : Int) % 256 :: (bytesOf d.f5 ++ encAll d.f4)
def encDs : List S48 → List Int
  | [] => []
  | d :: r => encD d ++ encDs r
def GD (d : S48) : Prop := d.f4.length ≤ 1000 ∧ tot d.f4 ≤ 20000 ∧ d.f5.size < 256
def bodyOf (ds : List S48) : List Int := [77, 84, 49] ++ (enc (ds.length : Int) ++ encDs ds)
theorem bytes_str (xs : List Int) (h : Bytes xs) : bytesOf (strOfNums xs) = xs := by
  unfold bytesOf
  rw [strOfNums_data, List.map_map]
  refine (List.map_congr_left fun x hx => ?_).trans (List.map_id xs)
  have := h x hx
  show ((UInt8.ofNat x.toNat).toNat : Int) = x
  rw [UInt8.toNat_ofNat']
  omega
theorem bytes_sub {xs ys : List Int} (h : Bytes ys) (hs : ∀ x, x ∈ xs → x ∈ ys) : Bytes xs := fun x hx => h x (hs x hx)
theorem byte_wrap {x : Int} (h : 0 ≤ x ∧ x ≤ 255) : wrap64 x = x := wrap_id (by omega) (by omega)
theorem five_wrap (n : Nat) (h : 0 ≤ (n : Int) ∧ (n : Int) ≤ 255) : wrap64 (5 + (n : Int)) = ((5 + n : Nat) : Int) := by rw [wrap_id (by omega) (by omega)]; omega
theorem one_tot (lim : Nat) (hlim : lim = 140737488355328) (b : List Int) (hb : Bytes b) (hl : b.length ≤ 65536) : Tot (fun k => pack_one.f k b) (fun r => r.2.2.2.2.2.2.2 = 0 →
    b = encD ⟨r.1, r.2.1, r.2.2.1, r.2.2.2.1, r.2.2.2.2.1, r.2.2.2.2.2.1⟩ ++ r.2.2.2.2.2.2.1 ∧ GD ⟨r.1, r.2.1, r.2.2.1, r.2.2.2.1, r.2.2.2.2.1, r.2.2.2.2.2.1⟩ ∧ Bytes r.2.2.2.2.2.2.1 ∧ r.2.2.2.2.2.2.1.length ≤ b.length) := by
  unfold pack_one.f
  refine Tot.ite (fun c => Tot.pure fun h => by cases h) (fun c5 => ?_)
  match b, hb, hl, c5 with
  | b0 :: b1 :: b2 :: b3 :: b4 :: t, hb, hl, c5 =>
    have h0 := hb b0 (by simp)
    have h1 := hb b1 (by simp)
    have h2 := hb b2 (by simp)
    have h3 := hb b3 (by simp)
    have h4 := hb b4 (by simp)
    have hlen : (b0 :: b1 :: b2 :: b3 :: b4 :: t).length = t.length + 5 := rfl
    have r0 : wrap64 (rd (b0 :: b1 :: b2 :: b3 :: b4 :: t) 0) = b0 := byte_wrap h0
    have r1 : wrap64 (rd (b0 :: b1 :: b2 :: b3 :: b4 :: t) 1) = b1 := byte_wrap h1
    have r2 : wrap64 (rd (b0 :: b1 :: b2 :: b3 :: b4 :: t) 2) = b2 := byte_wrap h2
    have r3 : wrap64 (rd (b0 :: b1 :: b2 :: b3 :: b4 :: t) 3) = b3 := byte_wrap h3
    have r4 : wrap64 (rd (b0 :: b1 :: b2 :: b3 :: b4 :: t) 4) = b4 := byte_wrap h4
    obtain ⟨n, rfl⟩ : ∃ n : Nat, b4 = (n : Int) := ⟨b4.toNat, (Int.toNat_of_nonneg h4.1).symm⟩
    have r5 : wrap64 (5 + (n : Int)) = ((5 + n : Nat) : Int) := five_wrap n h4
    rw [hlen] at hl
    clear c5
    have d1 : (b0 :: b1 :: b2 :: b3 :: (n : Int) :: t).drop (5 + n) = t.drop n := by rw [Nat.add_comm]; rfl
    have d2 : ((b0 :: b1 :: b2 :: b3 :: (n : Int) :: t).take (5 + n)).drop 5 = t.take n := by rw [Nat.add_comm]; rfl
    rw [r0, r1, r2, r3, r4, r5, Int.toNat_natCast, d1, d2, hlen]
    clear r0 r1 r2 r3 r4 r5 d1 d2
    refine Tot.ite (fun _ => ?_) (fun c => absurd (by omega) c)
    refine Tot.ite (fun _ => Tot.pure fun h => by cases h) (fun cn => ?_)
    refine Tot.ite (fun _ => ?_) (fun c => absurd (by omega) c)
    refine Tot.ite (fun _ => ?_) (fun c => absurd (by omega) c)
    refine Tot.ite (fun _ => ?_) (fun c => absurd (by omega) c)
    refine Tot.ite (fun _ => ?_) (fun c => absurd (by omega) c)
    refine Tot.ite (fun _ => ?_) (fun c => absurd (by omega) c)
    refine Tot.ite (fun _ => ?_) (fun c => absurd (by omega) c)
    refine Tot.ite (fun _ => ?_) (fun c => absurd (by omega) c)
    have hbt : Bytes t := bytes_sub hb (fun x hx => by simp [hx])
    have hbd : Bytes (t.drop n) := bytes_sub hbt (fun x hx => List.mem_of_mem_drop hx)
    have hbk : Bytes (t.take n) := bytes_sub hbt (fun x hx => List.mem_of_mem_take hx)
    have hR : Tot (fun k => delta_Read.f k (t.drop n)) (fun r => r = R (t.drop n)) := ⟨_, rfl, 40, fun k hk => read_R lim hlim (t.drop n) hbd (by rw [List.length_drop]; omega) k hk⟩
    refine Tot.bind hR (fun r hr => Tot.pure fun he => ?_)
    obtain ⟨ps, rest, e⟩ := r
    simp only at he ⊢
    subst he
    obtain ⟨i1, i2⟩ := R_inv hbd hr.symm
    obtain ⟨q1, q2, q3, q4⟩ := i1 rfl
    have hsz : (strOfNums (t.take n)).size = n := by rw [strOfNums_size, List.length_take]; omega
    have hrl := congrArg List.length q1
    rw [List.length_append, List.length_drop] at hrl
    refine ⟨?_, ⟨q2, q3, by show (strOfNums (t.take n)).size < 256; omega⟩, bytes_sub hbd (fun x hx => by rw [q1]; exact List.mem_append_right _ hx), by omega⟩
    unfold encD
    simp only
    rw [hsz, bytes_str _ hbk, show b0 % 256 = b0 by omega, show b1 % 256 = b1 by omega, show b2 % 256 = b2 by omega, show b3 % 256 = b3 by omega, show (n : Int) % 256 = n by omega]
    simp only [List.cons_append, List.append_assoc]
    rw [← q1, List.take_append_drop]
  | [], _, _, c5 => exact absurd (by simp) c5
  | [_], _, _, c5 => exact absurd (by simp) c5
  | [_, _], _, _, c5 => exact absurd (by simp) c5
  | [_, _, _], _, _, c5 => exact absurd (by simp) c5
  | [_, _, _, _], _, _, c5 => exact absurd (by simp) c5
theorem read_loop (lim : Nat) (hlim : lim = 140737488355328) (many : Nat) (hm : many ≤ 500) : ∀ (d i : Nat) (b : List Int) (acc : List S48), i + d = many → Bytes b → b.length ≤ 65536 → acc.length ≤ i → Tot (fun k => pack_Read.l0 k b acc (many : Int) (i : Int)) (fun r => r.2 = 0 → ∃ ds, r.1 = acc ++ ds ∧ b = encDs ds ∧ ds.length = d ∧ (∀ x ∈ ds, GD x) ∧ ∃ K, ∀ k, K ≤ k → pack_All.f k r.1 = some 0)
  | 0, i, b, acc, hi, hb, hl, ha => by
    refine Tot.step (f := fun k => if (b.length : Int) > 0 then (some (([] : List (S48)), 3)) else ((pack_All.f k acc).bind fun t255 => (if t255 = 0 then (some (acc, 0)) else (some (([] : List (S48)), t255))))) ?_ (fun k => by rw [pack_Read.l0, if_neg (by omega)])
    refine Tot.ite (fun _ => Tot.pure fun h => by cases h) (fun c => ?_)
    obtain ⟨t, _, K, hK⟩ := all_tot acc
    refine Tot.bind (P := fun t' => t' = t) ⟨t, rfl, K, hK⟩ (fun t' ht => Tot.ite (fun c0 => Tot.pure fun _ => ⟨[], (List.append_nil _).symm, List.eq_nil_of_length_eq_zero (by omega), rfl, fun x hx => (by cases hx), K, fun k hk => ?_⟩) (fun c0 => Tot.pure fun h => absurd h c0))
    show pack_All.f k acc = some 0
    rw [← c0, ht]; exact hK k hk
  | d + 1, i, b, acc, hi, hb, hl, ha => by
    refine Tot.step (f := fun k => (pack_one.f k b).bind fun bt239 => (if bt239.2.2.2.2.2.2.2 = 0 then (if acc.length < 1954687338268 then (pack_Read.l0 k bt239.2.2.2.2.2.2.1 (acc ++ [(⟨bt239.1, bt239.2.1, bt239.2.2.1, bt239.2.2.2.1, bt239.2.2.2.2.1, bt239.2.2.2.2.2.1⟩ : S48)]) (many : Int) ((i + 1 : Nat) : Int)) else (none)) else (some (([] : List (S48)), bt239.2.2.2.2.2.2.2)))) ?_ (fun k => by rw [pack_Read.l0, if_pos (by omega), nx1 (n := many) (by omega) (by omega)])
    refine Tot.bind (one_tot lim hlim b hb hl) (fun r hr => Tot.ite (fun c => Tot.ite (fun _ => ?_) (fun c2 => absurd (by omega) c2)) (fun c => Tot.pure fun h => absurd h c))
    obtain ⟨h1, h2, h3, h4⟩ := hr c
    refine (read_loop lim hlim many hm d (i + 1) _ _ (by omega) h3 (by omega) (by rw [List.length_append, List.length_singleton]; omega)).mono fun r' h' e' => ?_
    obtain ⟨ds, e1, e2, e3, e4, e5⟩ := h' e'
    refine ⟨_ :: ds, by rw [e1, List.append_assoc]; rfl, ?_, by rw [List.length_cons, e3], fun x hx => ?_, e5⟩
    · rw [encDs, ← e2]; exact h1
    · rcases List.mem_cons.1 hx with rfl | hx
      · exact h2
      · exact e4 x hx
def fourL (s : Int) : List Int := [(s / 16777216) % 256, (s / 65536) % 256, (s / 256) % 256, s % 256]
theorem loop_data (s : ByteArray) : ∀ (d i : Nat) (acc : List UInt8), i + d = s.size → ByteArray.toList.loop s i acc = acc.reverse ++ s.data.toList.drop i
  | 0, i, acc, hi => by
    rw [ByteArray.toList.loop, if_neg (by omega), List.drop_of_length_le (by rw [data_length]; omega), List.append_nil]
  | d + 1, i, acc, hi => by
    have hlt : i < s.data.toList.length := by rw [data_length]; omega
    rw [ByteArray.toList.loop, if_pos (by omega), loop_data s d (i + 1) _ (by omega), List.reverse_cons, List.append_assoc, ← List.getElem_cons_drop (h := hlt)]
    have e : s.get! i = s.data.toList[i] := by
      have h2 : i < s.data.size := by simpa using hlt
      show s.data[i]! = _
      rw [getElem!_pos s.data i h2]; simp
    rw [e]; rfl
theorem toList_data (s : ByteArray) : s.toList = s.data.toList := by
  unfold ByteArray.toList
  rw [loop_data s s.size 0 [] (by omega)]; rfl
theorem head3 (xs : List Int) (h : Bytes xs) (e : (strOfNums xs).toList = ([77, 84, 49] : List UInt8)) : xs = [77, 84, 49] := by
  have hd : (strOfNums xs).toList = (strOfNums xs).data.toList := toList_data _
  rw [hd] at e
  have h1 := bytes_str xs h
  unfold bytesOf at h1
  rw [e] at h1
  exact h1.symm
theorem read_tot (lim : Nat) (hlim : lim = 140737488355328) (b : List Int) (hb : Bytes b) : Tot (fun k => pack_Read.f k b) (fun r => r.2 = 0 → ∃ s, r.1.length ≤ 500 ∧ (∀ x ∈ r.1, GD x) ∧ (∃ K, ∀ k, K ≤ k → pack_All.f k r.1 = some 0) ∧ (∃ K, ∀ k, K ≤ k → pack_Sum.f k (bodyOf r.1) = some s) ∧ b = bodyOf r.1 ++ fourL s ∧ b.length ≤ 65536) := by
  unfold pack_Read.f
  refine Tot.ite (fun c => Tot.pure fun h => by cases h) (fun cl => Tot.ite (fun c => Tot.pure fun h => by cases h) (fun c8 => ?_))
  have w : wrap64 ((b.length : Int) - 4) = ((b.length - 4 : Nat) : Int) := by rw [wrap_id (by omega) (by omega)]; omega
  rw [w, Int.toNat_natCast]
  have hbt : Bytes (b.take (b.length - 4)) := bytes_sub hb (fun x hx => List.mem_of_mem_take hx)
  have htl : (b.take (b.length - 4)).length = b.length - 4 := by rw [List.length_take]; omega
  refine Tot.ite (fun _ => Tot.ite (fun c3 => Tot.ite (fun _ => Tot.ite (fun _ => ?_) (fun c => absurd (by omega) c)) (fun c => absurd (by omega) c)) (fun _ => Tot.pure fun h => by cases h)) (fun c => absurd (by omega) c)
  obtain ⟨s, _, Ks, hs⟩ := sum_tot (b.take (b.length - 4)) (by omega)
  refine Tot.bind (P := fun t => t = s) ⟨s, rfl, Ks, hs⟩ (fun t ht => Tot.bind (P := fun f => f = fourL s) (Tot.pure (by rw [ht]; rfl)) (fun f hf => Tot.bind (eqb_tot (b.drop (b.length - 4)) f (by rw [List.length_drop]; omega)) (fun q hq => Tot.ite (fun cq => ?_) (fun _ => Tot.pure fun h => by cases h))))
  have hd := hq cq
  refine Tot.ite (fun _ => ?_) (fun c => absurd (by omega) c)
  have hb3 : Bytes ((b.take (b.length - 4)).drop 3) := bytes_sub hbt (fun x hx => List.mem_of_mem_drop hx)
  refine Tot.bind (P := fun r => r = rt ((b.take (b.length - 4)).drop 3)) ⟨_, rfl, 40, fun k hk => take_rt lim hlim _ hb3 (by rw [List.length_drop]; omega) k hk⟩ (fun r hr => ?_)
  obtain ⟨m, rest, e⟩ := r
  simp only
  refine Tot.ite (fun ce => ?_) (fun ce => Tot.pure fun h => absurd h ce)
  have hrt : ∃ V, tk 0 ((b.take (b.length - 4)).drop 3) = (V, rest, 0) ∧ m = unzig V := by
    unfold rt at hr
    by_cases c : (tk 0 ((b.take (b.length - 4)).drop 3)).2.2 = 0
    · rw [if_pos c] at hr
      have q1 : m = _ := (Prod.ext_iff.1 hr).1
      have q2 : rest = _ := (Prod.ext_iff.1 (Prod.ext_iff.1 hr).2).1
      refine ⟨(tk 0 ((b.take (b.length - 4)).drop 3)).1, ?_, q1⟩
      refine Prod.ext rfl (Prod.ext ?_ c)
      exact q2.symm
    · rw [if_neg c] at hr
      have := (Prod.ext_iff.1 (Prod.ext_iff.1 hr).2).2
      simp only at this
      exact absurd (this.symm.trans ce) c
  obtain ⟨V, hV, hm⟩ := hrt
  obtain ⟨e1, e2⟩ := tk_enc hb3 hV
  rw [← hm] at e1
  have hrest : Bytes rest := bytes_sub hb3 (fun x hx => by rw [e1]; exact List.mem_append_right _ hx)
  have hrl : rest.length ≤ 65536 := by
    have := congrArg List.length e1
    rw [List.length_append, List.length_drop] at this; omega
  have j0 : ∀ x : Bool, (x = false → 0 ≤ m ∧ m ≤ 500) → Tot (fun k => pack_Read.j0 k m rest x) (fun r => r.2 = 0 → ∃ s, r.1.length ≤ 500 ∧ (∀ x ∈ r.1, GD x) ∧ (∃ K, ∀ k, K ≤ k → pack_All.f k r.1 = some 0) ∧ (∃ K, ∀ k, K ≤ k → pack_Sum.f k (bodyOf r.1) = some s) ∧ b = bodyOf r.1 ++ fourL s ∧ b.length ≤ 65536) := by
    intro x hx
    refine Tot.step (f := fun k => if x = true then (some (([] : List (S48)), 2)) else (pack_Read.l0 k rest ([] : List (S48)) m 0)) (Tot.ite (fun _ => Tot.pure fun h => by cases h) (fun c => ?_)) (fun k => by rw [pack_Read.j0])
    obtain ⟨m0, m1⟩ := hx (by simpa using c)
    obtain ⟨mm, rfl⟩ : ∃ mm : Nat, m = (mm : Int) := ⟨m.toNat, by omega⟩
    refine (read_loop lim hlim mm (by omega) mm 0 rest [] (by omega) hrest hrl (by simp)).mono fun r h e => ?_
    obtain ⟨ds, d1, d2, d3, d4, d5⟩ := h e
    rw [List.nil_append] at d1
    rw [d1] at d5 ⊢
    have hbody : b.take (b.length - 4) = bodyOf ds := by
      have h3 : (b.take (b.length - 4)).take 3 = [77, 84, 49] := by
        rw [List.take_take, show min 3 (b.length - 4) = 3 by omega]
        exact head3 (b.take 3) (bytes_sub hb (fun x hx => List.mem_of_mem_take hx)) c3
      have h6 := (List.take_append_drop 3 (b.take (b.length - 4))).symm
      rw [h3, e1, d2, ← d3] at h6
      exact h6
    refine ⟨s, by omega, d4, d5, ⟨Ks, fun k hk => by rw [← hbody]; exact hs k hk⟩, ?_, by omega⟩
    rw [← hbody, ← hf, ← hd, List.take_append_drop]
  exact Tot.ite (fun c => j0 _ fun e => by cases e) (fun c => j0 _ fun e => by have := of_decide_eq_false e; omega)
end Go.Proofs.Ytjgoehhhjffpmaa.U

namespace Go.Proofs.Ytjgoehhhjffpmaa.U
open Go Go.RowKit Go.Proofs.Ytjgoehhhjffpmaa.Q Go.Proofs.YtjgoehhhjffpmaaW.PrintWords Go.Proofs.YtjgoehhhjffpmaaW.PrintLast Go.Proofs.YtjgoehhhjffpmaaW.PrintMore
set_option linter.unusedSimpArgs false
set_option linter.unusedVariables false
/-! ### writing -/
theorem write_loop (lim : Nat) (hlim : lim = 140737488355328) (ds : List S48) (hn : ds.length ≤ 500) (hG : ∀ x ∈ ds, GD x) (body : List Int) (hb : body.length ≤ 65532) (s : Int) (hs : ∃ K, ∀ k, K ≤ k → pack_Sum.f k body = some s) :
    ∀ (d i : Nat) (acc : List Int), i + d = ds.length → acc ++ encDs (ds.drop i) = body → Tot (fun k => pack_Write.l0 k acc ds (ds.length : Int) (i : Int)) (fun r => r = (body ++ fourL s, 0))
  | 0, i, acc, hi, ha => by
    have ea : acc = body := by rw [← ha, List.drop_of_length_le (by omega), encDs, List.append_nil]
    subst ea
    refine Tot.step (f := fun k => (pack_Sum.f k acc).bind fun t183 => ((pack_four.f t183).bind fun t184 => (if acc.length + t184.length < 140737488355328 then ((some (acc ++ t184 : List Int)).bind fun y187 => (if (y187.length : Int) > 65536 then (some (([] : List Int), 2)) else (some (y187, 0)))) else (none)))) ?_ (fun k => by rw [pack_Write.l0, if_neg (by omega)])
    obtain ⟨K, hK⟩ := hs
    refine Tot.bind (P := fun t => t = s) ⟨s, rfl, K, hK⟩ (fun t ht => Tot.bind (P := fun f => f = fourL s) (Tot.pure (by rw [ht]; rfl)) (fun f hf => ?_))
    have h4 : f.length = 4 := by rw [hf]; rfl
    refine Tot.ite (fun _ => Tot.bind (P := fun y => y = acc ++ f) (Tot.pure rfl) (fun y hy => Tot.ite (fun c => ?_) (fun _ => Tot.pure (by rw [hy, hf])))) (fun c => absurd (by omega) c)
    rw [hy, List.length_append] at c; omega
  | d + 1, i, acc, hi, ha => by
    have hlt : i < ds.length := by omega
    have e : ds.drop i = ds[i] :: ds.drop (i + 1) := (List.getElem_cons_drop (h := hlt)).symm
    rw [e, encDs] at ha
    obtain ⟨g1, g2, g3⟩ := hG _ (List.getElem_mem hlt)
    have hal : acc.length ≤ 65532 := by rw [← ha, List.length_append] at hb; omega
    have hel := encAll_len ds[i].f4 g1 g2
    refine Tot.step (f := fun k => (delta_Write.f k ((rd_T48 ds (i : Int)).f4)).bind fun bt170 => (if bt170.2 = 0 then ((bytesO ((rd_T48 ds (i : Int)).f5)).bind fun t174 => ((slices_Concat_byte_byte.f k (([acc, (([((rd_T48 ds (i : Int)).f0) % 256, ((rd_T48 ds (i : Int)).f1) % 256, ((rd_T48 ds (i : Int)).f2) % 256, ((rd_T48 ds (i : Int)).f3) % 256, ((((rd_T48 ds (i : Int)).f5).size : Int)) % 256] : List Int)), t174, bt170.1] : List (List Int)))).bind fun t180 => (pack_Write.l0 k t180 ds (ds.length : Int) ((i + 1 : Nat) : Int)))) else (some (([] : List Int), bt170.2)))) ?_ (fun k => by
      rw [pack_Write.l0, if_pos (by omega), if_pos (by omega), if_pos (by omega), nx1 (n := ds.length) (by omega) (by omega)])
    rw [rd48_at hlt]
    obtain ⟨K, hK⟩ := write_enc lim hlim ds[i].f4 g1 g2
    refine Tot.bind (P := fun r => r = (encAll ds[i].f4, 0)) ⟨_, rfl, K, hK⟩ (fun r hr => ?_)
    subst hr
    refine Tot.ite (fun _ => ?_) (fun c => absurd rfl c)
    refine Tot.bind (P := fun t => t = bytesOf ds[i].f5) (Tot.same (f := fun _ => some (bytesOf ds[i].f5)) (Tot.pure (P := fun t => t = bytesOf ds[i].f5) rfl) (fun _ => by unfold bytesO; rw [if_pos (by omega)])) (fun t ht => ?_)
    subst ht
    refine Tot.bind (cat_tot _ (by simp) (by simp only [sumL, List.length_cons, List.length_nil, bytesOf_length]; omega)) (fun c hc => write_loop lim hlim ds hn hG body hb s hs d (i + 1) c (by omega) ?_)
    rw [hc, ← ha]
    simp [encD]
theorem write_tot (lim : Nat) (hlim : lim = 140737488355328) (ds : List S48) (hn : ds.length ≤ 500) (hG : ∀ x ∈ ds, GD x) (hA : ∃ K, ∀ k, K ≤ k → pack_All.f k ds = some 0) (hb : (bodyOf ds).length ≤ 65532) (s : Int) (hs : ∃ K, ∀ k, K ≤ k → pack_Sum.f k (bodyOf ds) = some s) :
    Tot (fun k => pack_Write.f k ds) (fun r => r = (bodyOf ds ++ fourL s, 0)) := by
  unfold pack_Write.f
  obtain ⟨K, hK⟩ := hA
  refine Tot.bind (P := fun t => t = 0) ⟨0, rfl, K, hK⟩ (fun t ht => Tot.ite (fun _ => ?_) (fun c => absurd ht c))
  have hin : In (ds.length : Int) := ⟨by omega, by omega⟩
  refine Tot.bind (P := fun t => t = [77, 84, 49] ++ enc (ds.length : Int)) ⟨_, rfl, 12, fun k hk => num_enc lim hlim hin k _ hk (by simp; omega)⟩ (fun t ht => ?_)
  exact write_loop lim hlim ds hn hG (bodyOf ds) hb s hs ds.length 0 t (by omega) (by rw [ht, List.drop_zero, List.append_assoc]; rfl)
/-! ### the commands that Draws makes -/
def okT (s : ByteArray) : Bool := (s.toList != ([] : List UInt8)) && (decide (s.size ≤ 5) && (List.range s.size).all fun j => decide (32 ≤ bt s (j : Int)) && decide (bt s (j : Int) ≤ 126))
theorem okT_of {s : ByteArray} (h : okT s = true) : (s.toList == ([] : List UInt8)) = false ∧ s.size ≤ 5 ∧ ∀ j : Nat, j < s.size → 32 ≤ bt s (j : Int) ∧ bt s (j : Int) ≤ 126 := by
  unfold okT at h
  simp only [Bool.and_eq_true, decide_eq_true_eq, List.all_eq_true, List.mem_range] at h
  exact ⟨by simpa using h.1, h.2.1, fun j hj => h.2.2 j hj⟩
theorem txt_ok {V : Int} (h : 0 ≤ V ∧ V < 5) : okT (txt V) = true := by
  have hV : V = 0 ∨ V = 1 ∨ V = 2 ∨ V = 3 ∨ V = 4 := by omega
  rcases hV with rfl | rfl | rfl | rfl | rfl
  · show okT ⟨#[65, 108, 100, 101, 114]⟩ = true; unfold okT; rw [toList_data]; decide +kernel
  · show okT ⟨#[66, 105, 114, 99, 104]⟩ = true; unfold okT; rw [toList_data]; decide +kernel
  · show okT ⟨#[67, 111, 118, 101]⟩ = true; unfold okT; rw [toList_data]; decide +kernel
  · show okT ⟨#[109, 109]⟩ = true; unfold okT; rw [toList_data]; decide +kernel
  · show okT ⟨#[105]⟩ = true; unfold okT; rw [toList_data]; decide +kernel
theorem pts_ok : ∀ (m : Nat) (l : List Int) (acc : List S44), (∀ p ∈ acc, VP p) → (ptsOf m l acc).1.length = acc.length + m ∧ ∀ p ∈ (ptsOf m l acc).1, VP p
  | 0, l, acc, h => ⟨rfl, h⟩
  | m + 1, l, acc, h => by
    have b1 := nextv_in l 300 (by omega)
    have b2 := nextv_in l.tail 300 (by omega)
    obtain ⟨e1, e2⟩ := pts_ok m l.tail.tail (acc ++ [⟨nextv l 300 - 20, nextv l.tail 300 - 20⟩]) (fun p hp => by
      rcases List.mem_append.1 hp with hp | hp
      · exact h p hp
      · rw [List.mem_singleton.1 hp]; unfold VP; simp only; omega)
    exact ⟨by rw [ptsOf, e1, List.length_append, List.length_singleton]; omega, e2⟩
theorem draw_ok (l : List Int) : VD (drawOf l) ∧ GD (drawOf l) ∧ (encD (drawOf l)).length ≤ 130 := by
  have b0 := nextv_in l 4 (by omega)
  have b1 := nextv_in l.tail 9 (by omega)
  have b2 := nextv_in l.tail.tail 256 (by omega)
  have b3 := nextv_in l.tail.tail.tail 5 (by omega)
  have b4 := nextv_in l.tail.tail.tail.tail 3 (by omega)
  have b5 := nextv_in l.tail.tail.tail.tail.tail 3 (by omega)
  have hK : kindv l = 1 ∨ kindv l = 2 ∨ kindv l = 3 ∨ kindv l = 4 := by unfold kindv; omega
  obtain ⟨p1, p2⟩ := pts_ok (cntv l).toNat l.tail.tail.tail.tail.tail.tail [] (fun p hp => by cases hp)
  rw [List.length_nil, Nat.zero_add] at p1
  have p1 : (ptv l).1.length = (cntv l).toNat := p1
  have p2 : ∀ p ∈ (ptv l).1, VP p := p2
  have hc : (kindv l = 1 → cntv l = 1) ∧ (kindv l = 2 → 2 ≤ cntv l ∧ cntv l ≤ 4) ∧ (kindv l = 3 → 3 ≤ cntv l ∧ cntv l ≤ 5) ∧ (kindv l = 4 → cntv l = 1) := by
    unfold cntv
    refine ⟨fun h => by rw [h]; rfl, fun h => ?_, fun h => ?_, fun h => by rw [h]; rfl⟩
    · rw [h]; show 2 ≤ 2 + nextv _ 3 ∧ 2 + nextv _ 3 ≤ 4; omega
    · rw [h]; show 3 ≤ 3 + nextv _ 3 ∧ 3 + nextv _ 3 ≤ 5; omega
  have hct : 1 ≤ (cntv l).toNat ∧ (cntv l).toNat ≤ 5 := by
    rcases hK with h | h | h | h
    · have := hc.1 h; omega
    · have := hc.2.1 h; omega
    · have := hc.2.2.1 h; omega
    · have := hc.2.2.2 h; omega
  obtain ⟨tx, htx⟩ : ∃ t, t = (if kindv l = 4 then txt (nextv (ptv l).2 5) else (⟨#[]⟩ : ByteArray)) := ⟨_, rfl⟩
  have ht : VText (kindv l) tx ∧ tx.size ≤ 5 := by
    rw [htx]
    by_cases c : kindv l = 4
    · obtain ⟨t1, t2, t3⟩ := okT_of (txt_ok (nextv_in (ptv l).2 5 (by omega)))
      rw [if_pos c]
      exact ⟨⟨by rw [t1, c]; rfl, by omega, t3⟩, t2⟩
    · rw [if_neg c]
      refine ⟨⟨?_, by decide, fun j hj => absurd hj (Nat.not_lt_zero _)⟩, by decide⟩
      rw [toList_data, show ((⟨#[]⟩ : ByteArray).data.toList == ([] : List UInt8)) = true from rfl, show (kindv l == 4) = false from by simpa using c]; rfl
  have hpt : VPart (kindv l) (ptv l).1 := by
    refine ⟨by omega, fun h1 h2 => ?_, fun h1 h2 => ?_, fun h1 => ⟨fun h2 => ?_, fun h2 => ?_⟩, by omega, p2⟩
    · have := hc.2.1 h2; omega
    · have := hc.2.2.1 h2; omega
    · have := hc.1 h2; omega
    · have := hc.2.2.2 h2; omega
  have htot : tot [(ptv l).1] ≤ 5 := by show (ptv l).1.length + 0 ≤ 5; omega
  have e : drawOf l = ⟨kindv l, nextv l.tail 9, nextv l.tail.tail 256, nextv l.tail.tail.tail 5, [(ptv l).1], tx⟩ := by rw [htx]; rfl
  rw [e]
  refine ⟨⟨by show 1 ≤ kindv l ∧ kindv l ≤ 4; omega, by show 0 ≤ nextv l.tail 9 ∧ nextv l.tail 9 ≤ 100; omega, by show 0 ≤ nextv l.tail.tail 256 ∧ nextv l.tail.tail 256 ≤ 255; omega, by show 0 ≤ nextv l.tail.tail.tail 5 ∧ nextv l.tail.tail.tail 5 ≤ 64; omega, ht.1, ⟨by simp, by simp, fun _ => rfl⟩, fun p hp => ?_⟩, ⟨by simp, by show tot [(ptv l).1] ≤ 20000; omega, by show tx.size < 256; omega⟩, ?_⟩
  · rw [List.mem_singleton.1 hp]; exact hpt
  · have h1 := enc_len (n := (([(ptv l).1] : List (List S44)).length : Int)) ⟨by simp, by simp⟩
    have h2 := encL_len [(ptv l).1] 0 0 (by omega)
    have h3 : ([(ptv l).1] : List (List S44)).length = 1 := rfl
    rw [h3] at h2
    have h6 : (encAll [(ptv l).1]).length ≤ 120 := by unfold encAll; rw [List.length_append]; omega
    unfold encD
    simp only [List.length_cons, List.length_append, bytesOf_length]
    have := ht.2
    omega
theorem draws_ok : ∀ (m : Nat) (l : List Int) (acc : List S48), (∀ d ∈ acc, VD d ∧ GD d ∧ (encD d).length ≤ 130) → (drawsOf m l acc).length = acc.length + m ∧ ∀ d ∈ drawsOf m l acc, VD d ∧ GD d ∧ (encD d).length ≤ 130
  | 0, l, acc, h => ⟨rfl, h⟩
  | m + 1, l, acc, h => by
    obtain ⟨e1, e2⟩ := draws_ok m (restOf l) (acc ++ [drawOf l]) (fun d hd => by
      rcases List.mem_append.1 hd with hd | hd
      · exact h d hd
      · rw [List.mem_singleton.1 hd]; exact draw_ok l)
    exact ⟨by rw [drawsOf, e1, List.length_append, List.length_singleton]; omega, e2⟩
theorem encDs_len : ∀ (ds : List S48), (∀ d ∈ ds, (encD d).length ≤ 130) → (encDs ds).length ≤ 130 * ds.length
  | [], _ => Nat.zero_le _
  | d :: r, h => by
    have h1 := h d (by simp)
    have h2 := encDs_len r (fun x hx => h x (by simp [hx]))
    rw [encDs, List.length_append, List.length_cons]; omega
/-- The commands out of a list of numbers. -/
def drawsL (l : List Int) : List S48 := drawsOf (nextv l 6).toNat l.tail []
theorem drawsL_eq (l : List Int) : terrkeep5_Draws.f l = some (drawsL l) := rfl
theorem drawsL_ok (l : List Int) : (drawsL l).length ≤ 5 ∧ ∀ d ∈ drawsL l, VD d ∧ GD d ∧ (encD d).length ≤ 130 := by
  have b := nextv_in l 6 (by omega)
  obtain ⟨e1, e2⟩ := draws_ok (nextv l 6).toNat l.tail [] (fun d hd => by cases hd)
  exact ⟨by unfold drawsL; rw [e1, List.length_nil]; omega, e2⟩
theorem enc_pos (n : Int) : 1 ≤ (enc n).length := by
  unfold enc
  by_cases c : (zig n).toNat ≤ 127
  · rw [dg_lo c]; simp
  · rw [dg_hi (by omega), List.length_cons]; omega
/-- Draws' commands are written. -/
theorem draws_write (lim : Nat) (hlim : lim = 140737488355328) (l : List Int) : ∃ s, Tot (fun k => pack_Write.f k (drawsL l)) (fun r => r = (bodyOf (drawsL l) ++ fourL s, 0)) ∧ 4 ≤ (bodyOf (drawsL l)).length ∧ (bodyOf (drawsL l)).length ≤ 800 ∧ ∃ K, ∀ k, K ≤ k → pack_Sum.f k (bodyOf (drawsL l)) = some s := by
  obtain ⟨h1, h2⟩ := drawsL_ok l
  have h3 := encDs_len (drawsL l) (fun d hd => (h2 d hd).2.2)
  have h4 := enc_len (n := ((drawsL l).length : Int)) ⟨by omega, by omega⟩
  have h5 := enc_pos ((drawsL l).length : Int)
  have hb : (bodyOf (drawsL l)).length = 3 + ((enc ((drawsL l).length : Int)).length + (encDs (drawsL l)).length) := by unfold bodyOf; rw [List.length_append, List.length_append]; rfl
  obtain ⟨s, _, Ks⟩ := sum_tot (bodyOf (drawsL l)) (by omega)
  obtain ⟨t, ht, Ka⟩ := all_tot (drawsL l)
  have ht0 := ht.2 (by omega) (fun d hd => (h2 d hd).1)
  subst ht0
  exact ⟨s, write_tot lim hlim (drawsL l) (by omega) (fun d hd => (h2 d hd).2.1) Ka (by omega) s Ks, by omega, by omega, Ks⟩
end Go.Proofs.Ytjgoehhhjffpmaa.U
