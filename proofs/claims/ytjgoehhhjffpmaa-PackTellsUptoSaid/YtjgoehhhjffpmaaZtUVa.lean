/- Plain facts on commands: what the two ways to check them answer. No condition but those stated. -/
import Derived.Test.YtjgoehhhjffpmaaZtUB
import Derived.Test.YtjgoehhhjffpmaaZtQf33
import Derived.Test.YtjgoehhhjffpmaaZtQf32
namespace Go.Proofs.Ytjgoehhhjffpmaa.U
open Go.RowKit Go.Proofs.Ytjgoehhhjffpmaa.Q Go.Proofs.YtjgoehhhjffpmaaW.PrintWords Go.Proofs.YtjgoehhhjffpmaaW.PrintLast Go.Proofs.YtjgoehhhjffpmaaW.PrintMore
set_option linter.unusedSimpArgs false
set_option linter.unusedVariables false
/-- From some count of rounds on, g answers r. -/
def Is {α : Type} (g : Nat → Option α) (r : α) : Prop := ∃ K, ∀ k, K ≤ k → g k = some r
theorem Is.pure {α : Type} (r : α) : Is (fun _ => some r) r := ⟨0, fun _ _ => rfl⟩
theorem Is.bind {α β : Type} {g : Nat → Option α} {f : Nat → α → Option β} {r : α} {s : β} (h : Is g r) (hf : Is (fun k => f k r) s) : Is (fun k => (g k).bind (f k)) s := by
  obtain ⟨K, hK⟩ := h
  obtain ⟨K', hK'⟩ := hf
  exact ⟨K + K', fun k hk => by show (g k).bind (f k) = some s; rw [hK k (by omega), Option.bind_some]; exact hK' k (by omega)⟩
theorem Is.pos {β : Type} {c : Prop} [Decidable c] {f g : Nat → Option β} {r : β} (hc : c) (h : Is f r) : Is (fun k => if c then f k else g k) r := by simpa only [if_pos hc] using h
theorem Is.neg {β : Type} {c : Prop} [Decidable c] {f g : Nat → Option β} {r : β} (hc : ¬ c) (h : Is g r) : Is (fun k => if c then f k else g k) r := by simpa only [if_neg hc] using h
theorem Is.ite {β : Type} {c : Prop} [Decidable c] {f g : Nat → Option β} {r : β} (h : c → Is f r) (h' : ¬ c → Is g r) : Is (fun k => if c then f k else g k) r := by
  by_cases d : c
  · exact Is.pos d (h d)
  · exact Is.neg d (h' d)
theorem Is.step {α : Type} {g f : Nat → Option α} {r : α} (h : Is f r) (e : ∀ k, g (k + 1) = f k) : Is g r := by
  obtain ⟨K, hK⟩ := h
  refine ⟨K + 1, fun k hk => ?_⟩
  obtain ⟨m, rfl⟩ : ∃ m, k = m + 1 := ⟨k - 1, by omega⟩
  rw [e]; exact hK m (by omega)
theorem Is.eq {α : Type} {g : Nat → Option α} {r s : α} (h : Is g r) (e : r = s) : Is g s := e ▸ h
theorem nx {i n : Nat} (h : i < n) (hn : n ≤ 1000000000) : wrap64 ((i : Int) + 1) = ((i + 1 : Nat) : Int) := by rw [wrap_id (by omega) (by omega)]; omega
theorem rd44_at {l : List S44} {j : Nat} (h : j < l.length) : rd_T44 l (j : Int) = l[j] := by
  unfold rd_T44; simp [List.getD, h]
theorem rdL4_at {l : List (List S44)} {j : Nat} (h : j < l.length) : rd_L4 l (j : Int) = l[j] := by
  unfold rd_L4; simp [List.getD_eq_getElem?_getD, h]
theorem rd48_is {l : List S48} {j : Nat} (h : j < l.length) : rd_T48 l (j : Int) = l[j] := by
  unfold rd_T48; simp [List.getD, h]
theorem drop_is {α : Type} {l : List α} {i : Nat} (h : i < l.length) : l.drop i = l[i] :: l.drop (i + 1) := List.drop_eq_getElem_cons h
theorem drop_end {α : Type} {l : List α} {i : Nat} (h : i = l.length) : l.drop i = [] := by rw [h, List.drop_length]
/-! ### points -/
def BadP (q : S44) : Prop := q.f0 < -4096 ∨ q.f0 > 4096 ∨ q.f1 < -4096 ∨ q.f1 > 4096
instance (q : S44) : Decidable (BadP q) := by unfold BadP; infer_instance
def ptsC : List S44 → Int
  | [] => 0
  | q :: l => if BadP q then 1 else ptsC l
theorem part_l0 (l : List S44) (hl : l.length ≤ 400) : ∀ (d i : Nat), i + d = l.length → Is (fun k => pack_part.l0 k l (l.length : Int) (i : Int)) (ptsC (l.drop i))
  | 0, i, hi => by
    rw [drop_end (by omega)]
    exact Is.step (f := fun _ => some 0) (Is.pure _) (fun k => by rw [pack_part.l0, if_neg (by omega)])
  | d + 1, i, hi => by
    have ih := part_l0 l hl d (i + 1) (by omega)
    have hlt : i < l.length := by omega
    rw [drop_is hlt, ptsC]
    refine Is.step (f := fun k => if (mn ((rd_T44 l (i : Int)).f0) ((rd_T44 l (i : Int)).f1)) < (-4096) then (some 1) else (if (mx ((rd_T44 l (i : Int)).f0) ((rd_T44 l (i : Int)).f1)) > 4096 then (some 1) else (pack_part.l0 k l (l.length : Int) ((i + 1 : Nat) : Int)))) ?_ (fun k => by rw [pack_part.l0, if_pos (by omega), if_pos (by omega), if_pos (by omega), nx hlt (by omega)])
    rw [rd44_at hlt]
    refine Is.ite (fun c => ?_) (fun c => Is.ite (fun c' => ?_) (fun c' => ?_))
    · rw [if_pos (by unfold BadP; unfold mn at c; split at c <;> omega)]; exact Is.pure _
    · rw [if_pos (by unfold BadP; unfold mx at c'; split at c' <;> omega)]; exact Is.pure _
    · rw [if_neg (by unfold BadP; unfold mn at c; unfold mx at c'; split at c <;> split at c' <;> omega)]; exact ih
def BadN (kind : Int) (n : Nat) : Prop := n = 0 ∨ (n = 1 ∧ kind = 2) ∨ (n < 3 ∧ kind = 3) ∨ (1 < n ∧ (kind = 1 ∨ kind = 4))
instance (kind : Int) (n : Nat) : Decidable (BadN kind n) := by unfold BadN; infer_instance
def partC (kind : Int) (l : List S44) : Int := if 400 < l.length then 2 else if BadN kind l.length then 3 else ptsC l
theorem part_is (kind : Int) (l : List S44) : Is (fun k => pack_part.f k kind l) (partC kind l) := by
  unfold pack_part.f partC
  refine Is.ite (fun c => ?_) (fun c => ?_)
  · rw [if_pos (by omega)]; exact Is.pure _
  rw [if_neg (by omega)]
  refine Is.ite (fun c0 => ?_) (fun c0 => ?_)
  · rw [if_pos (by unfold BadN; omega)]; exact Is.pure _
  have j2 : Is (fun k => pack_part.j2 k l) (ptsC l) := Is.step (f := fun k => pack_part.l0 k l (l.length : Int) 0) (part_l0 l (by omega) l.length 0 (by omega)) (fun k => by rw [pack_part.j2])
  have j1 : ∀ x : Bool, (x = true ↔ l.length < 3 ∧ kind = 3) → ¬ (l.length = 1 ∧ kind = 2) → Is (fun k => pack_part.j1 k kind l (l.length : Int) x) (if BadN kind l.length then 3 else ptsC l) := fun x hx h2 => by
    refine Is.step (f := fun k => if x = true then (some 3) else (if (l.length : Int) > 1 then (if kind = 1 then (some 3) else (if kind = 4 then (some 3) else (pack_part.j2 k l))) else (pack_part.j2 k l))) ?_ (fun k => by rw [pack_part.j1])
    refine Is.ite (fun c => ?_) (fun c3 => Is.ite (fun c => Is.ite (fun c1 => ?_) (fun c1 => Is.ite (fun c4 => ?_) (fun c4 => ?_))) (fun c => ?_))
    · rw [if_pos (by have := hx.1 c; unfold BadN; omega)]; exact Is.pure _
    · rw [if_pos (by unfold BadN; omega)]; exact Is.pure _
    · rw [if_pos (by unfold BadN; omega)]; exact Is.pure _
    · rw [if_neg (by rw [hx] at c3; unfold BadN; omega)]; exact j2
    · rw [if_neg (by rw [hx] at c3; unfold BadN; omega)]; exact j2
  have j0 : ∀ x : Bool, (x = true ↔ l.length = 1 ∧ kind = 2) → Is (fun k => pack_part.j0 k kind l (l.length : Int) x) (if BadN kind l.length then 3 else ptsC l) := fun x hx => by
    refine Is.step (f := fun k => if x = true then (some 3) else (if (l.length : Int) < 3 then (pack_part.j1 k kind l (l.length : Int) (kind == 3)) else (pack_part.j1 k kind l (l.length : Int) false))) ?_ (fun k => by rw [pack_part.j0])
    refine Is.ite (fun c => ?_) (fun c2 => Is.ite (fun c => ?_) (fun c => ?_))
    · rw [if_pos (by have := hx.1 c; unfold BadN; omega)]; exact Is.pure _
    · rw [hx] at c2
      exact j1 _ (by rw [beq_iff_eq]; omega) c2
    · rw [hx] at c2
      exact j1 _ ⟨fun h => (by cases h), fun h => by omega⟩ c2
  refine Is.ite (fun c1 => j0 _ (by rw [beq_iff_eq]; omega)) (fun c1 => j0 _ ⟨fun h => (by cases h), fun h => by omega⟩)
def partsC (kind : Int) : List (List S44) → Int
  | [] => 0
  | p :: ps => if partC kind p = 0 then partsC kind ps else partC kind p
/-! ### the text -/
def txtL : List Int → Int
  | [] => 0
  | c :: l => if c < 32 ∨ c > 126 then 3 else txtL l
theorem bt_bytes (s : ByteArray) {i : Nat} (h : i < s.size) : bt s (i : Int) = (bytesOf s)[i]'(by rw [bytesOf_length]; exact h) := by
  rw [← rd_bytesOf]
  unfold rd
  rw [Int.toNat_natCast, List.getD_eq_getElem?_getD, List.getElem?_eq_getElem (by rw [bytesOf_length]; exact h)]
  rfl
theorem text_l0 (s : ByteArray) (hs : s.size ≤ 40) (a b c e : Int) (l : List (List S44)) : ∀ (d i : Nat), i + d = s.size → Is (fun k => pack_text.l0 k (s.size : Int) (i : Int) a b c e l s) (txtL ((bytesOf s).drop i))
  | 0, i, hi => by
    rw [drop_end (by rw [bytesOf_length]; omega)]
    exact Is.step (f := fun _ => some 0) (Is.pure _) (fun k => by rw [pack_text.l0, if_neg (by omega)])
  | d + 1, i, hi => by
    have ih := text_l0 s hs a b c e l d (i + 1) (by omega)
    have hlt : i < s.size := by omega
    rw [drop_is (by rw [bytesOf_length]; exact hlt), txtL]
    refine Is.step (f := fun k => if (bt s (i : Int)) < 32 then (some 3) else (if (bt s (i : Int)) > 126 then (some 3) else (pack_text.l0 k (s.size : Int) ((i + 1 : Nat) : Int) a b c e l s))) ?_ (fun k => by rw [pack_text.l0, if_pos (by omega), if_pos (by omega), if_pos (by omega), nx hlt (by omega)])
    rw [bt_bytes s hlt]
    refine Is.ite (fun c => ?_) (fun c => Is.ite (fun c' => ?_) (fun c' => ?_))
    · rw [if_pos (by omega)]; exact Is.pure _
    · rw [if_pos (by omega)]; exact Is.pure _
    · rw [if_neg (by omega)]; exact ih
def textC (kind : Int) (s : ByteArray) : Int := if (s.toList = [] ↔ kind = 4) then 3 else if 40 < s.size then 2 else txtL (bytesOf s)
theorem text_is (a b c e : Int) (l : List (List S44)) (s : ByteArray) : Is (fun k => pack_text.f k a b c e l s) (textC a s) := by
  unfold pack_text.f textC
  have he : ((s.toList == ([] : List UInt8)) == (a == 4)) = true ↔ (s.toList = [] ↔ a = 4) := by
    rw [beq_iff_eq, Bool.eq_iff_iff, beq_iff_eq, beq_iff_eq]
  refine Is.ite (fun c => ?_) (fun c => Is.ite (fun c' => ?_) (fun c' => ?_))
  · rw [if_pos (he.1 c)]; exact Is.pure _
  · rw [if_neg (fun h => c (he.2 h)), if_pos (by omega)]; exact Is.pure _
  · rw [if_neg (fun h => c (he.2 h)), if_neg (by omega)]
    exact text_l0 s (by omega) a b _ e l s.size 0 (by omega)
/-! ### a command -/
def BadK (kind : Int) : Prop := kind < 1 ∨ kind > 4
instance (kind : Int) : Decidable (BadK kind) := by unfold BadK; infer_instance
def BadV (la co wi : Int) : Prop := la < 0 ∨ la > 100 ∨ co < 0 ∨ co > 255 ∨ wi < 0 ∨ wi > 64
instance (la co wi : Int) : Decidable (BadV la co wi) := by unfold BadV; infer_instance
def BadM (kind : Int) (n : Nat) : Prop := n = 0 ∨ n > 20 ∨ (kind = 4 ∧ n ≠ 1)
instance (kind : Int) (n : Nat) : Decidable (BadM kind n) := by unfold BadM; infer_instance
/-- What comes behind the text. -/
def tailC (kind : Int) (ps : List (List S44)) : Int := if BadM kind ps.length then 3 else partsC kind ps
def chk (d : S48) : Int := if BadK d.f0 then 1 else if BadV d.f1 d.f2 d.f3 then 2 else if textC d.f0 d.f5 = 0 then tailC d.f0 d.f4 else textC d.f0 d.f5
theorem check_l0 (ps : List (List S44)) (hp : ps.length ≤ 20) (kd la co wi : Int) (tx : ByteArray) : ∀ (n i : Nat), i + n = ps.length → Is (fun k => pack_Check.l0 k ps (ps.length : Int) (i : Int) kd la co wi ps tx) (partsC kd (ps.drop i))
  | 0, i, hi => by
    rw [drop_end (by omega)]
    exact Is.step (f := fun _ => some 0) (Is.pure _) (fun k => by rw [pack_Check.l0, if_neg (by omega)])
  | n + 1, i, hi => by
    have ih := check_l0 ps hp kd la co wi tx n (i + 1) (by omega)
    have hlt : i < ps.length := by omega
    rw [drop_is hlt, partsC]
    refine Is.step (f := fun k => (pack_part.f k kd (rd_L4 ps (i : Int))).bind fun t => (if t = 0 then (pack_Check.l0 k ps (ps.length : Int) ((i + 1 : Nat) : Int) kd la co wi ps tx) else (some t))) ?_ (fun k => by rw [pack_Check.l0, if_pos (by omega), if_pos (by omega), if_pos (by omega), nx hlt (by omega)])
    rw [rdL4_at hlt]
    refine Is.bind (part_is kd _) (Is.ite (fun c => ?_) (fun c => ?_))
    · rw [if_pos c]; exact ih
    · rw [if_neg c]; exact Is.pure _
theorem check_is (d : S48) : Is (fun k => pack_Check.f k d.f0 d.f1 d.f2 d.f3 d.f4 d.f5) (chk d) := by
  obtain ⟨kd, la, co, wi, ps, tx⟩ := d
  unfold chk
  simp only
  have j2 : ∀ x : Bool, (x = true ↔ BadM kd ps.length) → Is (fun k => pack_Check.j2 k x kd la co wi ps tx) (tailC kd ps) := fun x hx => by
    refine Is.step (f := fun k => if x = true then (some 3) else (pack_Check.l0 k ps (ps.length : Int) 0 kd la co wi ps tx)) ?_ (fun k => by rw [pack_Check.j2])
    unfold tailC
    refine Is.ite (fun c => ?_) (fun c => ?_)
    · rw [if_pos (hx.1 c)]; exact Is.pure _
    · rw [hx] at c
      rw [if_neg c]
      exact check_l0 ps (by unfold BadM at c; omega) kd la co wi tx ps.length 0 (by omega)
  have j1 : ∀ x : Bool, (x = true ↔ BadV la co wi) → Is (fun k => pack_Check.j1 k x kd la co wi ps tx) (if BadV la co wi then 2 else if textC kd tx = 0 then tailC kd ps else textC kd tx) := fun x hx => by
    refine Is.step (f := fun k => if x = true then (some 2) else ((pack_text.f k kd la co wi ps tx).bind fun t => (if t = 0 then (if (ps.length : Int) = 0 then (pack_Check.j2 k true kd la co wi ps tx) else (if (ps.length : Int) > 20 then (pack_Check.j2 k true kd la co wi ps tx) else (if kd = 4 then (pack_Check.j2 k ((ps.length : Int) != 1) kd la co wi ps tx) else (pack_Check.j2 k false kd la co wi ps tx)))) else (some t)))) ?_ (fun k => by rw [pack_Check.j1])
    refine Is.ite (fun c => ?_) (fun c => ?_)
    · rw [if_pos (hx.1 c)]; exact Is.pure _
    rw [hx] at c
    rw [if_neg c]
    refine Is.bind (text_is kd la co wi ps tx) (Is.ite (fun c0 => ?_) (fun c0 => ?_))
    · rw [if_pos c0]
      refine Is.ite (fun c1 => j2 _ ⟨fun _ => by unfold BadM; omega, fun _ => rfl⟩) (fun c1 => Is.ite (fun c2 => j2 _ ⟨fun _ => by unfold BadM; omega, fun _ => rfl⟩) (fun c2 => Is.ite (fun c4 => j2 _ ?_) (fun c4 => j2 _ ⟨fun h => (by cases h), fun h => by unfold BadM at h; omega⟩)))
      rw [bne_iff_ne]
      unfold BadM
      omega
    · rw [if_neg c0]; exact Is.pure _
  have j0 : ∀ x : Bool, (x = true ↔ BadK kd) → Is (fun k => pack_Check.j0 k x kd la co wi ps tx) (if BadK kd then 1 else if BadV la co wi then 2 else if textC kd tx = 0 then tailC kd ps else textC kd tx) := fun x hx => by
    refine Is.step (f := fun k => if x = true then (some 1) else (if (mn (mn la co) wi) < 0 then (pack_Check.j1 k true kd la co wi ps tx) else (if la > 100 then (pack_Check.j1 k true kd la co wi ps tx) else (if co > 255 then (pack_Check.j1 k true kd la co wi ps tx) else (pack_Check.j1 k (decide (wi > 64)) kd la co wi ps tx))))) ?_ (fun k => by rw [pack_Check.j0])
    refine Is.ite (fun c => ?_) (fun c => ?_)
    · rw [if_pos (hx.1 c)]; exact Is.pure _
    rw [hx] at c
    rw [if_neg c]
    refine Is.ite (fun c1 => j1 _ ⟨fun _ => ?_, fun _ => rfl⟩) (fun c1 => Is.ite (fun c2 => j1 _ ⟨fun _ => by unfold BadV; omega, fun _ => rfl⟩) (fun c2 => Is.ite (fun c3 => j1 _ ⟨fun _ => by unfold BadV; omega, fun _ => rfl⟩) (fun c3 => j1 _ ?_)))
    · unfold mn at c1; unfold BadV; split at c1 <;> (try split at c1) <;> omega
    · rw [decide_eq_true_iff]; unfold mn at c1; unfold BadV; split at c1 <;> (try split at c1) <;> omega
  unfold pack_Check.f
  refine Is.ite (fun c => j0 _ ⟨fun _ => by unfold BadK; omega, fun _ => rfl⟩) (fun c => j0 _ ?_)
  rw [decide_eq_true_iff]; unfold BadK; omega
def chkAll : List S48 → Int
  | [] => 0
  | d :: l => if chk d = 0 then chkAll l else chk d
def draws (l : List S48) : Int := if 500 < l.length then 2 else chkAll l
theorem all_l0 (l : List S48) (hl : l.length ≤ 500) : ∀ (n i : Nat), i + n = l.length → Is (fun k => pack_All.l0 k l (l.length : Int) (i : Int)) (chkAll (l.drop i))
  | 0, i, hi => by
    rw [drop_end (by omega)]
    exact Is.step (f := fun _ => some 0) (Is.pure _) (fun k => by rw [pack_All.l0, if_neg (by omega)])
  | n + 1, i, hi => by
    have ih := all_l0 l hl n (i + 1) (by omega)
    have hlt : i < l.length := by omega
    rw [drop_is hlt, chkAll]
    refine Is.step (f := fun k => (pack_Check.f k ((rd_T48 l (i : Int)).f0) ((rd_T48 l (i : Int)).f1) ((rd_T48 l (i : Int)).f2) ((rd_T48 l (i : Int)).f3) ((rd_T48 l (i : Int)).f4) ((rd_T48 l (i : Int)).f5)).bind fun t => (if t = 0 then (pack_All.l0 k l (l.length : Int) ((i + 1 : Nat) : Int)) else (some t))) ?_ (fun k => by rw [pack_All.l0, if_pos (by omega), if_pos (by omega), if_pos (by omega), nx hlt (by omega)])
    rw [rd48_is hlt]
    refine Is.bind (check_is _) (Is.ite (fun c => ?_) (fun c => ?_))
    · rw [if_pos c]; exact ih
    · rw [if_neg c]; exact Is.pure _
theorem all_is (l : List S48) : Is (fun k => pack_All.f k l) (draws l) := by
  unfold pack_All.f draws
  refine Is.ite (fun c => ?_) (fun c => ?_)
  · rw [if_pos (by omega)]; exact Is.pure _
  · rw [if_neg (by omega)]
    exact all_l0 l (by omega) l.length 0 (by omega)
end Go.Proofs.Ytjgoehhhjffpmaa.U

