/- A region that draws its order, walked once: each operation by itself, whatever the order. Conditions: what each leaves is told by a relation that the others keep. -/
import Derived.Orders
import Derived.Deep.Draws
namespace Go.Proofs.Ytdmhnjpblpfbfaa.Uni
open Go
/-- The destinations of a region's operations, filled with the values v i. -/
def fillT : List (Option Tmp) → Array Value → (Nat → Value) → Nat → Array Value
  | [], t, _, _ => t
  | none :: r, t, v, i => fillT r t v (i + 1)
  | some d :: r, t, v, i => fillT r (t.setIfInBounds d (v i)) v (i + 1)
def fill (L : List (Option Tmp)) (a : Act) (v : Nat → Value) : Act := { a with tmps := fillT L a.tmps v 0 }
def upd (v : Nat → Value) (i : Nat) (x : Value) : Nat → Value := fun j => if j = i then x else v j
/-- No destination occurs twice. -/
def onceB : List (Option Tmp) → Bool
  | [] => true
  | none :: r => onceB r
  | some d :: r => !r.contains (some d) && onceB r
theorem fillT_out {d : Tmp} {x : Value} : ∀ (L : List (Option Tmp)) (t : Array Value) (v : Nat → Value) (i : Nat), L.contains (some d) = false → fillT L (t.setIfInBounds d x) v i = (fillT L t v i).setIfInBounds d x
  | [], _, _, _, _ => rfl
  | none :: r, t, v, i, h => fillT_out r t v (i + 1) (by simpa using h)
  | some e :: r, t, v, i, h => by
    have he : d ≠ e := fun he => by subst he; simp at h
    have hr : r.contains (some d) = false := by
      rw [List.contains_cons] at h
      simp only [Bool.or_eq_false_iff] at h
      exact h.2
    show fillT r ((t.setIfInBounds d x).setIfInBounds e (v i)) v (i + 1) = (fillT r (t.setIfInBounds e (v i)) v (i + 1)).setIfInBounds d x
    rw [Array.setIfInBounds_comm _ _ he]
    exact fillT_out r _ v (i + 1) hr
theorem fillT_low {x : Value} {k : Nat} : ∀ (L : List (Option Tmp)) (t : Array Value) (v : Nat → Value) (i : Nat), k < i → fillT L t (upd v k x) i = fillT L t v i
  | [], _, _, _, _ => rfl
  | none :: r, t, v, i, h => fillT_low r t v (i + 1) (by omega)
  | some e :: r, t, v, i, h => by
    show fillT r (t.setIfInBounds e (upd v k x i)) (upd v k x) (i + 1) = fillT r (t.setIfInBounds e (v i)) v (i + 1)
    rw [fillT_low r _ v (i + 1) (by omega), show upd v k x i = v i from if_neg (by omega)]
/-- One more value: it is put into its destination. -/
theorem fillT_put {x : Value} : ∀ (L : List (Option Tmp)) (t : Array Value) (v : Nat → Value) (i k : Nat) (d : Option Tmp), onceB L = true → L[k]? = some d →
    fillT L t (upd v (i + k) x) i = (match d with | some d => (fillT L t v i).setIfInBounds d x | none => fillT L t v i)
  | [], _, _, _, _, _, _, hk => by cases hk
  | c :: r, t, v, i, 0, d, ho, hk => by
    obtain rfl : c = d := by simpa using hk
    cases c with
    | none => exact fillT_low r t v (i + 1) (by omega)
    | some e =>
      have hn : r.contains (some e) = false := by
        simp only [onceB, Bool.and_eq_true, Bool.not_eq_true'] at ho
        exact ho.1
      show fillT r (t.setIfInBounds e (upd v i x i)) (upd v i x) (i + 1) = (fillT r (t.setIfInBounds e (v i)) v (i + 1)).setIfInBounds e x
      rw [fillT_low r _ v (i + 1) (by omega), show upd v i x i = x from if_pos rfl, fillT_out r _ _ _ hn, fillT_out r _ _ _ hn, Array.setIfInBounds_setIfInBounds]
  | none :: r, t, v, i, k + 1, d, ho, hk => by
    have h := fillT_put (x := x) r t v (i + 1) k d ho (by simpa using hk)
    rw [show i + 1 + k = i + (k + 1) by omega] at h
    exact h
  | some e :: r, t, v, i, k + 1, d, ho, hk => by
    have ho' : onceB r = true := by
      simp only [onceB, Bool.and_eq_true] at ho
      exact ho.2
    have h := fillT_put (x := x) r (t.setIfInBounds e (v i)) v (i + 1) k d ho' (by simpa using hk)
    rw [show i + 1 + k = i + (k + 1) by omega] at h
    show fillT r (t.setIfInBounds e (upd v (i + (k + 1)) x i)) (upd v (i + (k + 1)) x) (i + 1) = _
    rw [show upd v (i + (k + 1)) x i = v i from if_neg (by omega)]
    exact h
section
variable {P : Program} {ops : Array Oper} {Q : Exit → Act → World → Prop} {I : World → Prop} {St : World → World → Prop} {R : Nat → Value → World → Prop}
/-- What an operation waits for. -/
def waits (o : Oper) : List Nat := (o.after.toList.filter (Region.binds .any)).map (·.on)
def dsts (ops : Array Oper) : List (Option Tmp) := ops.toList.map (·.dst)
/-- Each waits for earlier ones alone. -/
def downB : List (List Nat) → Nat → Bool
  | [], _ => true
  | l :: r, i => l.all (fun j => decide (j < i)) && downB r (i + 1)
theorem downB_spec : ∀ (l : List (List Nat)) (i k : Nat) (q : List Nat), downB l i = true → l[k]? = some q → ∀ j ∈ q, j < i + k
  | [], _, _, _, _, hk => by cases hk
  | l :: r, i, 0, q, h, hk => fun j hj => by
    obtain rfl : l = q := by simpa using hk
    simp only [downB, Bool.and_eq_true] at h
    exact of_decide_eq_true (List.all_eq_true.1 h.1 j hj)
  | l :: r, i, k + 1, q, h, hk => fun j hj => by
    simp only [downB, Bool.and_eq_true] at h
    have := downB_spec r (i + 1) k q h.2 (by simpa using hk) j hj
    omega
/-- What is known of the values that an operation waits for. -/
def RelL (R : Nat → Value → World → Prop) (v : Nat → Value) (w : World) : List Nat → Prop
  | [] => True
  | j :: l => R j (v j) w ∧ RelL R v w l
theorem RelL.of {v : Nat → Value} {w : World} : ∀ (l : List Nat), (∀ j ∈ l, R j (v j) w) → RelL R v w l
  | [], _ => trivial
  | j :: l, h => ⟨h j List.mem_cons_self, RelL.of l fun k hk => h k (List.mem_cons_of_mem _ hk)⟩
/-- What is to be shown of operation i. -/
def OpOk (P : Program) (ops : Array Oper) (Q : Exit → Act → World → Prop) (I : World → Prop) (St : World → World → Prop) (R : Nat → Value → World → Prop) (L : List (Option Tmp)) (a : Act) (i : Nat) (o : Oper) (wt : List Nat) : Prop :=
  ∀ (v : Nat → Value) (w : World), I w → RelL R v w wt → ∀ a' : Act, a' = fill L a v → ∀ K : Act → World → Prop, (∀ x w', I w' → St w w' → R i x w' → K (a'.put o.dst x) w') →
    if Region.wanted o (yielded ops a'.tmps) = true then Oper.wp P o a' w K Q else K (a'.put o.dst undef) w
def OpsOk (P : Program) (ops : Array Oper) (Q : Exit → Act → World → Prop) (I : World → Prop) (St : World → World → Prop) (R : Nat → Value → World → Prop) (L : List (Option Tmp)) (a : Act) : List (Oper) → List (List Nat) → Nat → Prop
  | o :: r, wt :: ws, i => OpOk P ops Q I St R L a i o wt ∧ OpsOk P ops Q I St R L a r ws (i + 1)
  | _, _, _ => True
theorem OpsOk.at {L : List (Option Tmp)} {a : Act} : ∀ (l : List Oper) (ws : List (List Nat)) (i k : Nat) (o : Oper), ws.length = l.length → OpsOk P ops Q I St R L a l ws i → l[k]? = some o → ∃ wt, ws[k]? = some wt ∧ OpOk P ops Q I St R L a (i + k) o wt
  | [], _, _, _, _, _, _, hk => by cases hk
  | _ :: _, [], _, _, _, hl, _, _ => by cases hl
  | q :: r, wt :: ws, i, 0, o, hl, h, hk => by
    obtain rfl : q = o := by simpa using hk
    exact ⟨wt, rfl, h.1⟩
  | q :: r, wt :: ws, i, k + 1, o, hl, h, hk => by
    obtain ⟨wt', h1, h2⟩ := OpsOk.at r ws (i + 1) k o (by simpa using hl) h.2 (by simpa using hk)
    exact ⟨wt', by simpa using h1, by rw [show i + (k + 1) = i + 1 + k by omega]; exact h2⟩
theorem fillT_same : ∀ (L : List (Option Tmp)) (t : Array Value) (v : Nat → Value) (i : Nat), (∀ k d, L[k]? = some (some d) → ∀ h : d < t.size, v (i + k) = t[d]) → fillT L t v i = t
  | [], _, _, _, _ => rfl
  | none :: r, t, v, i, h => fillT_same r t v (i + 1) fun k d hk hd => by
    have := h (k + 1) d (by simpa using hk) hd
    rw [show i + 1 + k = i + (k + 1) by omega]; exact this
  | some e :: r, t, v, i, h => by
    have he : t.setIfInBounds e (v i) = t := by
      by_cases hd : e < t.size
      · have := h 0 e rfl hd
        rw [Nat.add_zero] at this
        rw [this]
        exact Array.ext (by simp) fun j h1 h2 => by
          rw [Array.getElem_setIfInBounds]
          split
          · next hj => subst hj; rfl
          · rfl
      · unfold Array.setIfInBounds
        rw [dif_neg hd]
    show fillT r (t.setIfInBounds e (v i)) v (i + 1) = t
    rw [he]
    exact fillT_same r t v (i + 1) fun k d hk hd => by
      have := h (k + 1) d (by simpa using hk) hd
      rw [show i + 1 + k = i + (k + 1) by omega]; exact this
end
end Go.Proofs.Ytdmhnjpblpfbfaa.Uni

