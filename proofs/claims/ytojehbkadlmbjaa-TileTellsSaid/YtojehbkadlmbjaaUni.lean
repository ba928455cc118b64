/- A region that draws its order, walked once: each operation by itself, whatever the order. Conditions: what each leaves is told by a relation that the others keep. -/
import Derived.Orders
import Derived.Deep.Draws
namespace Go.Proofs.Ytojehbkadlmbjaa.Uni
open Go
/-- The destinations of a region's operations, filled with the values v i. -/
def fillT : List (Option Tmp) → Array Value → (Nat → Value) → Nat → Array Value
  | [], t, _, _ => t
  | none :: r, t, v, i => fillT r t v (i + 1)
  | some d :: r, t, v, i => fillT r (t.setIfInBounds d (v i)) v (i + 1)
def fill (L : List (Option Tmp)) (a : Act) (v : Nat → Value) : Act := { a with tmps := fillT L a.tmps v 0 }
def upd (v : Nat → Value) (i : Nat) (x : Value) : Nat → Value := fun j => if j = i then x else v j
/-- No destination occurs twice. -/
def onceB : List (Option Tmp) → Bool
  | [] => true
  | none :: r => onceB r
  | some d :: r => !r.contains (some d) && onceB r
theorem fillT_out {d : Tmp} {x : Value} : ∀ (L : List (Option Tmp)) (t : Array Value) (v : Nat → Value) (i : Nat), L.contains (some d) = false → fillT L (t.setIfInBounds d x) v i = (fillT L t v i).setIfInBounds d x
  | [], _, _, _, _ => rfl
  | none :: r, t, v, i, h => fillT_out r t v (i + 1) (by simpa using h)
  | some e :: r, t, v, i, h => by
    have he : d ≠ e := fun he => by subst he; simp at h
    have hr : r.contains (some d) = false := by
      rw [List.contains_cons] at h
      simp only [Bool.or_eq_false_iff] at h
      exact h.2
    show fillT r ((t.setIfInBounds d x).setIfInBounds e (v i)) v (i + 1) = (fillT r (t.setIfInBounds e (v i)) v (i + 1)).setIfInBounds d x
    rw [Array.setIfInBounds_comm _ _ he]
    exact fillT_out r _ v (i + 1) hr
theorem fillT_low {x : Value} {k : Nat} : ∀ (L : List (Option Tmp)) (t : Array Value) (v : Nat → Value) (i : Nat), k < i → fillT L t (upd v k x) i = fillT L t v i
  | [], _, _, _, _ => rfl
  | none :: r, t, v, i, h => fillT_low r t v (i + 1) (by omega)
  | some e :: r, t, v, i, h => by
    show fillT r (t.setIfInBounds e (upd v k x i)) (upd v k x) (i + 1) = fillT r (t.setIfInBounds e (v i)) v (i + 1)
    rw [fillT_low r _ v (i + 1) (by omega), show upd v k x i = v i from if_neg (by omega)]
/-- One more value: it is put into its destination. -/
theorem fillT_put {x : Value} : ∀ (L : List (Option Tmp)) (t : Array Value) (v : Nat → Value) (i k : Nat) (d : Option Tmp), onceB L = true → L[k]? = some d →
    fillT L t (upd v (i + k) x) i = (match d with | some d => (fillT L t v i).setIfInBounds d x | none => fillT L t v i)
  | [], _, _, _, _, _, _, hk => by cases hk
  | c :: r, t, v, i, 0, d, ho, hk => by
    obtain rfl : c = d := by simpa using hk
    cases c with
    | none => exact fillT_low r t v (i + 1) (by omega)
    | some e =>
      have hn : r.contains (some e) = false := by
        simp only [onceB, Bool.and_eq_true, Bool.not_eq_true'] at ho
        exact ho.1
      show fillT r (t.setIfInBounds e (upd v i x i)) (upd v i x) (i + 1) = (fillT r (t.setIfInBounds e (v i)) v (i + 1)).setIfInBounds e x
      rw [fillT_low r _ v (i + 1) (by omega), show upd v i x i = x from if_pos rfl, fillT_out r _ _ _ hn, fillT_out r _ _ _ hn, Array.setIfInBounds_setIfInBounds]
  | none :: r, t, v, i, k + 1, d, ho, hk => by
    have h := fillT_put (x := x) r t v (i + 1) k d ho (by simpa using hk)
    rw [show i + 1 + k = i + (k + 1) by omega] at h
    exact h
  | some e :: r, t, v, i, k + 1, d, ho, hk => by
    have ho' : onceB r = true := by
      simp only [onceB, Bool.and_eq_true] at ho
      exact ho.2
    have h := fillT_put (x := x) r (t.setIfInBounds e (v i)) v (i + 1) k d ho' (by simpa using hk)
    rw [show i + 1 + k = i + (k + 1) by omega] at h
    show fillT r (t.setIfInBounds e (upd v (i + (k + 1)) x i)) (upd v (i + (k + 1)) x) (i + 1) = _
    rw [show upd v (i + (k + 1)) x i = v i from if_neg (by omega)]
    exact h
section
variable {P : Program} {ops : Array Oper} {Q : Exit → Act → World → Prop} {I : World → Prop} {St : World → World → Prop} {R : Nat → Value → World → Prop}
/-- What an operation waits for. -/
def waits (o : Oper) : List Nat := (o.after.toList.filter (Region.binds .any)).map (·.on)
def dsts (ops : Array Oper) : List (Option Tmp) := ops.toList.map (·.dst)
/-- Each waits for earlier ones alone. -/
def downB : List (List Nat) → Nat → Bool
  | [], _ => true
  | l :: r, i => l.all (fun j => decide (j < i)) && downB r (i + 1)
theorem downB_spec : ∀ (l : List (List Nat)) (i k : Nat) (q : List Nat), downB l i = true → l[k]? = some q → ∀ j ∈ q, j < i + k
  | [], _, _, _, _, hk => by cases hk
  | l :: r, i, 0, q, h, hk => fun j hj => by
    obtain rfl : l = q := by simpa using hk
    simp only [downB, Bool.and_eq_true] at h
    exact of_decide_eq_true (List.all_eq_true.1 h.1 j hj)
  | l :: r, i, k + 1, q, h, hk => fun j hj => by
    simp only [downB, Bool.and_eq_true] at h
    have := downB_spec r (i + 1) k q h.2 (by simpa using hk) j hj
    omega
/-- What is known of the values that an operation waits for. -/
def RelL (R : Nat → Value → World → Prop) (v : Nat → Value) (w : World) : List Nat → Prop
  | [] => True
  | j :: l => R j (v j) w ∧ RelL R v w l
theorem RelL.of {v : Nat → Value} {w : World} : ∀ (l : List Nat), (∀ j ∈ l, R j (v j) w) → RelL R v w l
  | [], _ => trivial
  | j :: l, h => ⟨h j List.mem_cons_self, RelL.of l fun k hk => h k (List.mem_cons_of_mem _ hk)⟩
/-- What is to be shown of operation i. -/
def OpOk (P : Program) (ops : Array Oper) (Q : Exit → Act → World → Prop) (I : World → Prop) (St : World → World → Prop) (R : Nat → Value → World → Prop) (L : List (Option Tmp)) (a : Act) (i : Nat) (o : Oper) (wt : List Nat) : Prop :=
  ∀ (v : Nat → Value) (w : World), I w → RelL R v w wt → ∀ a' : Act, a' = fill L a v → ∀ K : Act → World → Prop, (∀ x w', I w' → St w w' → R i x w' → K (a'.put o.dst x) w') →
    if Region.wanted o (yielded ops a'.tmps) = true then Oper.wp P o a' w K Q else K (a'.put o.dst undef) w
def OpsOk (P : Program) (ops : Array Oper) (Q : Exit → Act → World → Prop) (I : World → Prop) (St : World → World → Prop) (R : Nat → Value → World → Prop) (L : List (Option Tmp)) (a : Act) : List (Oper) → List (List Nat) → Nat → Prop
  | o :: r, wt :: ws, i => OpOk P ops Q I St R L a i o wt ∧ OpsOk P ops Q I St R L a r ws (i + 1)
  | _, _, _ => True
theorem OpsOk.at {L : List (Option Tmp)} {a : Act} : ∀ (l : List Oper) (ws : List (List Nat)) (i k : Nat) (o : Oper), ws.length = l.length → OpsOk P ops Q I St R L a l ws i → l[k]? = some o → ∃ wt, ws[k]? = some wt ∧ OpOk P ops Q I St R L a (i + k) o wt
  | [], _, _, _, _, _, _, hk => by cases hk
  | _ :: _, [], _, _, _, hl, _, _ => by cases hl
  | q :: r, wt :: ws, i, 0, o, hl, h, hk => by
    obtain rfl : q = o := by simpa using hk
    exact ⟨wt, rfl, h.1⟩
  | q :: r, wt :: ws, i, k + 1, o, hl, h, hk => by
    obtain ⟨wt', h1, h2⟩ := OpsOk.at r ws (i + 1) k o (by simpa using hl) h.2 (by simpa using hk)
    exact ⟨wt', by simpa using h1, by rw [show i + (k + 1) = i + 1 + k by omega]; exact h2⟩
theorem uni_any {L : List (Option Tmp)} {a : Act} {ws : List (List Nat)} (hL : dsts ops = L) (hw : ops.toList.map waits = ws) (ho : onceB L = true) (hd : downB ws 0 = true)
    (hst : ∀ i x w w', I w → St w w' → R i x w → R i x w') (hops : OpsOk P ops Q I St R L a ops.toList ws 0)
    (hend : ∀ v w, I w → (∀ j, j < ops.size → R j (v j) w) → Q .normal (fill L a v) w) :
    ∀ (fuel : Nat) (listed : Array Bool) (v : Nat → Value) (w : World), listed.size = ops.size → (listed.toList.filter (· = false)).length ≤ fuel → I w → (∀ j, j < ops.size → listed.getD j false = true → R j (v j) w) → wpAny P .any ops Q fuel listed (fill L a v) w := by
  have none_left : ∀ listed : Array Bool, listed.size = ops.size → Region.ready .any ops listed = [] → ∀ j, j < ops.size → listed.getD j false = true := by
    intro listed hs hr j
    induction j using Nat.strongRecOn with
    | ind j ih =>
    intro hj
    cases hc : listed.getD j false with
    | true => rfl
    | false =>
      have hjr : j ∈ Region.ready .any ops listed := by
        refine mem_ready.2 ⟨?_, ops[j], by simp [hj], fun e he hb => ?_⟩
        · have : j < listed.size := by omega
          simp only [Array.getD, this, dite_true] at hc ⊢
          exact hc
        · have hk : ws[j]? = some (waits ops[j]) := by rw [← hw]; simp [hj]
          have := downB_spec ws 0 j _ hd hk e.on (List.mem_map.2 ⟨e, List.mem_filter.2 ⟨by simpa using he, hb⟩, rfl⟩)
          exact ih e.on (by omega) (by omega)
      rw [hr] at hjr
      cases hjr
  intro fuel
  induction fuel with
  | zero =>
    intro listed v w hs hf hI hR
    have all : ∀ j, j < ops.size → listed.getD j false = true := by
      intro j hj
      have hj' : j < listed.size := by omega
      cases hc : listed.getD j false with
      | true => rfl
      | false =>
        have hm : listed[j] ∈ listed.toList.filter (· = false) := by
          simp only [Array.getD, hj', dite_true] at hc
          exact List.mem_filter.2 ⟨by simp, by simpa using hc⟩
        have := List.length_pos_of_mem hm
        omega
    refine ⟨?_, hend v w hI fun j hj => hR j hj (all j hj)⟩
    refine List.eq_nil_iff_forall_not_mem.2 fun j hj => ?_
    obtain ⟨h1, o, h2, _⟩ := mem_ready.1 hj
    have hj' : j < ops.size := (Array.getElem?_eq_some_iff.1 h2).1
    have h3 := all j hj'
    have : j < listed.size := by omega
    simp only [Array.getD, this, dite_true] at h1 h3
    rw [h1] at h3
    cases h3
  | succ fuel ih =>
    intro listed v w hs hf hI hR
    refine ⟨fun hr => hend v w hI fun j hj => hR j hj (none_left listed hs hr j hj), fun i hi => ?_⟩
    obtain ⟨h1, o, h2, h3⟩ := mem_ready.1 hi
    have hi' : i < ops.size := (Array.getElem?_eq_some_iff.1 h2).1
    have hil : i < listed.size := by omega
    obtain ⟨wt, hwt, hok⟩ := OpsOk.at ops.toList ws 0 i o (by rw [← hw]; simp) hops (by simpa using h2)
    rw [Nat.zero_add] at hok
    have hwt' : wt = waits o := by
      rw [← hw, List.getElem?_map, show ops.toList[i]? = some o by simpa using h2] at hwt
      exact (Option.some.inj hwt).symm
    have hrel : RelL R v w wt := RelL.of wt fun j hj => by
      rw [hwt'] at hj
      obtain ⟨e, he, rfl⟩ := List.mem_map.1 hj
      obtain ⟨he1, he2⟩ := List.mem_filter.1 he
      have hl := h3 e (by simpa using he1) he2
      have hlt : e.on < listed.size := by
        rcases Nat.lt_or_ge e.on listed.size with h | h
        · exact h
        · simp [Array.getD, Nat.not_lt.2 h] at hl
      exact hR e.on (by omega) hl
    have hcont : ∀ x w', I w' → St w w' → R i x w' → wpAny P .any ops Q fuel (listed.setIfInBounds i true) ((fill L a v).put o.dst x) w' := by
      intro x w' hI' hS hx
      have hd' : L[i]? = some o.dst := by rw [← hL]; simp [dsts, show ops.toList[i]? = some o by simpa using h2]
      have hfe : (fill L a v).put o.dst x = fill L a (upd v i x) := by
        have := fillT_put (x := x) L a.tmps v 0 i o.dst ho hd'
        rw [Nat.zero_add] at this
        unfold fill
        rw [this]
        cases o.dst <;> rfl
      rw [hfe]
      refine ih (listed.setIfInBounds i true) (upd v i x) w' (by simpa using hs) ?_ hI' ?_
      · have hc : listed[i] = false := by
          simp only [Array.getD, hil, dite_true] at h1
          exact h1
        have hcount : ∀ (l : List Bool) (k : Nat), l[k]? = some false → ((l.set k true).filter (· = false)).length + 1 = (l.filter (· = false)).length := by
          intro l
          induction l with
          | nil => intro k hk; cases hk
          | cons b l ih2 =>
            intro k hk
            cases k with
            | zero =>
              obtain rfl : b = false := by simpa using hk
              simp
            | succ k =>
              have := ih2 k (by simpa using hk)
              cases b <;> simp at this ⊢ <;> omega
        have := hcount listed.toList i (by simp [hil, hc])
        rw [Array.toList_setIfInBounds]
        omega
      · intro j hj hl
        by_cases hji : j = i
        · subst hji
          rw [show upd v j x j = x from if_pos rfl]
          exact hx
        · rw [show upd v i x j = v j from if_neg hji]
          refine hst j _ w w' hI hS (hR j hj ?_)
          rw [getD_set_ne false (Ne.symm hji)] at hl
          exact hl
    have := hok v w hI hrel _ rfl _ hcont
    unfold wpOp
    rw [h2]
    dsimp only
    split
    · next h => rw [if_pos h] at this; exact .inl this
    · next h => rw [if_neg h] at this; exact this
theorem fillT_same : ∀ (L : List (Option Tmp)) (t : Array Value) (v : Nat → Value) (i : Nat), (∀ k d, L[k]? = some (some d) → ∀ h : d < t.size, v (i + k) = t[d]) → fillT L t v i = t
  | [], _, _, _, _ => rfl
  | none :: r, t, v, i, h => fillT_same r t v (i + 1) fun k d hk hd => by
    have := h (k + 1) d (by simpa using hk) hd
    rw [show i + 1 + k = i + (k + 1) by omega]; exact this
  | some e :: r, t, v, i, h => by
    have he : t.setIfInBounds e (v i) = t := by
      by_cases hd : e < t.size
      · have := h 0 e rfl hd
        rw [Nat.add_zero] at this
        rw [this]
        exact Array.ext (by simp) fun j h1 h2 => by
          rw [Array.getElem_setIfInBounds]
          split
          · next hj => subst hj; rfl
          · rfl
      · unfold Array.setIfInBounds
        rw [dif_neg hd]
    show fillT r (t.setIfInBounds e (v i)) v (i + 1) = t
    rw [he]
    exact fillT_same r t v (i + 1) fun k d hk hd => by
      have := h (k + 1) d (by simpa using hk) hd
      rw [show i + 1 + k = i + (k + 1) by omega]; exact this
/-- What is known of the values: V i where it is one value, else E i. -/
def RV (V : List (Option Value)) (E : Nat → Value → World → Prop) (i : Nat) (x : Value) (w : World) : Prop := match V[i]? with
  | some (some y) => x = y
  | some none => E i x w
  | none => True
theorem RV_st {V : List (Option Value)} {E : Nat → Value → World → Prop} (hE : ∀ i x w w', I w → St w w' → E i x w → E i x w') : ∀ i x w w', I w → St w w' → RV V E i x w → RV V E i x w' := by
  intro i x w w' hI hS h
  unfold RV at h ⊢
  split
  · next y hy => rw [hy] at h; exact h
  · next hy => rw [hy] at h; exact hE i x w w' hI hS h
  · trivial
/-- A region that draws its order: each operation by itself (OpsOk), whatever the order. -/
theorem uni_ {id : Nat} {a : Act} {w : World} (I : World → Prop) (St : World → World → Prop) (R : Nat → Value → World → Prop) (L : List (Option Tmp)) (ws : List (List Nat))
    (hm : P.follows .mixedOrders = true) (hL : dsts ops = L) (hw : ops.toList.map waits = ws) (ho : onceB L = true) (hd : downB ws 0 = true)
    (hst : ∀ i x w w', I w → St w w' → R i x w → R i x w') (h0 : I w.drew) (hops : OpsOk P ops Q I St R L a ops.toList ws 0)
    (hend : ∀ v w, I w → (∀ j, j < ops.size → R j (v j) w) → ∀ a' : Act, a' = fill L a v → Q .normal a' w) : (Code.region id ops true).wp P Q a w := by
  refine wp_region_any hm ?_
  have := uni_any (P := P) (Q := Q) hL hw ho hd hst hops (fun v w hI hR => hend v w hI hR _ rfl) ops.size (Array.replicate ops.size false) (fun i => match L[i]? with | some (some d) => a.tmps.getD d undef | _ => undef) w.drew (by simp) (by simp) h0 (fun j hj h => by simp [Array.getD, hj] at h)
  rw [show fill L a (fun i => match L[i]? with | some (some d) => a.tmps.getD d undef | _ => undef) = a from by
    unfold fill
    rw [fillT_same L a.tmps _ 0 fun k d hk hd => by rw [Nat.zero_add]; simp only [hk]; simp [Array.getD, hd]]] at this
  exact this
end
end Go.Proofs.Ytojehbkadlmbjaa.Uni
