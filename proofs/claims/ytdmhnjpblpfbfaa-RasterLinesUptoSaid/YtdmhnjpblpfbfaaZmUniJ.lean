/- A region that draws its order, walked once: an invariant over what has been done. Conditions: each operation keeps it. -/
import Derived.Test.YtdmhnjpblpfbfaaZmUni
import Derived.Test.YtdmhnjpblpfbfaaZmQ0
namespace Go.Proofs.Ytdmhnjpblpfbfaa.Uni
open Go
section
variable {P : Program} {ops : Array Oper} {Q : Exit → Act → World → Prop} {J : (Nat → Bool) → (Nat → Value) → World → Prop}
def setl (l : Nat → Bool) (i : Nat) : Nat → Bool := fun j => if j = i then true else l j
/-- What is to be shown of operation i. -/
def OpOkJ (P : Program) (ops : Array Oper) (Q : Exit → Act → World → Prop) (J : (Nat → Bool) → (Nat → Value) → World → Prop) (ws : List (List Nat)) (L : List (Option Tmp)) (a : Act) (i : Nat) (o : Oper) (wt : List Nat) : Prop :=
  ∀ (l : Nat → Bool) (v : Nat → Value) (w : World), J l v w → l i = false → (∀ j ∈ wt, l j = true) → (∀ s, i ∈ ws.getD s [] → l s = false) → ∀ a' : Act, a' = fill L a v → ∀ K : Act → World → Prop, (∀ x w', J (setl l i) (upd v i x) w' → K (a'.put o.dst x) w') →
    if Region.wanted o (yielded ops a'.tmps) = true then Oper.wp P o a' w K Q else K (a'.put o.dst undef) w
def OpsOkJ (P : Program) (ops : Array Oper) (Q : Exit → Act → World → Prop) (J : (Nat → Bool) → (Nat → Value) → World → Prop) (ws0 : List (List Nat)) (L : List (Option Tmp)) (a : Act) : List (Oper) → List (List Nat) → Nat → Prop
  | o :: r, wt :: ws, i => OpOkJ P ops Q J ws0 L a i o wt ∧ OpsOkJ P ops Q J ws0 L a r ws (i + 1)
  | _, _, _ => True
theorem OpsOkJ.at {L : List (Option Tmp)} {a : Act} {ws0 : List (List Nat)} : ∀ (l : List Oper) (ws : List (List Nat)) (i k : Nat) (o : Oper), ws.length = l.length → OpsOkJ P ops Q J ws0 L a l ws i → l[k]? = some o → ∃ wt, ws[k]? = some wt ∧ OpOkJ P ops Q J ws0 L a (i + k) o wt
  | [], _, _, _, _, _, _, hk => by cases hk
  | _ :: _, [], _, _, _, hl, _, _ => by cases hl
  | q :: r, wt :: ws, i, 0, o, hl, h, hk => by
    obtain rfl : q = o := by simpa using hk
    exact ⟨wt, rfl, h.1⟩
  | q :: r, wt :: ws, i, k + 1, o, hl, h, hk => by
    obtain ⟨wt', h1, h2⟩ := OpsOkJ.at r ws (i + 1) k o (by simpa using hl) h.2 (by simpa using hk)
    exact ⟨wt', by simpa using h1, by rw [show i + (k + 1) = i + 1 + k by omega]; exact h2⟩
theorem unij_any {L : List (Option Tmp)} {a : Act} {ws : List (List Nat)} (hL : dsts ops = L) (hw : ops.toList.map waits = ws) (ho : onceB L = true) (hd : downB ws 0 = true)
    (hops : OpsOkJ P ops Q J ws L a ops.toList ws 0)
    (hend : ∀ l v w, (∀ j, j < ops.size → l j = true) → J l v w → Q .normal (fill L a v) w) :
    ∀ (fuel : Nat) (listed : Array Bool) (v : Nat → Value) (w : World), listed.size = ops.size → (listed.toList.filter (· = false)).length ≤ fuel → (∀ j, j < ops.size → listed.getD j false = true → ∀ k ∈ ws.getD j [], listed.getD k false = true) → J (fun j => listed.getD j false) v w → wpAny P .any ops Q fuel listed (fill L a v) w := by
  have wsAt : ∀ (i : Nat) (o : Oper), ops[i]? = some o → ws.getD i [] = waits o := by
    intro i o ho
    rw [← hw, List.getD_eq_getElem?_getD, List.getElem?_map, show ops.toList[i]? = some o by simpa using ho]
    rfl
  have none_left : ∀ listed : Array Bool, listed.size = ops.size → Region.ready .any ops listed = [] → ∀ j, j < ops.size → listed.getD j false = true := by
    intro listed hs hr j
    induction j using Nat.strongRecOn with
    | ind j ih =>
    intro hj
    cases hc : listed.getD j false with
    | true => rfl
    | false =>
      have hjr : j ∈ Region.ready .any ops listed := by
        refine mem_ready.2 ⟨?_, ops[j], by simp [hj], fun e he hb => ?_⟩
        · have : j < listed.size := by omega
          simp only [Array.getD, this, dite_true] at hc ⊢
          exact hc
        · have hk : ws[j]? = some (waits ops[j]) := by rw [← hw]; simp [hj]
          have := downB_spec ws 0 j _ hd hk e.on (List.mem_map.2 ⟨e, List.mem_filter.2 ⟨by simpa using he, hb⟩, rfl⟩)
          exact ih e.on (by omega) (by omega)
      rw [hr] at hjr
      cases hjr
  intro fuel
  induction fuel with
  | zero =>
    intro listed v w hs hf hC hJ
    have all : ∀ j, j < ops.size → listed.getD j false = true := by
      intro j hj
      have hj' : j < listed.size := by omega
      cases hc : listed.getD j false with
      | true => rfl
      | false =>
        have hm : listed[j] ∈ listed.toList.filter (· = false) := by
          simp only [Array.getD, hj', dite_true] at hc
          exact List.mem_filter.2 ⟨by simp, by simpa using hc⟩
        have := List.length_pos_of_mem hm
        omega
    refine ⟨?_, hend _ v w all hJ⟩
    refine List.eq_nil_iff_forall_not_mem.2 fun j hj => ?_
    obtain ⟨h1, o, h2, _⟩ := mem_ready.1 hj
    have hj' : j < ops.size := (Array.getElem?_eq_some_iff.1 h2).1
    have h3 := all j hj'
    have : j < listed.size := by omega
    simp only [Array.getD, this, dite_true] at h1 h3
    rw [h1] at h3
    cases h3
  | succ fuel ih =>
    intro listed v w hs hf hC hJ
    refine ⟨fun hr => hend _ v w (none_left listed hs hr) hJ, fun i hi => ?_⟩
    obtain ⟨h1, o, h2, h3⟩ := mem_ready.1 hi
    have hi' : i < ops.size := (Array.getElem?_eq_some_iff.1 h2).1
    have hil : i < listed.size := by omega
    obtain ⟨wt, hwt, hok⟩ := OpsOkJ.at ops.toList ws 0 i o (by rw [← hw]; simp) hops (by simpa using h2)
    rw [Nat.zero_add] at hok
    have hwt' : wt = waits o := by
      rw [← hw, List.getElem?_map, show ops.toList[i]? = some o by simpa using h2] at hwt
      exact (Option.some.inj hwt).symm
    have hl3 : ∀ j ∈ waits o, listed.getD j false = true ∧ j < ops.size := fun j hj => by
      obtain ⟨e, he, rfl⟩ := List.mem_map.1 hj
      obtain ⟨he1, he2⟩ := List.mem_filter.1 he
      have hl := h3 e (by simpa using he1) he2
      have hlt : e.on < listed.size := by
        rcases Nat.lt_or_ge e.on listed.size with h | h
        · exact h
        · simp [Array.getD, Nat.not_lt.2 h] at hl
      exact ⟨hl, by omega⟩
    have hnot : listed.getD i false = false := by
      simp only [Array.getD, hil, dite_true] at h1 ⊢
      exact h1
    have hset : (fun j => (listed.setIfInBounds i true).getD j false) = setl (fun j => listed.getD j false) i := by
      funext j
      unfold setl
      by_cases hji : j = i
      · subst hji; rw [if_pos rfl]; simp [Array.getD, hil]
      · rw [if_neg hji, getD_set_ne false (Ne.symm hji)]
    have hcont : ∀ x w', J (setl (fun j => listed.getD j false) i) (upd v i x) w' → wpAny P .any ops Q fuel (listed.setIfInBounds i true) ((fill L a v).put o.dst x) w' := by
      intro x w' hx
      have hd' : L[i]? = some o.dst := by rw [← hL]; simp [dsts, show ops.toList[i]? = some o by simpa using h2]
      have hfe : (fill L a v).put o.dst x = fill L a (upd v i x) := by
        have := fillT_put (x := x) L a.tmps v 0 i o.dst ho hd'
        rw [Nat.zero_add] at this
        unfold fill
        rw [this]
        cases o.dst <;> rfl
      rw [hfe]
      refine ih (listed.setIfInBounds i true) (upd v i x) w' (by simpa using hs) ?_ ?_ (by rw [hset]; exact hx)
      · have hc : listed[i] = false := by
          simp only [Array.getD, hil, dite_true] at h1
          exact h1
        have hcount : ∀ (l : List Bool) (k : Nat), l[k]? = some false → ((l.set k true).filter (· = false)).length + 1 = (l.filter (· = false)).length := by
          intro l
          induction l with
          | nil => intro k hk; cases hk
          | cons b l ih2 =>
            intro k hk
            cases k with
            | zero =>
              obtain rfl : b = false := by simpa using hk
              simp
            | succ k =>
              have := ih2 k (by simpa using hk)
              cases b <;> simp at this ⊢ <;> omega
        have := hcount listed.toList i (by simp [hil, hc])
        rw [Array.toList_setIfInBounds]
        omega
      · intro j hj hl k hk
        by_cases hki : k = i
        · subst hki
          simp [Array.getD, hil]
        · rw [getD_set_ne false (Ne.symm hki)]
          by_cases hji : j = i
          · subst hji
            rw [wsAt j o h2] at hk
            exact (hl3 k hk).1
          · rw [getD_set_ne false (Ne.symm hji)] at hl
            exact hC j hj hl k hk
    have hfree : ∀ s, i ∈ ws.getD s [] → listed.getD s false = false := fun s hs' => by
      cases hc : listed.getD s false with
      | false => rfl
      | true =>
        have hlt : s < ops.size := by
          rcases Nat.lt_or_ge s listed.size with h | h
          · omega
          · simp [Array.getD, Nat.not_lt.2 h] at hc
        rw [hC s hlt hc i hs'] at hnot
        cases hnot
    have := hok _ v w hJ hnot (fun j hj => (hl3 j (by rw [← hwt']; exact hj)).1) hfree _ rfl _ hcont
    unfold wpOp
    rw [h2]
    dsimp only
    split
    · next h => rw [if_pos h] at this; exact .inl this
    · next h => rw [if_neg h] at this; exact this
/-- A region that draws its order: each operation by itself (OpsOkJ), whatever the order. -/
theorem unij_ {id : Nat} {a : Act} {w : World} (J : (Nat → Bool) → (Nat → Value) → World → Prop) (L : List (Option Tmp)) (ws : List (List Nat))
    (hm : P.follows .mixedOrders = true) (hL : dsts ops = L) (hw : ops.toList.map waits = ws) (ho : onceB L = true) (hd : downB ws 0 = true)
    (h0 : ∀ v, J (fun _ => false) v w.drew) (hops : OpsOkJ P ops Q J ws L a ops.toList ws 0)
    (hend : ∀ l v w, (∀ j, j < ops.size → l j = true) → J l v w → ∀ a' : Act, a' = fill L a v → Q .normal a' w) : (Code.region id ops true).wp P Q a w := by
  refine wp_region_any hm ?_
  have hf : (fun j => (Array.replicate ops.size false).getD j false) = fun _ : Nat => false := by
    funext j
    by_cases h : j < ops.size <;> simp [Array.getD, h]
  have := unij_any (P := P) (Q := Q) (J := J) hL hw ho hd hops (fun l v w hl hJ => hend l v w hl hJ _ rfl) ops.size (Array.replicate ops.size false) (fun i => match L[i]? with | some (some d) => a.tmps.getD d undef | _ => undef) w.drew (by simp) (by simp) (fun j hj h => by simp [Array.getD, hj] at h) (by rw [hf]; exact h0 _)
  rw [show fill L a (fun i => match L[i]? with | some (some d) => a.tmps.getD d undef | _ => undef) = a from by
    unfold fill
    rw [fillT_same L a.tmps _ 0 fun k d hk hd => by rw [Nat.zero_add]; simp only [hk]; simp [Array.getD, hd]]] at this
  exact this
end
open Go.RowKit Go.Proofs.YtdmhnjpblpfbfaaW.PrintWords
/-- What an operation leaves: a value; a box (empty; filled; by which store); a store. -/
inductive Kn where
  | val (x : Value)
  | box (z f : Obj) (s : Nat)
  | sto
def Kn.isSto : Option Kn → Bool
  | some .sto => true
  | _ => false
def okT (T : List Kn) : Bool := T.all fun k => match k with
  | .box _ _ s => Kn.isSto T[s]?
  | _ => true
theorem okT_spec {T : List Kn} (h : okT T = true) {j s : Nat} {z f : Obj} (hj : T[j]? = some (.box z f s)) : T[s]? = some .sto := by
  have := List.all_eq_true.1 h _ (List.mem_of_getElem? hj)
  unfold Kn.isSto at this
  dsimp only at this
  split at this
  · next e => exact e
  · cases this
/-- Store i fills box j alone. -/
def oneB (T : List Kn) (i j : Nat) : Bool := (List.range T.length).all fun k => match T[k]? with
  | some (.box _ _ s) => s != i || k == j
  | _ => true
theorem oneB_spec {T : List Kn} {i j : Nat} (h : oneB T i j = true) : ∀ k z' f', T[k]? = some (Kn.box z' f' i) → k = j := by
  intro k z' f' hk
  have h1 := List.all_eq_true.1 h k (List.mem_range.2 (List.getElem?_eq_some_iff.1 hk).1)
  rw [hk] at h1
  simpa using h1
def ptr (g : Nat) : Value := .pointer (some ⟨g, 0, none⟩)
theorem ptr_inj {g g' : Nat} (h : ptr g = ptr g') : g = g' := by
  unfold ptr at h
  simpa using h
/-- What is so when the operations l are done: the values; the boxes, apart from one another. -/
structure JT (T : List Kn) (W0 : World) (l : Nat → Bool) (v : Nat → Value) (w : World) : Prop where
  low : Below W0.heap.size W0 w
  val : ∀ {j x}, T[j]? = some (.val x) → l j = true → v j = x
  box : ∀ {j z f s}, T[j]? = some (.box z f s) → l j = true → ∃ g, v j = ptr g ∧ W0.heap.size ≤ g ∧ w.heap[g]? = some (if l s = true then f else z)
  far : ∀ {j k z f s z' f' s'}, T[j]? = some (.box z f s) → T[k]? = some (.box z' f' s') → j ≠ k → l j = true → l k = true → v j ≠ v k
section
variable {T : List Kn} {W0 w w' : World} {l : Nat → Bool} {v : Nat → Value} {i : Nat} {x : Value}
theorem JT.init (h : Below W0.heap.size W0 w) : JT T W0 (fun _ => false) v w := ⟨h, fun _ h => (Bool.false_ne_true h).elim, fun _ h => (Bool.false_ne_true h).elim, fun _ _ _ h _ => (Bool.false_ne_true h).elim⟩
theorem setl_ne {j : Nat} (h : j ≠ i) : setl l i j = l j := if_neg h
theorem setl_eq : setl l i i = true := if_pos rfl
theorem upd_ne {j : Nat} (h : j ≠ i) : upd v i x j = v j := if_neg h
theorem upd_eq : upd v i x i = x := if_pos rfl
theorem JT.plain (h : JT T W0 l v w) (hT : okT T = true) (hi : T[i]? = some (.val x)) (hb : Below w.heap.size w w') : JT T W0 (setl l i) (upd v i x) w' := by
  have hne : ∀ {j : Nat} {z f : Obj} {s : Nat}, T[j]? = some (Kn.box z f s) → j ≠ i ∧ s ≠ i := by
    intro j z f s hj
    constructor
    · rintro rfl
      rw [hi] at hj
      cases hj
    · rintro rfl
      have := okT_spec hT hj
      rw [hi] at this
      cases this
  refine ⟨below_step h.low hb, fun {j y} hj hl => ?_, fun {j z f s} hj hl => ?_, fun {j k z f s z' f' s'} hj hk hjk hlj hlk => ?_⟩
  · by_cases e : j = i
    · subst e
      rw [hi] at hj
      rw [upd_eq]
      injection hj with hj
      injection hj
    · rw [setl_ne e] at hl
      rw [upd_ne e]
      exact h.val hj hl
  · obtain ⟨h1, h2⟩ := hne hj
    rw [setl_ne h1] at hl
    rw [upd_ne h1, setl_ne h2]
    obtain ⟨g, e1, e2, e3⟩ := h.box hj hl
    exact ⟨g, e1, e2, blk_below e3 hb⟩
  · rw [setl_ne (hne hj).1] at hlj
    rw [setl_ne (hne hk).1] at hlk
    rw [upd_ne (hne hj).1, upd_ne (hne hk).1]
    exact h.far hj hk hjk hlj hlk
theorem JT.alloc {z f : Obj} {s g : Nat} (h : JT T W0 l v w) (hT : okT T = true) (hi : T[i]? = some (.box z f s)) (hs : l s = false) (hg : g = w.heap.size) (hbox : w'.heap[g]? = some z) (hb : Below w.heap.size w w') : JT T W0 (setl l i) (upd v i (ptr g)) w' := by
  have hsi : ∀ {j : Nat} {z f : Obj} {s : Nat}, T[j]? = some (Kn.box z f s) → s ≠ i := by
    rintro j z f _ hj rfl
    have := okT_spec hT hj
    rw [hi] at this
    cases this
  refine ⟨below_step h.low hb, fun {j y} hj hl => ?_, fun {j z' f' s'} hj hl => ?_, fun {j k z1 f1 s1 z2 f2 s2} hj hk hjk hlj hlk => ?_⟩
  · have e : j ≠ i := fun e => by subst e; rw [hi] at hj; cases hj
    rw [setl_ne e] at hl
    rw [upd_ne e]
    exact h.val hj hl
  · by_cases e : j = i
    · subst e
      rw [hi] at hj
      injection hj with hj
      injection hj with e1 e2 e3
      subst e1 e2 e3
      rw [upd_eq, setl_ne (hsi hi), hs]
      exact ⟨g, rfl, by rw [hg]; exact h.low.size, hbox⟩
    · rw [setl_ne e] at hl
      rw [upd_ne e, setl_ne (hsi hj)]
      obtain ⟨g', e1, e2, e3⟩ := h.box hj hl
      exact ⟨g', e1, e2, blk_below e3 hb⟩
  · have old : ∀ {q : Nat} {z f : Obj} {s : Nat}, T[q]? = some (Kn.box z f s) → q ≠ i → setl l i q = true → v q ≠ ptr g := by
      intro q z f s hq e hlq e2
      rw [setl_ne e] at hlq
      obtain ⟨g', e1, _, e3⟩ := h.box hq hlq
      have := blk_lt e3
      have := ptr_inj (e1.symm.trans e2)
      omega
    by_cases e : j = i
    · subst e
      rw [upd_eq, upd_ne (Ne.symm hjk)]
      exact fun e2 => old hk (Ne.symm hjk) hlk e2.symm
    · by_cases e' : k = i
      · subst e'
        rw [upd_eq, upd_ne e]
        exact old hj e hlj
      · rw [setl_ne e] at hlj
        rw [setl_ne e'] at hlk
        rw [upd_ne e, upd_ne e']
        exact h.far hj hk hjk hlj hlk
theorem JT.store {z f : Obj} {j g : Nat} (h : JT T W0 l v w) (hi : T[i]? = some .sto) (hj : T[j]? = some (.box z f i)) (hu : ∀ k z' f', T[k]? = some (.box z' f' i) → k = j) (hlj : l j = true) (e : v j = ptr g) (hf : w'.heap[g]? = some f)
    (hne : ∀ g' : Nat, g' ≠ g → w'.heap[g']? = w.heap[g']?) (hb : Below W0.heap.size W0 w') : JT T W0 (setl l i) (upd v i x) w' := by
  have hni : ∀ {q : Nat} {z f : Obj} {s : Nat}, T[q]? = some (Kn.box z f s) → q ≠ i := by
    rintro q z f s hq rfl
    rw [hi] at hq
    cases hq
  refine ⟨hb, fun {q y} hq hl => ?_, fun {q z' f' s'} hq hl => ?_, fun {q k z1 f1 s1 z2 f2 s2} hq hk hqk hlq hlk => ?_⟩
  · have e' : q ≠ i := fun e' => by subst e'; rw [hi] at hq; cases hq
    rw [setl_ne e'] at hl
    rw [upd_ne e']
    exact h.val hq hl
  · rw [setl_ne (hni hq)] at hl
    rw [upd_ne (hni hq)]
    obtain ⟨g', e1, e2, e3⟩ := h.box hq hl
    by_cases c : q = j
    · subst c
      rw [hj] at hq
      injection hq with hq
      injection hq with q1 q2 q3
      subst q1 q2 q3
      have eg : g = g' := ptr_inj (e.symm.trans e1)
      subst eg
      exact ⟨g, e1, e2, by rw [setl_eq, if_pos rfl]; exact hf⟩
    · have hs : s' ≠ i := fun hs => by subst hs; exact c (hu q z' f' hq)
      rw [setl_ne hs]
      refine ⟨g', e1, e2, (hne g' fun eg => ?_).trans e3⟩
      subst eg
      exact h.far hq hj c hl hlj (e1.trans e.symm)
  · rw [setl_ne (hni hq)] at hlq
    rw [setl_ne (hni hk)] at hlk
    rw [upd_ne (hni hq), upd_ne (hni hk)]
    exact h.far hq hk hqk hlq hlk
end
theorem store_step {P : Program} {ops : Array Oper} {o : Oper} {a : Act} {Q : Exit → Act → World → Prop} {Kc : Act → World → Prop} {W w1 : World} (hw : Region.wanted o (yielded ops a.tmps) = true) (hrun : (execOp a.eval o).run P W = .ok .skip w1)
    (h : Kc (a.put o.dst undef) w1) : if Region.wanted o (yielded ops a.tmps) = true then Oper.wp P o a W Kc Q else Kc (a.put o.dst undef) W := by
  rw [if_pos hw]
  unfold Oper.wp
  rw [hrun]
  exact h
end Go.Proofs.Ytdmhnjpblpfbfaa.Uni

