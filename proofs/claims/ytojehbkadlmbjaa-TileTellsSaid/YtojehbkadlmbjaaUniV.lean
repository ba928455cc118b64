/- A region that draws its order, walked once, where what an operation leaves is told by the values of those it waits for. Conditions: what each leaves is kept by the others. -/
import Derived.Test.YtojehbkadlmbjaaUni
import Derived.Test.YtojehbkadlmbjaaQ0
namespace Go.Proofs.Ytojehbkadlmbjaa.Uni
open Go
section
variable {P : Program} {ops : Array Oper} {Q : Exit → Act → World → Prop} {I : World → Prop} {St : World → World → Prop} {R : Nat → (Nat → Value) → World → Prop}
def RelV (R : Nat → (Nat → Value) → World → Prop) (v : Nat → Value) (w : World) : List Nat → Prop
  | [] => True
  | j :: l => R j v w ∧ RelV R v w l
theorem RelV.of {v : Nat → Value} {w : World} : ∀ (l : List Nat), (∀ j ∈ l, R j v w) → RelV R v w l
  | [], _ => trivial
  | j :: l, h => ⟨h j List.mem_cons_self, RelV.of l fun k hk => h k (List.mem_cons_of_mem _ hk)⟩
/-- What is to be shown of operation i. -/
def OpOkV (P : Program) (ops : Array Oper) (Q : Exit → Act → World → Prop) (I : World → Prop) (St : World → World → Prop) (R : Nat → (Nat → Value) → World → Prop) (L : List (Option Tmp)) (a : Act) (i : Nat) (o : Oper) (wt : List Nat) : Prop :=
  ∀ (v : Nat → Value) (w : World), I w → RelV R v w wt → ∀ a' : Act, a' = fill L a v → ∀ K : Act → World → Prop, (∀ x w', I w' → St w w' → R i (upd v i x) w' → K (a'.put o.dst x) w') →
    if Region.wanted o (yielded ops a'.tmps) = true then Oper.wp P o a' w K Q else K (a'.put o.dst undef) w
def OpsOkV (P : Program) (ops : Array Oper) (Q : Exit → Act → World → Prop) (I : World → Prop) (St : World → World → Prop) (R : Nat → (Nat → Value) → World → Prop) (L : List (Option Tmp)) (a : Act) : List (Oper) → List (List Nat) → Nat → Prop
  | o :: r, wt :: ws, i => OpOkV P ops Q I St R L a i o wt ∧ OpsOkV P ops Q I St R L a r ws (i + 1)
  | _, _, _ => True
theorem OpsOkV.at {L : List (Option Tmp)} {a : Act} : ∀ (l : List Oper) (ws : List (List Nat)) (i k : Nat) (o : Oper), ws.length = l.length → OpsOkV P ops Q I St R L a l ws i → l[k]? = some o → ∃ wt, ws[k]? = some wt ∧ OpOkV P ops Q I St R L a (i + k) o wt
  | [], _, _, _, _, _, _, hk => by cases hk
  | _ :: _, [], _, _, _, hl, _, _ => by cases hl
  | q :: r, wt :: ws, i, 0, o, hl, h, hk => by
    obtain rfl : q = o := by simpa using hk
    exact ⟨wt, rfl, h.1⟩
  | q :: r, wt :: ws, i, k + 1, o, hl, h, hk => by
    obtain ⟨wt', h1, h2⟩ := OpsOkV.at r ws (i + 1) k o (by simpa using hl) h.2 (by simpa using hk)
    exact ⟨wt', by simpa using h1, by rw [show i + (k + 1) = i + 1 + k by omega]; exact h2⟩
theorem univ_any {L : List (Option Tmp)} {a : Act} {ws : List (List Nat)} (hL : dsts ops = L) (hw : ops.toList.map waits = ws) (ho : onceB L = true) (hd : downB ws 0 = true)
    (hst : ∀ i v w w', I w → St w w' → R i v w → R i v w') (hdep : ∀ i v k x w, k ≠ i → k ∉ ws.getD i [] → R i v w → R i (upd v k x) w) (hops : OpsOkV P ops Q I St R L a ops.toList ws 0)
    (hend : ∀ v w, I w → (∀ j, j < ops.size → R j v w) → Q .normal (fill L a v) w) :
    ∀ (fuel : Nat) (listed : Array Bool) (v : Nat → Value) (w : World), listed.size = ops.size → (listed.toList.filter (· = false)).length ≤ fuel → I w → (∀ j, j < ops.size → listed.getD j false = true → ∀ k ∈ ws.getD j [], listed.getD k false = true) → (∀ j, j < ops.size → listed.getD j false = true → R j v w) → wpAny P .any ops Q fuel listed (fill L a v) w := by
  have wsAt : ∀ (i : Nat) (o : Oper), ops[i]? = some o → ws.getD i [] = waits o := by
    intro i o ho
    rw [← hw, List.getD_eq_getElem?_getD, List.getElem?_map, show ops.toList[i]? = some o by simpa using ho]
    rfl
  have none_left : ∀ listed : Array Bool, listed.size = ops.size → Region.ready .any ops listed = [] → ∀ j, j < ops.size → listed.getD j false = true := by
    intro listed hs hr j
    induction j using Nat.strongRecOn with
    | ind j ih =>
    intro hj
    cases hc : listed.getD j false with
    | true => rfl
    | false =>
      have hjr : j ∈ Region.ready .any ops listed := by
        refine mem_ready.2 ⟨?_, ops[j], by simp [hj], fun e he hb => ?_⟩
        · have : j < listed.size := by omega
          simp only [Array.getD, this, dite_true] at hc ⊢
          exact hc
        · have hk : ws[j]? = some (waits ops[j]) := by rw [← hw]; simp [hj]
          have := downB_spec ws 0 j _ hd hk e.on (List.mem_map.2 ⟨e, List.mem_filter.2 ⟨by simpa using he, hb⟩, rfl⟩)
          exact ih e.on (by omega) (by omega)
      rw [hr] at hjr
      cases hjr
  intro fuel
  induction fuel with
  | zero =>
    intro listed v w hs hf hI hC hR
    have all : ∀ j, j < ops.size → listed.getD j false = true := by
      intro j hj
      have hj' : j < listed.size := by omega
      cases hc : listed.getD j false with
      | true => rfl
      | false =>
        have hm : listed[j] ∈ listed.toList.filter (· = false) := by
          simp only [Array.getD, hj', dite_true] at hc
          exact List.mem_filter.2 ⟨by simp, by simpa using hc⟩
        have := List.length_pos_of_mem hm
        omega
    refine ⟨?_, hend v w hI fun j hj => hR j hj (all j hj)⟩
    refine List.eq_nil_iff_forall_not_mem.2 fun j hj => ?_
    obtain ⟨h1, o, h2, _⟩ := mem_ready.1 hj
    have hj' : j < ops.size := (Array.getElem?_eq_some_iff.1 h2).1
    have h3 := all j hj'
    have : j < listed.size := by omega
    simp only [Array.getD, this, dite_true] at h1 h3
    rw [h1] at h3
    cases h3
  | succ fuel ih =>
    intro listed v w hs hf hI hC hR
    refine ⟨fun hr => hend v w hI fun j hj => hR j hj (none_left listed hs hr j hj), fun i hi => ?_⟩
    obtain ⟨h1, o, h2, h3⟩ := mem_ready.1 hi
    have hi' : i < ops.size := (Array.getElem?_eq_some_iff.1 h2).1
    have hil : i < listed.size := by omega
    obtain ⟨wt, hwt, hok⟩ := OpsOkV.at ops.toList ws 0 i o (by rw [← hw]; simp) hops (by simpa using h2)
    rw [Nat.zero_add] at hok
    have hwt' : wt = waits o := by
      rw [← hw, List.getElem?_map, show ops.toList[i]? = some o by simpa using h2] at hwt
      exact (Option.some.inj hwt).symm
    have hl3 : ∀ j ∈ waits o, listed.getD j false = true ∧ j < ops.size := fun j hj => by
      obtain ⟨e, he, rfl⟩ := List.mem_map.1 hj
      obtain ⟨he1, he2⟩ := List.mem_filter.1 he
      have hl := h3 e (by simpa using he1) he2
      have hlt : e.on < listed.size := by
        rcases Nat.lt_or_ge e.on listed.size with h | h
        · exact h
        · simp [Array.getD, Nat.not_lt.2 h] at hl
      exact ⟨hl, by omega⟩
    have hrel : RelV R v w wt := RelV.of wt fun j hj => by
      rw [hwt'] at hj
      exact hR j (hl3 j hj).2 (hl3 j hj).1
    have hnot : listed.getD i false = false := by
      simp only [Array.getD, hil, dite_true] at h1 ⊢
      exact h1
    have hcont : ∀ x w', I w' → St w w' → R i (upd v i x) w' → wpAny P .any ops Q fuel (listed.setIfInBounds i true) ((fill L a v).put o.dst x) w' := by
      intro x w' hI' hS hx
      have hd' : L[i]? = some o.dst := by rw [← hL]; simp [dsts, show ops.toList[i]? = some o by simpa using h2]
      have hfe : (fill L a v).put o.dst x = fill L a (upd v i x) := by
        have := fillT_put (x := x) L a.tmps v 0 i o.dst ho hd'
        rw [Nat.zero_add] at this
        unfold fill
        rw [this]
        cases o.dst <;> rfl
      rw [hfe]
      refine ih (listed.setIfInBounds i true) (upd v i x) w' (by simpa using hs) ?_ hI' ?_ ?_
      · have hc : listed[i] = false := by
          simp only [Array.getD, hil, dite_true] at h1
          exact h1
        have hcount : ∀ (l : List Bool) (k : Nat), l[k]? = some false → ((l.set k true).filter (· = false)).length + 1 = (l.filter (· = false)).length := by
          intro l
          induction l with
          | nil => intro k hk; cases hk
          | cons b l ih2 =>
            intro k hk
            cases k with
            | zero =>
              obtain rfl : b = false := by simpa using hk
              simp
            | succ k =>
              have := ih2 k (by simpa using hk)
              cases b <;> simp at this ⊢ <;> omega
        have := hcount listed.toList i (by simp [hil, hc])
        rw [Array.toList_setIfInBounds]
        omega
      · intro j hj hl k hk
        by_cases hki : k = i
        · subst hki
          simp [Array.getD, hil]
        · rw [getD_set_ne false (Ne.symm hki)]
          by_cases hji : j = i
          · subst hji
            rw [wsAt j o h2] at hk
            exact (hl3 k hk).1
          · rw [getD_set_ne false (Ne.symm hji)] at hl
            exact hC j hj hl k hk
      · intro j hj hl
        by_cases hji : j = i
        · subst hji
          exact hx
        · rw [getD_set_ne false (Ne.symm hji)] at hl
          refine hst j _ w w' hI hS (hdep j v i x w (Ne.symm hji) (fun hm => ?_) (hR j hj hl))
          rw [hC j hj hl i hm] at hnot
          cases hnot
    have := hok v w hI hrel _ rfl _ hcont
    unfold wpOp
    rw [h2]
    dsimp only
    split
    · next h => rw [if_pos h] at this; exact .inl this
    · next h => rw [if_neg h] at this; exact this
/-- What is known of the values: V i where it is one value, else E i. -/
def RVV (V : List (Option Value)) (E : Nat → (Nat → Value) → World → Prop) (i : Nat) (v : Nat → Value) (w : World) : Prop := match V[i]? with
  | some (some y) => v i = y
  | some none => E i v w
  | none => True
theorem RVV_st {V : List (Option Value)} {E : Nat → (Nat → Value) → World → Prop} (hE : ∀ i v w w', I w → St w w' → E i v w → E i v w') : ∀ i v w w', I w → St w w' → RVV V E i v w → RVV V E i v w' := by
  intro i x w w' hI hS h
  unfold RVV at h ⊢
  split
  · next y hy => rw [hy] at h; exact h
  · next hy => rw [hy] at h; exact hE i x w w' hI hS h
  · trivial
theorem RVV_dep {V : List (Option Value)} {E : Nat → (Nat → Value) → World → Prop} {ws : List (List Nat)} (hE : ∀ i v k x w, k ≠ i → k ∉ ws.getD i [] → E i v w → E i (upd v k x) w) : ∀ i v k x w, k ≠ i → k ∉ ws.getD i [] → RVV V E i v w → RVV V E i (upd v k x) w := by
  intro i v k x w hk hn h
  unfold RVV at h ⊢
  split
  · next y hy => rw [hy] at h; rw [show upd v k x i = v i from if_neg (Ne.symm hk)]; exact h
  · next hy => rw [hy] at h; exact hE i v k x w hk hn h
  · trivial
/-- A region that draws its order: each operation by itself (OpsOkV), whatever the order. -/
theorem univ_ {id : Nat} {a : Act} {w : World} (I : World → Prop) (St : World → World → Prop) (R : Nat → (Nat → Value) → World → Prop) (L : List (Option Tmp)) (ws : List (List Nat))
    (hm : P.follows .mixedOrders = true) (hL : dsts ops = L) (hw : ops.toList.map waits = ws) (ho : onceB L = true) (hd : downB ws 0 = true)
    (hst : ∀ i v w w', I w → St w w' → R i v w → R i v w') (hdep : ∀ i v k x w, k ≠ i → k ∉ ws.getD i [] → R i v w → R i (upd v k x) w) (h0 : I w.drew) (hops : OpsOkV P ops Q I St R L a ops.toList ws 0)
    (hend : ∀ v w, I w → (∀ j, j < ops.size → R j v w) → ∀ a' : Act, a' = fill L a v → Q .normal a' w) : (Code.region id ops true).wp P Q a w := by
  refine wp_region_any hm ?_
  have := univ_any (P := P) (Q := Q) hL hw ho hd hst hdep hops (fun v w hI hR => hend v w hI hR _ rfl) ops.size (Array.replicate ops.size false) (fun i => match L[i]? with | some (some d) => a.tmps.getD d undef | _ => undef) w.drew (by simp) (by simp) h0 (fun j hj h => by simp [Array.getD, hj] at h) (fun j hj h => by simp [Array.getD, hj] at h)
  rw [show fill L a (fun i => match L[i]? with | some (some d) => a.tmps.getD d undef | _ => undef) = a from by
    unfold fill
    rw [fillT_same L a.tmps _ 0 fun k d hk hd => by rw [Nat.zero_add]; simp only [hk]; simp [Array.getD, hd]]] at this
  exact this
end
open Go.RowKit Go.Proofs.YtojehbkadlmbjaaW.PrintWords
/-- A block z may become f; nothing else happens to blocks z and f. -/
def Turn (z f : Obj) (w w' : World) : Prop := ∀ g : Nat, (w.heap[g]? = some z → w'.heap[g]? = some z ∨ w'.heap[g]? = some f) ∧ (w.heap[g]? = some f → w'.heap[g]? = some f)
theorem Turn.below {z f : Obj} {w w' : World} (h : Below w.heap.size w w') : Turn z f w w' := fun _ => ⟨fun e => .inl (blk_below e h), fun e => blk_below e h⟩
theorem Turn.put {z f : Obj} {w w' : World} {g0 : Nat} (h1 : w'.heap[g0]? = some f) (hne : ∀ g : Nat, g ≠ g0 → w'.heap[g]? = w.heap[g]?) : Turn z f w w' := fun g => by
  by_cases e : g = g0
  · subst e; exact ⟨fun _ => .inr h1, fun _ => h1⟩
  · rw [hne g e]; exact ⟨.inl, id⟩
theorem Turn.far {z f o : Obj} {w w' : World} {g0 : Nat} (h0 : w.heap[g0]? = some o) (hz : o ≠ z) (hf : o ≠ f) (hne : ∀ g : Nat, g ≠ g0 → w'.heap[g]? = w.heap[g]?) : Turn z f w w' := fun g => by
  by_cases e : g = g0
  · subst e; rw [h0]; exact ⟨fun h => absurd (Option.some.inj h) hz, fun h => absurd (Option.some.inj h) hf⟩
  · rw [hne g e]; exact ⟨.inl, id⟩
theorem cells_ne {c c' : Array Value} {t t' : TypeId} (h : t ≠ t') : Obj.cells c t (0, 0) ≠ Obj.cells c' t' (0, 0) := fun e => by
  injection e with _ e2 _
  exact h e2
theorem store_step {P : Program} {ops : Array Oper} {o : Oper} {a : Act} {Q : Exit → Act → World → Prop} {Kc : Act → World → Prop} {W w1 : World} (hw : Region.wanted o (yielded ops a.tmps) = true) (hrun : (execOp a.eval o).run P W = .ok .skip w1)
    (h : Kc (a.put o.dst undef) w1) : if Region.wanted o (yielded ops a.tmps) = true then Oper.wp P o a W Kc Q else Kc (a.put o.dst undef) W := by
  rw [if_pos hw]
  unfold Oper.wp
  rw [hrun]
  exact h
end Go.Proofs.Ytojehbkadlmbjaa.Uni
