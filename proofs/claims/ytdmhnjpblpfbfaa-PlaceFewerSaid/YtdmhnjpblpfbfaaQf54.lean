/- (*place.search).try goes on with the next label. Conditions: stated at the contract. -/
import Derived.Test.YtdmhnjpblpfbfaaQf63
import Derived.Test.YtdmhnjpblpfbfaaQf34
namespace Go.Proofs.Ytdmhnjpblpfbfaa.Q
open Go.RowKit Go.Proofs.YtdmhnjpblpfbfaaW.PrintWords Go.Proofs.YtdmhnjpblpfbfaaW.PrintLast Go.Proofs.YtdmhnjpblpfbfaaW.PrintMore
attribute [local go_sem] max2_int min2_int max_two min_two max_three min_three max_four min_four
set_option linter.unusedVariables false
set_option linter.unusedSimpArgs false
theorem info3s : (Try.prog.info? 3).map (fun i => (i.zero, i.size, i.bytes)) = some (some (.int .i64 0), 1, 8) := by kernel_rfl
def bxB (L : List S36) (n k : Int) : S42 := rd_T42 (rd_T36 L n).f1 k
/-- May the n-th label have its k-th box (-1: none)? -/
def mayB (L : List S36) (now : List Int) (k : Int) : Bool := if 0 ≤ k then fitB L now (bxB L (now.length : Int) k).f0.f0 (bxB L (now.length : Int) k).f0.f1 (bxB L (now.length : Int) k).f1.f0 (bxB L (now.length : Int) k).f1.f1 now.length 0 else true
def wgtB (L : List S36) (n k : Int) : Int := if 0 ≤ k then (rd_T36 L n).f2 else 0
/-- m boxes from the k-th on. -/
def loopB (st : Int → List Int × Int → List Int × Int) : Nat → Int → List Int × Int → List Int × Int
  | 0, _, bt => bt
  | m + 1, k, bt => loopB st m (k + 1) (st k bt)
/-- The search with d labels left: the best choice and its worth. -/
def srch (L : List S36) (rest : List Int) : Nat → List Int → Int → List Int × Int → List Int × Int
  | 0, now, worth, bt => if worth > bt.2 then (now, worth) else bt
  | d + 1, now, worth, bt => if worth + rd rest (now.length : Int) ≤ bt.2 then bt else
      loopB (fun k bt => if mayB L now k = true then srch L rest d (now ++ [k]) (worth + wgtB L (now.length : Int) k) bt else bt) ((rd_T36 L (now.length : Int)).f1.length + 1) (-1) bt
/-- A round of the search: the k-th box of the label behind now. -/
def stB (L : List S36) (rest : List Int) (d : Nat) (now : List Int) (worth : Int) (k : Int) (bt : List Int × Int) : List Int × Int := if mayB L now k = true then srch L rest d (now ++ [k]) (worth + wgtB L (now.length : Int) k) bt else bt
theorem srch_succ {L : List S36} {rest : List Int} {d : Nat} {now : List Int} {worth : Int} {bt : List Int × Int} (h : bt.2 < worth + rd rest (now.length : Int)) : srch L rest (d + 1) now worth bt = loopB (stB L rest d now worth) ((rd_T36 L (now.length : Int)).f1.length + 1) (-1) bt := by
  rw [srch, if_neg (by omega)]
  rfl
theorem loopB_no {L : List S36} {rest : List Int} {d : Nat} {now : List Int} {worth x : Int} {bt : List Int × Int} {m : Nat} (h : ¬ mayB L now x = true) : loopB (stB L rest d now worth) (m + 1) x bt = loopB (stB L rest d now worth) m (x + 1) bt := by
  rw [loopB, stB, if_neg h]
theorem loopB_yes {L : List S36} {rest : List Int} {d : Nat} {now : List Int} {worth x : Int} {bt : List Int × Int} {m : Nat} (h : mayB L now x = true) : loopB (stB L rest d now worth) (m + 1) x bt = loopB (stB L rest d now worth) m (x + 1) (srch L rest d (now ++ [x]) (worth + wgtB L (now.length : Int) x) bt) := by
  rw [loopB, stB, if_pos h]
/-- The state with its rows' values. -/
def SeV (w W : World) (g : Nat) (A : Option Addr) (c : Nat) (L : List S36) (rest now best : List Int) (worth top : Int) (vr vn vb : Value) : Prop :=
  W.heap[g]? = some (.cells #[.slice A L.length c, vr, vn, vb, .int .i64 worth, .int .i64 top] 80 (0, 0)) ∧ Kd.R (Kd.int .i64) 3 W w.heap.size (fun k => some k ≠ vn.ownBlock) vr rest ∧ Kd.R (Kd.int .i64) 3 W w.heap.size (fun _ => True) vn now ∧
    Kd.R (Kd.int .i64) 3 W w.heap.size (fun k => some k ≠ vn.ownBlock) vb best ∧ w.heap.size ≤ g ∧ Below w.heap.size w W
section
variable {w W W' : World} {g c : Nat} {A : Option Addr} {L : List S36} {rest now best : List Int} {worth top : Int} {vr vn vb : Value}
theorem SeV_Se (h : SeV w W g A c L rest now best worth top vr vn vb) : Se w W g A c L rest now best worth top := ⟨vr, vn, vb, h⟩
theorem SeV_below (h : SeV w W g A c L rest now best worth top vr vn vb) (hb : Below W.heap.size W W') : SeV w W' g A c L rest now best worth top vr vn vb := by
  obtain ⟨h1, h2, h3, h4, h5, h6⟩ := h
  exact ⟨blk_below h1 hb, Kd.R_below h2 hb, Kd.R_below h3 hb, Kd.R_below h4 hb, h5, below_step h6 hb⟩
theorem SeV_cells (h : SeV w W g A c L rest now best worth top vr vn vb) : W.cell? ⟨g, 0, none⟩ = some (.slice A L.length c) ∧ W.cell? ⟨g, 1, none⟩ = some vr ∧ W.cell? ⟨g, 2, none⟩ = some vn ∧ W.cell? ⟨g, 3, none⟩ = some vb ∧ W.cell? ⟨g, 4, none⟩ = some (.int .i64 worth) ∧ W.cell? ⟨g, 5, none⟩ = some (.int .i64 top) ∧ (∀ i, W.frozen? ⟨g, i, none⟩ = false) :=
  ⟨(blk_cell h.1 0).trans rfl, (blk_cell h.1 1).trans rfl, (blk_cell h.1 2).trans rfl, (blk_cell h.1 3).trans rfl, (blk_cell h.1 4).trans rfl, (blk_cell h.1 5).trans rfl, fun i => blk_frozen h.1 i⟩
theorem SeV_best {v : Value} {W2 : World} (h : SeV w W g A c L rest now best worth top vr vn vb) (hb : Below W.heap.size W W2) (hv : Kd.R (Kd.int .i64) 3 W2 W.heap.size (fun _ => True) v now) :
    SeV w ((W2.setCell ⟨g, 5, none⟩ (.int .i64 worth)).setCell ⟨g, 3, none⟩ v) g A c L rest now now worth worth vr vn v := by
  have hlt := Kd.R_lt h.2.2.1
  have hs := h.2.2.2.2.2.size
  have hv2 := Kd.R_lower (Kd.R_mono (Kd.R_new' hv hlt) (fun _ hk => hk.2)) hs
  obtain ⟨h1, h2, h3, h4, h5, h6⟩ := SeV_below h hb
  have b1 := blk_put (cs' := #[.slice A L.length c, vr, vn, vb, .int .i64 worth, .int .i64 worth]) h1 5 (.int .i64 worth) rfl
  have b2 := blk_put (cs' := #[.slice A L.length c, vr, vn, v, .int .i64 worth, .int .i64 worth]) b1 3 v rfl
  exact ⟨b2, Kd.R_set (Kd.R_set h2 h1 (by decide) _ _) b1 (by decide) _ _, Kd.R_set (Kd.R_set h3 h1 (by decide) _ _) b1 (by decide) _ _, Kd.R_set (Kd.R_set hv2 h1 (by decide) _ _) b1 (by decide) _ _, h5, (h6.setCell h5 _).setCell h5 _⟩
theorem SeV_push {v1 : Value} {now' : List Int} (h : SeV w W g A c L rest now best worth top vr vn vb) (hB : Below w.heap.size w W') (hg : W.grownBy W' vn.ownBlock) (hat : v1.ownBlock = vn.ownBlock ∨ ∃ b, v1.ownBlock = some b ∧ W.heap.size ≤ b)
    (ho : Kd.R (Kd.int .i64) 3 W' w.heap.size (fun _ => True) v1 now') (x : Int) : SeV w ((W'.setCell ⟨g, 2, none⟩ v1).setCell ⟨g, 4, none⟩ (.int .i64 x)) g A c L rest now' best x top vr v1 vb := by
  obtain ⟨h1, h2, h3, h4, h5, h6⟩ := h
  have b0 := blk_grown h1 hg (Kd.R_ne h3 h1 (by decide))
  have r2 := Kd.R_mono (Kd.R_after (ok := fun _ => True) (Kd.R_mono h2 (fun _ hk => ⟨trivial, hk⟩)) hg hat) (fun _ hk => hk.2)
  have r4 := Kd.R_mono (Kd.R_after (ok := fun _ => True) (Kd.R_mono h4 (fun _ hk => ⟨trivial, hk⟩)) hg hat) (fun _ hk => hk.2)
  have b1 := blk_put (cs' := #[.slice A L.length c, vr, v1, vb, .int .i64 worth, .int .i64 top]) b0 2 v1 rfl
  have b2 := blk_put (cs' := #[.slice A L.length c, vr, v1, vb, .int .i64 x, .int .i64 top]) b1 4 (.int .i64 x) rfl
  exact ⟨b2, Kd.R_set (Kd.R_set r2 b0 (by decide) _ _) b1 (by decide) _ _, Kd.R_set (Kd.R_set ho b0 (by decide) _ _) b1 (by decide) _ _, Kd.R_set (Kd.R_set r4 b0 (by decide) _ _) b1 (by decide) _ _, h5, (hB.setCell h5 _).setCell h5 _⟩
theorem SeV_pop {An : Option Addr} {n m cn : Nat} (h : SeV w W g A c L rest now best worth top vr (.slice An n cn) vb) (hm : m ≤ now.length) (x : Int) :
    SeV w ((W.setCell ⟨g, 2, none⟩ (.slice An m cn)).setCell ⟨g, 4, none⟩ (.int .i64 x)) g A c L rest (now.take m) best x top vr (.slice An m cn) vb := by
  obtain ⟨h1, h2, h3, h4, h5, h6⟩ := h
  have e : (Value.slice An m cn).ownBlock = (Value.slice An n cn).ownBlock := by cases An <;> rfl
  have b1 := blk_put (cs' := #[.slice A L.length c, vr, .slice An m cn, vb, .int .i64 worth, .int .i64 top]) h1 2 (.slice An m cn) rfl
  have b2 := blk_put (cs' := #[.slice A L.length c, vr, .slice An m cn, vb, .int .i64 x, .int .i64 top]) b1 4 (.int .i64 x) rfl
  exact ⟨b2, Kd.R_set (Kd.R_set (Kd.R_mono h2 (fun _ hk => by rw [e]; exact hk)) h1 (by decide) _ _) b1 (by decide) _ _, Kd.R_set (Kd.R_set (Kd.R_take h3 hm) h1 (by decide) _ _) b1 (by decide) _ _, Kd.R_set (Kd.R_set (Kd.R_mono h4 (fun _ hk => by rw [e]; exact hk)) h1 (by decide) _ _) b1 (by decide) _ _, h5, (h6.setCell h5 _).setCell h5 _⟩
end
/-- What the search asks of its labels. -/
structure Okl (L : List S36) (rest : List Int) : Prop where
  many : L.length ≤ 1000
  boxes : ∀ i, i < L.length → (rd_T36 L (i : Int)).f1.length ≤ 1000
  w0 : ∀ i, i < L.length → 0 ≤ (rd_T36 L (i : Int)).f2
  w1 : ∀ i, i < L.length → (rd_T36 L (i : Int)).f2 ≤ 1000
  len : rest.length = L.length + 1
  r0 : ∀ i, i ≤ L.length → 0 ≤ rd rest (i : Int)
  r1 : ∀ i, i ≤ L.length → rd rest (i : Int) ≤ 1000000
/-- Picks so far: each is -1 or a box that there is. -/
def Picks (L : List S36) (now : List Int) : Prop := ∀ i, i < now.length → -1 ≤ rd now (i : Int) ∧ rd now (i : Int) < ((rd_T36 L (i : Int)).f1.length : Int)
theorem picks_snoc {L : List S36} {now : List Int} {x : Int} (h : Picks L now) (h0 : -1 ≤ x) (h1 : x < ((rd_T36 L (now.length : Int)).f1.length : Int)) : Picks L (now ++ [x]) := by
  intro i hi
  rw [List.length_append, List.length_singleton] at hi
  have e : rd (now ++ [x]) (i : Int) = if i < now.length then rd now (i : Int) else x := by
    unfold rd
    by_cases c : i < now.length
    · rw [if_pos c]
      simp [List.getD_eq_getElem?_getD, List.getElem?_append_left c]
    · rw [if_neg c, show i = now.length by omega]
      simp
  rw [e]
  by_cases c : i < now.length
  · rw [if_pos c]; exact h i c
  · rw [if_neg c, show i = now.length by omega]; exact ⟨h0, h1⟩
set_option maxHeartbeats 16000000 in
set_option maxRecDepth 100000 in
theorem try_calls {w : World} {g c : Nat} {A : Option Addr} {L : List S36} {rest : List Int} (hL : Kd.C k36 w A L.length L) (hO : Okl L rest) : ∀ (d : Nat) (now best : List Int) (worth top : Int) (W : World), now.length + d = L.length → Se w W g A c L rest now best worth top → Picks L now → 0 ≤ worth → worth ≤ 1000 * now.length →
    Calls Try.prog 54 #[.pointer (some ⟨g, 0, none⟩)] W fun r W' => r = .returned (.tuple #[]) ∧ Se w W' g A c L rest now (srch L rest d now worth (best, top)).1 worth (srch L rest d now worth (best, top)).2 := by
  intro d
  induction d with
  | zero =>
    intro now best worth top W hd h hp hw0 hw1
    obtain ⟨vr, vn, vb, hse⟩ := h
    have HSe := Aside0.mk (show SeV w W g A c L rest now best worth top vr vn vb from hse)
    obtain ⟨An, cn, en⟩ := Kd.R_slice hse.2.2.1
    subst en
    have Hm : Aside0 (now.length ≤ 1000) := ⟨by have := hO.many; omega⟩
    have hnl : now.length = L.length := by omega
    have e1 : (now.length == L.length) = true := beq_iff_eq.mpr hnl
    have e2 : ((now.length : Int) == (L.length : Int)) = true := beq_iff_eq.mpr (by omega)
    clear hse hd hp hnl
    obtain ⟨hc0, hc1, hc2, hc3, hc4, hc5, hfz⟩ := SeV_cells HSe.out
    go_enter Try.func54, Try.ntmps54
    go_upto_region 2 with (fail)
    refine start_ (n := 9) (S := fun w' => w'.cell? ⟨g, 4, none⟩ = some (.int .i64 worth) ∧ w'.cell? ⟨g, 5, none⟩ = some (.int .i64 top)) (ds := []) (bA 9 0) (by kernel_rfl) rfl rfl ⟨hc4, hc5⟩ (fun hHeld => ?_)
    have HS1 := Aside0.mk (SeV_below HSe.out (below_drew (Below.refl _ _)))
    clear HSe hc0 hc1 hc2 hc3 hc4 hc5 hfz
    generalize W.drew = W1 at HS1 hHeld ⊢
    refine pure_ (i := 0) (N := some 17) (v := ?_) (a' := ?_) (bA 9 1) rfl rfl (by kernel_rfl) (fun _ _ _ h => h) (Or.inl ⟨by rfl, ?_⟩) ?_ ?_
    rotate_left
    · intro w'
      go_simp
      with_reducible rfl
    rotate_left
    · simp only [Act.put, List.setIfInBounds_toArray, List.set_cons_zero, List.set_cons_succ, i64_w, i32_w]
      rfl
    refine pure_ (i := 1) (N := some 18) (v := ?_) (a' := ?_) (bA 9 3) rfl rfl (by kernel_rfl) (fun _ _ _ h => h) (Or.inl ⟨by rfl, ?_⟩) ?_ ?_
    rotate_left
    · intro w'
      go_simp
      with_reducible rfl
    rotate_left
    · simp only [Act.put, List.setIfInBounds_toArray, List.set_cons_zero, List.set_cons_succ, i64_w, i32_w]
      rfl
    refine pure_ (i := 2) (N := some 19) (v := ?_) (a' := ?_) (bA 9 7) rfl rfl (by kernel_rfl) (fun _ _ _ h => h) (Or.inl ⟨by rfl, ?_⟩) ?_ ?_
    rotate_left
    · intro w'
      go_simp
      with_reducible rfl
    rotate_left
    · simp only [Act.put, List.setIfInBounds_toArray, List.set_cons_zero, List.set_cons_succ, i64_w, i32_w]
      rfl
    refine pure_ (i := 4) (N := some 21) (v := ?_) (a' := ?_) (bA 9 23) rfl rfl (by kernel_rfl) (fun _ _ _ h => h) (Or.inl ⟨by rfl, ?_⟩) ?_ ?_
    rotate_left
    · intro w'
      go_simp
      with_reducible rfl
    rotate_left
    · simp only [Act.put, List.setIfInBounds_toArray, List.set_cons_zero, List.set_cons_succ, i64_w, i32_w]
      rfl
    refine pure_ (i := 5) (N := some 22) (v := ?_) (a' := ?_) (bA 9 55) rfl rfl (by kernel_rfl) (fun _ _ _ h => h) (Or.inl ⟨by rfl, ?_⟩) ?_ ?_
    rotate_left
    · intro w'
      go_simp
      with_reducible rfl
    rotate_left
    · simp only [Act.put, List.setIfInBounds_toArray, List.set_cons_zero, List.set_cons_succ, i64_w, i32_w]
      rfl
    refine pure_ (i := 6) (N := some 23) (v := ?_) (a' := ?_) (bA 9 119) rfl rfl (by kernel_rfl) (fun _ _ _ h => h) (Or.inl ⟨by rfl, ?_⟩) ?_ ?_
    rotate_left
    · intro w'
      go_simp
      with_reducible rfl
    rotate_left
    · simp only [Act.put, List.setIfInBounds_toArray, List.set_cons_zero, List.set_cons_succ, i64_w, i32_w]
      rfl
    refine take_ (i := 3) (N := some 20) (v := ?_) (a' := ?_) (bA 9 127) rfl rfl (by kernel_rfl) (fun _ _ _ h => h) (Or.inl ⟨by rfl, ?_⟩) hHeld ?_ ?_
    rotate_left
    · rintro w' ⟨s0, s1⟩
      go_simp
      with_reducible rfl
    rotate_left
    · simp only [Act.put, List.setIfInBounds_toArray, List.set_cons_zero, List.set_cons_succ, i64_w, i32_w]
      rfl
    refine take_ (i := 7) (N := some 24) (v := ?_) (a' := ?_) (bA 9 255) rfl rfl (by kernel_rfl) (fun _ _ _ h => h) (Or.inl ⟨by rfl, ?_⟩) hHeld ?_ ?_
    rotate_left
    · rintro w' ⟨s0, s1⟩
      go_simp
      with_reducible rfl
    rotate_left
    · simp only [Act.put, List.setIfInBounds_toArray, List.set_cons_zero, List.set_cons_succ, i64_w, i32_w]
      rfl
    refine pure_ (i := 8) (N := some 25) (v := ?_) (a' := ?_) (bA 9 511) rfl rfl (by kernel_rfl) (fun _ _ _ h => h) (Or.inl ⟨by rfl, ?_⟩) ?_ ?_
    rotate_left
    · intro w'
      go_simp
      with_reducible rfl
    rotate_left
    · simp only [Act.put, List.setIfInBounds_toArray, List.set_cons_zero, List.set_cons_succ, i64_w, i32_w]
      rfl
    refine done_ (by kernel_rfl) ?_
    by_cases cw : worth > top
    rotate_left
    · have cwb : decide (top < worth) = false := decide_eq_false cw
      rw [cwb]
      have HCW := Aside0.mk cw
      clear cw
      go_wp2
      refine bodyPost_ret (v := .tuple #[]) (results_none rfl _ _ _) rfl ?_
      exact ⟨rfl, by rw [srch, if_neg (by have := HCW.out; omega)]; exact SeV_Se HS1.out⟩
    have cwb : decide (top < worth) = true := decide_eq_true cw
    rw [cwb]
    have HCW := Aside0.mk cw
    clear cw
    obtain ⟨hc0, hc1, hc2, hc3, hc4, hc5, hfz⟩ := SeV_cells HS1.out
    go_upto_region 3 with (fail)
    refine start_ (n := 17) (S := fun w' => w'.cell? ⟨g, 2, none⟩ = some (.slice An now.length cn) ∧ w'.cell? ⟨g, 4, none⟩ = some (.int .i64 worth)) (ds := [13, 16]) (bA 17 0) (by kernel_rfl) rfl rfl ⟨hc2, hc4⟩ (fun hHeld => ?_)
    have HS2 := Aside0.mk (SeV_below HS1.out (below_drew (Below.refl _ _)))
    clear HS1 hc0 hc1 hc2 hc3 hc4 hc5 hfz
    generalize W1.drew = W2 at HS2 hHeld ⊢
    refine pure_ (i := 0) (N := some 26) (v := ?_) (a' := ?_) (bA 17 1) rfl rfl (by kernel_rfl) (fun _ _ _ h => h) (Or.inl ⟨by rfl, ?_⟩) ?_ ?_
    rotate_left
    · intro w'
      go_simp
      with_reducible rfl
    rotate_left
    · simp only [Act.put, List.setIfInBounds_toArray, List.set_cons_zero, List.set_cons_succ, i64_w, i32_w]
      rfl
    refine pure_ (i := 1) (N := some 27) (v := ?_) (a' := ?_) (bA 17 3) rfl rfl (by kernel_rfl) (fun _ _ _ h => h) (Or.inl ⟨by rfl, ?_⟩) ?_ ?_
    rotate_left
    · intro w'
      go_simp
      with_reducible rfl
    rotate_left
    · simp only [Act.put, List.setIfInBounds_toArray, List.set_cons_zero, List.set_cons_succ, i64_w, i32_w]
      rfl
    refine pure_ (i := 2) (N := some 28) (v := ?_) (a' := ?_) (bA 17 7) rfl rfl (by kernel_rfl) (fun _ _ _ h => h) (Or.inl ⟨by rfl, ?_⟩) ?_ ?_
    rotate_left
    · intro w'
      go_simp
      with_reducible rfl
    rotate_left
    · simp only [Act.put, List.setIfInBounds_toArray, List.set_cons_zero, List.set_cons_succ, i64_w, i32_w]
      rfl
    refine pure_ (i := 6) (N := some 32) (v := ?_) (a' := ?_) (bA 17 71) rfl rfl (by kernel_rfl) (fun _ _ _ h => h) (Or.inl ⟨by rfl, ?_⟩) ?_ ?_
    rotate_left
    · intro w'
      go_simp
      with_reducible rfl
    rotate_left
    · simp only [Act.put, List.setIfInBounds_toArray, List.set_cons_zero, List.set_cons_succ, i64_w, i32_w]
      rfl
    refine pure_ (i := 3) (N := some 29) (v := ?_) (a' := ?_) (bA 17 79) rfl rfl (by kernel_rfl) (fun _ _ _ h => h) (Or.inl ⟨by rfl, ?_⟩) ?_ ?_
    rotate_left
    · intro w'
      go_simp
      with_reducible rfl
    rotate_left
    · simp only [Act.put, List.setIfInBounds_toArray, List.set_cons_zero, List.set_cons_succ, i64_w, i32_w]
      rfl
    refine pure_ (i := 4) (N := some 30) (v := ?_) (a' := ?_) (bA 17 95) rfl rfl (by kernel_rfl) (fun _ _ _ h => h) (Or.inl ⟨by rfl, ?_⟩) ?_ ?_
    rotate_left
    · intro w'
      go_simp
      with_reducible rfl
    rotate_left
    · simp only [Act.put, List.setIfInBounds_toArray, List.set_cons_zero, List.set_cons_succ, i64_w, i32_w]
      rfl
    refine pure_ (i := 7) (N := some 33) (v := ?_) (a' := ?_) (bA 17 223) rfl rfl (by kernel_rfl) (fun _ _ _ h => h) (Or.inl ⟨by rfl, ?_⟩) ?_ ?_
    rotate_left
    · intro w'
      go_simp
      with_reducible rfl
    rotate_left
    · simp only [Act.put, List.setIfInBounds_toArray, List.set_cons_zero, List.set_cons_succ, i64_w, i32_w]
      rfl
    refine pure_ (i := 8) (N := some 34) (v := ?_) (a' := ?_) (bA 17 479) rfl rfl (by kernel_rfl) (fun _ _ _ h => h) (Or.inl ⟨by rfl, ?_⟩) ?_ ?_
    rotate_left
    · intro w'
      go_simp
      with_reducible rfl
    rotate_left
    · simp only [Act.put, List.setIfInBounds_toArray, List.set_cons_zero, List.set_cons_succ, i64_w, i32_w]
      rfl
    refine take_ (i := 5) (N := some 31) (v := ?_) (a' := ?_) (bA 17 511) rfl rfl (by kernel_rfl) (fun _ _ _ h => h) (Or.inl ⟨by rfl, ?_⟩) hHeld ?_ ?_
    rotate_left
    · rintro w' ⟨s0, s1⟩
      go_simp
      with_reducible rfl
    rotate_left
    · simp only [Act.put, List.setIfInBounds_toArray, List.set_cons_zero, List.set_cons_succ, i64_w, i32_w]
      rfl
    refine take_ (i := 9) (N := some 35) (v := ?_) (a' := ?_) (bA 17 1023) rfl rfl (by kernel_rfl) (fun _ _ _ h => h) (Or.inl ⟨by rfl, ?_⟩) hHeld ?_ ?_
    rotate_left
    · rintro w' ⟨s0, s1⟩
      go_simp
      with_reducible rfl
    rotate_left
    · simp only [Act.put, List.setIfInBounds_toArray, List.set_cons_zero, List.set_cons_succ, i64_w, i32_w]
      rfl
    refine one_ (i := 10) (N := some 36) (bA 17 2047) rfl rfl (by kernel_rfl) (by decide) (fun K hK => ?_)
    refine goes_ Try.func34 (by kernel_rfl) rfl #[.slice An now.length cn] (by rfl) rfl rfl (by (try simp only [List.map_toArray, List.map_cons, List.map_nil]); first | done | rfl) ?_
    refine (slices_Clone_int_int.calls An cn now now W2 (Kd.R_reads' HS2.out.2.2.1).2.2 (Kd.R_reads' HS2.out.2.2.1).2.1 (by rw [slices_Clone_int_int.f, Option.bind_some, if_pos (by have := Hm.out; simp; omega)]; rfl)).mono ?_
    rintro r_ W3 ⟨v, rfl, hv, hb⟩
    obtain ⟨Av, cv, ev⟩ := Kd.R_slice hv
    subst ev
    refine ⟨_, rfl, ?_⟩
    have HS3 := Aside0.mk (SeV_below HS2.out hb)
    have HS4 := Aside0.mk (SeV_best HS2.out hb hv)
    obtain ⟨hc0, hc1, hc2, hc3, hc4, hc5, hfz⟩ := SeV_cells HS3.out
    clear hb hv hHeld
    refine hK.out _ _ ⟨hc2, hc4⟩ (fun hHeld => ?_)
    clear hK K
    refine norm_ (a' := ?_) ?_ ?_
    rotate_left
    · show Act.put _ (some 36) _ = _
      simp only [Act.put, List.setIfInBounds_toArray, List.set_cons_zero, List.set_cons_succ, i64_w, i32_w]
      rfl
    refine pure_ (i := 11) (N := some 37) (v := ?_) (a' := ?_) (bA 17 4095) rfl rfl (by kernel_rfl) (fun _ _ _ h => h) (Or.inl ⟨by rfl, ?_⟩) ?_ ?_
    rotate_left
    · intro w'
      go_simp
      with_reducible rfl
    rotate_left
    · simp only [Act.put, List.setIfInBounds_toArray, List.set_cons_zero, List.set_cons_succ, i64_w, i32_w]
      rfl
    refine pure_ (i := 12) (N := some 38) (v := ?_) (a' := ?_) (bA 17 8191) rfl rfl (by kernel_rfl) (fun _ _ _ h => h) (Or.inl ⟨by rfl, ?_⟩) ?_ ?_
    rotate_left
    · intro w'
      go_simp
      with_reducible rfl
    rotate_left
    · simp only [Act.put, List.setIfInBounds_toArray, List.set_cons_zero, List.set_cons_succ, i64_w, i32_w]
      rfl
    have hf3 := hfz 3
    have hf5 := hfz 5
    clear hfz
    refine last_ (i := 13) (N := none) (bA 17 16383) rfl rfl (by kernel_rfl) (by decide) (fun K hK => ?_)
    refine skip_ (w1 := ?_) (by rfl) rfl ?_ ?_
    rotate_left
    · go_simp
      rfl
    refine hK.out _ _ ?_
    clear hK K
    refine pure_ (i := 14) (N := some 39) (v := ?_) (a' := ?_) (bA 17 32767) rfl rfl (by kernel_rfl) (fun _ _ _ h => h) (Or.inl ⟨by rfl, ?_⟩) ?_ ?_
    rotate_left
    · intro w'
      go_simp
      with_reducible rfl
    rotate_left
    · simp only [Act.put, List.setIfInBounds_toArray, List.set_cons_zero, List.set_cons_succ, i64_w, i32_w]
      rfl
    refine pure_ (i := 15) (N := some 40) (v := ?_) (a' := ?_) (bA 17 65535) rfl rfl (by kernel_rfl) (fun _ _ _ h => h) (Or.inl ⟨by rfl, ?_⟩) ?_ ?_
    rotate_left
    · intro w'
      go_simp
      with_reducible rfl
    rotate_left
    · simp only [Act.put, List.setIfInBounds_toArray, List.set_cons_zero, List.set_cons_succ, i64_w, i32_w]
      rfl
    refine last_ (i := 16) (N := none) (bA 17 131071) rfl rfl (by kernel_rfl) (by decide) (fun K hK => ?_)
    refine skip_ (w1 := ?_) (by rfl) rfl ?_ ?_
    rotate_left
    · go_simp
      rfl
    refine hK.out _ _ ?_
    clear hK K
    refine done_ (by kernel_rfl) ?_
    generalize ((W3.setCell ⟨g, 5, none⟩ (.int .i64 worth)).setCell ⟨g, 3, none⟩ (.slice Av now.length cv)) = W4 at HS4 ⊢
    clear HS2 HS3 hc0 hc1 hc2 hc3 hc4 hc5 hf3 hf5 hHeld
    go_wp2
    refine bodyPost_ret (v := .tuple #[]) (results_none rfl _ _ _) rfl ?_
    exact ⟨rfl, by rw [srch, if_pos HCW.out]; exact SeV_Se HS4.out⟩
  | succ d ih =>
    intro now best worth top W hd h hp hw0 hw1
    obtain ⟨vr, vn, vb, hse⟩ := h
    have HSe := Aside0.mk (show SeV w W g A c L rest now best worth top vr vn vb from hse)
    obtain ⟨An, cn, en⟩ := Kd.R_slice hse.2.2.1
    subst en
    obtain ⟨Ar, cr, er⟩ := Kd.R_slice hse.2.1
    subst er
    have Hm : Aside0 (now.length ≤ 1000) := ⟨by have := hO.many; omega⟩
    have hnl : now.length < L.length := by omega
    have e1 : (now.length == L.length) = false := beq_eq_false_iff_ne.mpr (by omega)
    have e2 : ((now.length : Int) == (L.length : Int)) = false := beq_eq_false_iff_ne.mpr (by omega)
    have HD := Aside0.mk hd
    have IH := Aside0.mk ih
    have HP := Aside0.mk hp
    have HL := Aside0.mk hL
    have HO := Aside0.mk hO
    have Hn := Aside0.mk hnl
    have HW0 := Aside0.mk hw0
    have HW1 := Aside0.mk hw1
    obtain ⟨ar, ear, hxr⟩ := Kd.at_int (Kd.R_reads' hse.2.1).2.2 (now.length : Int) (Int.natCast_nonneg _) (by have := hO.len; omega)
    subst ear
    rw [Int.toNat_natCast] at hxr
    have q0 : (now.length < rest.length) = True := eq_true (by have := hO.len; omega)
    have q0i : ((now.length : Int) < (rest.length : Int)) = True := eq_true (by have := hO.len; omega)
    have hs1 : wrap64 (worth + rd rest (now.length : Int)) = worth + rd rest (now.length : Int) := by
      have h1 := hO.r0 now.length (by omega)
      have h2 := hO.r1 now.length (by omega)
      have h3 := Hm.out
      rw [wrap64_eq] <;> omega
    clear hse hd hp hnl ih hL hO hw0 hw1
    obtain ⟨hc0, hc1, hc2, hc3, hc4, hc5, hfz⟩ := SeV_cells HSe.out
    go_enter Try.func54, Try.ntmps54
    go_upto_region 4 with (fail)
    refine start_ (n := 17) (S := fun w' => w'.cell? ⟨g, 4, none⟩ = some (.int .i64 worth) ∧ w'.cell? ⟨g, 1, none⟩ = some (.slice (some ar) rest.length cr) ∧ w'.cell? (ar.add now.length) = some (.int .i64 (rd rest (now.length : Int))) ∧ w'.cell? ⟨g, 5, none⟩ = some (.int .i64 top)) (ds := []) (bA 17 0) (by kernel_rfl) rfl rfl ⟨hc4, hc1, hxr, hc5⟩ (fun hHeld => ?_)
    have HS1 := Aside0.mk (SeV_below HSe.out (below_drew (Below.refl _ _)))
    clear HSe hc0 hc1 hc2 hc3 hc4 hc5 hfz hxr
    generalize W.drew = W1 at HS1 hHeld ⊢
    refine pure_ (i := 0) (N := some 41) (v := ?_) (a' := ?_) (bA 17 1) rfl rfl (by kernel_rfl) (fun _ _ _ h => h) (Or.inl ⟨by rfl, ?_⟩) ?_ ?_
    rotate_left
    · intro w'
      go_simp
      with_reducible rfl
    rotate_left
    · simp only [Act.put, List.setIfInBounds_toArray, List.set_cons_zero, List.set_cons_succ, i64_w, i32_w]
      rfl
    refine pure_ (i := 1) (N := some 42) (v := ?_) (a' := ?_) (bA 17 3) rfl rfl (by kernel_rfl) (fun _ _ _ h => h) (Or.inl ⟨by rfl, ?_⟩) ?_ ?_
    rotate_left
    · intro w'
      go_simp
      with_reducible rfl
    rotate_left
    · simp only [Act.put, List.setIfInBounds_toArray, List.set_cons_zero, List.set_cons_succ, i64_w, i32_w]
      rfl
    refine pure_ (i := 2) (N := some 43) (v := ?_) (a' := ?_) (bA 17 7) rfl rfl (by kernel_rfl) (fun _ _ _ h => h) (Or.inl ⟨by rfl, ?_⟩) ?_ ?_
    rotate_left
    · intro w'
      go_simp
      with_reducible rfl
    rotate_left
    · simp only [Act.put, List.setIfInBounds_toArray, List.set_cons_zero, List.set_cons_succ, i64_w, i32_w]
      rfl
    refine pure_ (i := 4) (N := some 45) (v := ?_) (a' := ?_) (bA 17 23) rfl rfl (by kernel_rfl) (fun _ _ _ h => h) (Or.inl ⟨by rfl, ?_⟩) ?_ ?_
    rotate_left
    · intro w'
      go_simp
      with_reducible rfl
    rotate_left
    · simp only [Act.put, List.setIfInBounds_toArray, List.set_cons_zero, List.set_cons_succ, i64_w, i32_w]
      rfl
    refine pure_ (i := 5) (N := some 46) (v := ?_) (a' := ?_) (bA 17 55) rfl rfl (by kernel_rfl) (fun _ _ _ h => h) (Or.inl ⟨by rfl, ?_⟩) ?_ ?_
    rotate_left
    · intro w'
      go_simp
      with_reducible rfl
    rotate_left
    · simp only [Act.put, List.setIfInBounds_toArray, List.set_cons_zero, List.set_cons_succ, i64_w, i32_w]
      rfl
    refine pure_ (i := 6) (N := some 47) (v := ?_) (a' := ?_) (bA 17 119) rfl rfl (by kernel_rfl) (fun _ _ _ h => h) (Or.inl ⟨by rfl, ?_⟩) ?_ ?_
    rotate_left
    · intro w'
      go_simp
      with_reducible rfl
    rotate_left
    · simp only [Act.put, List.setIfInBounds_toArray, List.set_cons_zero, List.set_cons_succ, i64_w, i32_w]
      rfl
    refine pure_ (i := 8) (N := some 49) (v := ?_) (a' := ?_) (bA 17 375) rfl rfl (by kernel_rfl) (fun _ _ _ h => h) (Or.inl ⟨by rfl, ?_⟩) ?_ ?_
    rotate_left
    · intro w'
      go_simp
      with_reducible rfl
    rotate_left
    · simp only [Act.put, List.setIfInBounds_toArray, List.set_cons_zero, List.set_cons_succ, i64_w, i32_w]
      rfl
    refine pure_ (i := 12) (N := some 53) (v := ?_) (a' := ?_) (bA 17 4471) rfl rfl (by kernel_rfl) (fun _ _ _ h => h) (Or.inl ⟨by rfl, ?_⟩) ?_ ?_
    rotate_left
    · intro w'
      go_simp
      with_reducible rfl
    rotate_left
    · simp only [Act.put, List.setIfInBounds_toArray, List.set_cons_zero, List.set_cons_succ, i64_w, i32_w]
      rfl
    refine pure_ (i := 13) (N := some 54) (v := ?_) (a' := ?_) (bA 17 12663) rfl rfl (by kernel_rfl) (fun _ _ _ h => h) (Or.inl ⟨by rfl, ?_⟩) ?_ ?_
    rotate_left
    · intro w'
      go_simp
      with_reducible rfl
    rotate_left
    · simp only [Act.put, List.setIfInBounds_toArray, List.set_cons_zero, List.set_cons_succ, i64_w, i32_w]
      rfl
    refine pure_ (i := 14) (N := some 55) (v := ?_) (a' := ?_) (bA 17 29047) rfl rfl (by kernel_rfl) (fun _ _ _ h => h) (Or.inl ⟨by rfl, ?_⟩) ?_ ?_
    rotate_left
    · intro w'
      go_simp
      with_reducible rfl
    rotate_left
    · simp only [Act.put, List.setIfInBounds_toArray, List.set_cons_zero, List.set_cons_succ, i64_w, i32_w]
      rfl
    refine take_ (i := 3) (N := some 44) (v := ?_) (a' := ?_) (bA 17 29055) rfl rfl (by kernel_rfl) (fun _ _ _ h => h) (Or.inl ⟨by rfl, ?_⟩) hHeld ?_ ?_
    rotate_left
    · rintro w' ⟨s0, s1, s2, s3⟩
      go_simp
      with_reducible rfl
    rotate_left
    · simp only [Act.put, List.setIfInBounds_toArray, List.set_cons_zero, List.set_cons_succ, i64_w, i32_w]
      rfl
    refine take_ (i := 7) (N := some 48) (v := ?_) (a' := ?_) (bA 17 29183) rfl rfl (by kernel_rfl) (fun _ _ _ h => h) (Or.inl ⟨by rfl, ?_⟩) hHeld ?_ ?_
    rotate_left
    · rintro w' ⟨s0, s1, s2, s3⟩
      go_simp
      with_reducible rfl
    rotate_left
    · simp only [Act.put, List.setIfInBounds_toArray, List.set_cons_zero, List.set_cons_succ, i64_w, i32_w]
      rfl
    refine pure_ (i := 9) (N := some 50) (v := ?_) (a' := ?_) (bA 17 29695) rfl rfl (by kernel_rfl) (fun _ _ _ h => h) (Or.inl ⟨by rfl, ?_⟩) ?_ ?_
    rotate_left
    · intro w'
      go_simp
      with_reducible rfl
    rotate_left
    · simp only [Act.put, List.setIfInBounds_toArray, List.set_cons_zero, List.set_cons_succ, i64_w, i32_w]
      rfl
    refine take_ (i := 10) (N := some 51) (v := ?_) (a' := ?_) (bA 17 30719) rfl rfl (by kernel_rfl) (fun _ _ _ h => h) (Or.inl ⟨by rfl, ?_⟩) hHeld ?_ ?_
    rotate_left
    · rintro w' ⟨s0, s1, s2, s3⟩
      go_simp
      with_reducible rfl
    rotate_left
    · simp only [Act.put, List.setIfInBounds_toArray, List.set_cons_zero, List.set_cons_succ, i64_w, i32_w]
      rfl
    refine pure_ (i := 11) (N := some 52) (v := ?_) (a' := ?_) (bA 17 32767) rfl rfl (by kernel_rfl) (fun _ _ _ h => h) (Or.inl ⟨by rfl, ?_⟩) ?_ ?_
    rotate_left
    · intro w'
      go_simp
      with_reducible rfl
    rotate_left
    · simp only [Act.put, List.setIfInBounds_toArray, List.set_cons_zero, List.set_cons_succ, i64_w, i32_w]
      rfl
    refine take_ (i := 15) (N := some 56) (v := ?_) (a' := ?_) (bA 17 65535) rfl rfl (by kernel_rfl) (fun _ _ _ h => h) (Or.inl ⟨by rfl, ?_⟩) hHeld ?_ ?_
    rotate_left
    · rintro w' ⟨s0, s1, s2, s3⟩
      go_simp
      with_reducible rfl
    rotate_left
    · simp only [Act.put, List.setIfInBounds_toArray, List.set_cons_zero, List.set_cons_succ, i64_w, i32_w]
      rfl
    refine pure_ (i := 16) (N := some 57) (v := ?_) (a' := ?_) (bA 17 131071) rfl rfl (by kernel_rfl) (fun _ _ _ h => h) (Or.inl ⟨by rfl, ?_⟩) ?_ ?_
    rotate_left
    · intro w'
      go_simp
      with_reducible rfl
    rotate_left
    · simp only [Act.put, List.setIfInBounds_toArray, List.set_cons_zero, List.set_cons_succ, i64_w, i32_w]
      rfl
    refine done_ (by kernel_rfl) ?_
    by_cases cw : worth + rd rest (now.length : Int) ≤ top
    · have cwb : decide (worth + rd rest (now.length : Int) ≤ top) = true := decide_eq_true cw
      rw [cwb]
      have HCW := Aside0.mk cw
      clear cw
      go_wp2
      refine bodyPost_ret (v := .tuple #[]) (results_none rfl _ _ _) rfl ?_
      exact ⟨rfl, by rw [srch, if_pos HCW.out]; exact SeV_Se HS1.out⟩
    have cwb : decide (worth + rd rest (now.length : Int) ≤ top) = false := decide_eq_false cw
    rw [cwb]
    have HCW := Aside0.mk cw
    clear cw
    have HSS := Aside0.mk (SeV_Se HS1.out)
    have HCW0 := Aside0.mk (show ((best, top) : List Int × Int).2 < worth + rd rest (now.length : Int) by have := HCW.out; show top < _; omega)
    obtain ⟨ad, A4, c4, A6, c6, ea, _⟩ := at_T36 HL.out (now.length : Int) (Int.natCast_nonneg _) (by have := Hn.out; omega)
    cases ea
    clear HS1 hs1 q0 q0i
    go_wp2
    go_loopg [3] ((rd_T36 L (now.length : Int)).f1.length + 1) (fun kq v3 w' => ∃ (x : Int) (best1 : List Int) (top1 : Int), v3 = .int .i64 x ∧ Aside0 (x + (kq : Int) = ((rd_T36 L (now.length : Int)).f1.length : Int)) ∧ Aside0 (loopB (stB L rest d now worth) kq x (best1, top1) = srch L rest (d + 1) now worth (best, top)) ∧ Aside0 (-1 ≤ x) ∧ Aside0 (Se w w' g (some ad) c L rest now best1 worth top1))
    case atStart => exact ⟨-1, best, top, rfl, ⟨by omega⟩, ⟨(srch_succ HCW0.out).symm⟩, ⟨by omega⟩, HSS⟩
    case round =>
      clear HSS
      obtain ⟨x, best1, top1, rfl, HI, HF, HX0, HSe⟩ := hrel
      obtain ⟨vr, vn, vb, hse⟩ := HSe.out
      have HS1 := Aside0.mk (show SeV w wr g (some ad) c L rest now best1 worth top1 vr vn vb from hse)
      obtain ⟨An, cn, en⟩ := Kd.R_slice hse.2.2.1
      subst en
      clear hse
      have HLr := Aside0.mk (Kd.C_below HL.out (Se_B HSe.out))
      obtain ⟨ad2, A4, c4, A6, c6, ea, hx0, hx1, hx2, hx3, hx4, hx5, hx6, hx7, l4, g4, l6, g6⟩ := at_T36 HLr.out (now.length : Int) (Int.natCast_nonneg _) (by have := Hn.out; omega)
      cases ea
      rw [Int.toNat_natCast] at hx6 hx7
      have HG6 := Aside0.mk g6
      clear hx0 hx1 hx2 hx3 hx4 hx5 l4 g4 l6 g6
      obtain ⟨hc0, hc1, hc2, hc3, hc4, hc5, hfz⟩ := SeV_cells HS1.out
      have p1 := eq_true (show (0 : Int) ≤ (now.length : Int) from Int.natCast_nonneg _)
      have q1 := eq_true (show (now.length : Int) < (L.length : Int) by have := Hn.out; omega)
      have q1n := eq_true (show now.length < L.length by have := Hn.out; omega)
      cases gk with
      | zero =>
        have hi : decide (x < ((rd_T36 L (now.length : Int)).f1.length : Int)) = false := decide_eq_false (by have := HI.out; omega)
        clear hc1 hc2 hc3 hc4 hc5 hfz hx7
        go_wp2
        refine bodyPost_end (results_none rfl _ _ _) rfl ?_
        exact ⟨rfl, by rw [← HF.out]; exact HSe.out⟩
      | succ m =>
        have hi : decide (x < ((rd_T36 L (now.length : Int)).f1.length : Int)) = true := decide_eq_true (by have := HI.out; omega)
        have HX1 : Aside0 (x < ((rd_T36 L (now.length : Int)).f1.length : Int)) := ⟨by have := HI.out; omega⟩
        have hxb : x ≤ 1000 := by have h1 := HX1.out; have h2 := HO.out.boxes now.length Hn.out; omega
        have hxa : -1 ≤ x := HX0.out
        have w1 : wrap64 (x + 1) = x + 1 := wrap64_eq _ (by omega) (by omega)
        have HXB := Aside0.mk hxb
        clear hxb hxa
        by_cases ck : 0 ≤ x
        rotate_left
        · have ckb : decide (0 ≤ x) = false := decide_eq_false ck
          have HCK := Aside0.mk ck
          have HMay : Aside0 (mayB L now x = true) := ⟨by rw [mayB, if_neg HCK.out]⟩
          obtain ⟨wq, hwq⟩ : ∃ wq : Int, wq = worth := ⟨_, rfl⟩
          have HWQ : Aside0 (wq = worth + wgtB L (now.length : Int) x) := ⟨by rw [hwq, wgtB, if_neg HCK.out, Int.add_zero]⟩
          have HQ0 : Aside0 (0 ≤ wq) := ⟨by have := HW0.out; omega⟩
          have HQ1 : Aside0 (wq ≤ 1000 * ((now.length : Int) + 1)) := ⟨by have := HW1.out; omega⟩
          have hq : wrap64 worth = wq := by rw [← hwq]; have h1 := HQ0.out; have h2 := HQ1.out; have h3 := Hm.out; rw [wrap64_eq] <;> omega
          have hsub : wrap64 wq = worth := by have h1 := HQ0.out; have h2 := HQ1.out; have h3 := Hm.out; rw [wrap64_eq] <;> omega
          clear hwq ck
          go_upto_region 12 with (fail)
          clear hx6 hx7 HLr HG6
          refine start_ (n := 21) (S := fun w' => w'.cell? ⟨g, 2, none⟩ = some (.slice An now.length cn) ∧ w'.cell? ⟨g, 4, none⟩ = some (.int .i64 worth)) (ds := [17, 20]) (bA 21 0) (by kernel_rfl) rfl rfl ⟨hc2, hc4⟩ (fun hHeld => ?_)
          have HS2 := Aside0.mk (SeV_below HS1.out (below_drew (Below.refl _ _)))
          clear HS1 hc0 hc1 hc2 hc3 hc4 hc5 hfz
          generalize wr.drew = W2 at HS2 hHeld ⊢
          refine pure_ (i := 0) (N := some 99) (v := ?_) (a' := ?_) (bA 21 1) rfl rfl (by kernel_rfl) (fun _ _ _ h => h) (Or.inl ⟨by rfl, ?_⟩) ?_ ?_
          rotate_left
          · intro w'
            go_simp
            with_reducible rfl
          rotate_left
          · simp only [Act.put, List.setIfInBounds_toArray, List.set_cons_zero, List.set_cons_succ, i64_w, i32_w]
            rfl
          refine pure_ (i := 1) (N := some 100) (v := ?_) (a' := ?_) (bA 21 3) rfl rfl (by kernel_rfl) (fun _ _ _ h => h) (Or.inl ⟨by rfl, ?_⟩) ?_ ?_
          rotate_left
          · intro w'
            go_simp
            with_reducible rfl
          rotate_left
          · simp only [Act.put, List.setIfInBounds_toArray, List.set_cons_zero, List.set_cons_succ, i64_w, i32_w]
            rfl
          refine pure_ (i := 2) (N := some 101) (v := ?_) (a' := ?_) (bA 21 7) rfl rfl (by kernel_rfl) (fun _ _ _ h => h) (Or.inl ⟨by rfl, ?_⟩) ?_ ?_
          rotate_left
          · intro w'
            go_simp
            with_reducible rfl
          rotate_left
          · simp only [Act.put, List.setIfInBounds_toArray, List.set_cons_zero, List.set_cons_succ, i64_w, i32_w]
            rfl
          refine pure_ (i := 6) (N := some 105) (v := ?_) (a' := ?_) (bA 21 71) rfl rfl (by kernel_rfl) (fun _ _ _ h => h) (Or.inl ⟨by rfl, ?_⟩) ?_ ?_
          rotate_left
          · intro w'
            go_simp
            with_reducible rfl
          rotate_left
          · simp only [Act.put, List.setIfInBounds_toArray, List.set_cons_zero, List.set_cons_succ, i64_w, i32_w]
            rfl
          refine pure_ (i := 9) (N := some 108) (v := ?_) (a' := ?_) (bA 21 583) rfl rfl (by kernel_rfl) (fun _ _ _ h => h) (Or.inl ⟨by rfl, ?_⟩) ?_ ?_
          rotate_left
          · intro w'
            go_simp
            with_reducible rfl
          rotate_left
          · simp only [Act.put, List.setIfInBounds_toArray, List.set_cons_zero, List.set_cons_succ, i64_w, i32_w]
            rfl
          refine pure_ (i := 13) (N := some 112) (v := ?_) (a' := ?_) (bA 21 8775) rfl rfl (by kernel_rfl) (fun _ _ _ h => h) (Or.inl ⟨by rfl, ?_⟩) ?_ ?_
          rotate_left
          · intro w'
            go_simp
            with_reducible rfl
          rotate_left
          · simp only [Act.put, List.setIfInBounds_toArray, List.set_cons_zero, List.set_cons_succ, i64_w, i32_w]
            rfl
          refine pure_ (i := 3) (N := some 102) (v := ?_) (a' := ?_) (bA 21 8783) rfl rfl (by kernel_rfl) (fun _ _ _ h => h) (Or.inl ⟨by rfl, ?_⟩) ?_ ?_
          rotate_left
          · intro w'
            go_simp
            with_reducible rfl
          rotate_left
          · simp only [Act.put, List.setIfInBounds_toArray, List.set_cons_zero, List.set_cons_succ, i64_w, i32_w]
            rfl
          refine pure_ (i := 4) (N := some 103) (v := ?_) (a' := ?_) (bA 21 8799) rfl rfl (by kernel_rfl) (fun _ _ _ h => h) (Or.inl ⟨by rfl, ?_⟩) ?_ ?_
          rotate_left
          · intro w'
            go_simp
            with_reducible rfl
          rotate_left
          · simp only [Act.put, List.setIfInBounds_toArray, List.set_cons_zero, List.set_cons_succ, i64_w, i32_w]
            rfl
          refine pure_ (i := 10) (N := some 109) (v := ?_) (a' := ?_) (bA 21 9823) rfl rfl (by kernel_rfl) (fun _ _ _ h => h) (Or.inl ⟨by rfl, ?_⟩) ?_ ?_
          rotate_left
          · intro w'
            go_simp
            with_reducible rfl
          rotate_left
          · simp only [Act.put, List.setIfInBounds_toArray, List.set_cons_zero, List.set_cons_succ, i64_w, i32_w]
            rfl
          refine pure_ (i := 11) (N := some 110) (v := ?_) (a' := ?_) (bA 21 11871) rfl rfl (by kernel_rfl) (fun _ _ _ h => h) (Or.inl ⟨by rfl, ?_⟩) ?_ ?_
          rotate_left
          · intro w'
            go_simp
            with_reducible rfl
          rotate_left
          · simp only [Act.put, List.setIfInBounds_toArray, List.set_cons_zero, List.set_cons_succ, i64_w, i32_w]
            rfl
          refine take_ (i := 5) (N := some 104) (v := ?_) (a' := ?_) (bA 21 11903) rfl rfl (by kernel_rfl) (fun _ _ _ h => h) (Or.inl ⟨by rfl, ?_⟩) hHeld ?_ ?_
          rotate_left
          · rintro w' ⟨s0, s1⟩
            go_simp
            with_reducible rfl
          rotate_left
          · simp only [Act.put, List.setIfInBounds_toArray, List.set_cons_zero, List.set_cons_succ, i64_w, i32_w]
            rfl
          refine take_ (i := 12) (N := some 111) (v := ?_) (a' := ?_) (bA 21 15999) rfl rfl (by kernel_rfl) (fun _ _ _ h => h) (Or.inl ⟨by rfl, ?_⟩) hHeld ?_ ?_
          rotate_left
          · rintro w' ⟨s0, s1⟩
            go_simp
            with_reducible rfl
          rotate_left
          · simp only [Act.put, List.setIfInBounds_toArray, List.set_cons_zero, List.set_cons_succ, i64_w, i32_w]
            rfl
          refine pure_ (i := 14) (N := some 113) (v := ?_) (a' := ?_) (bA 21 32383) rfl rfl (by kernel_rfl) (fun _ _ _ h => h) (Or.inl ⟨by rfl, ?_⟩) ?_ ?_
          rotate_left
          · intro w'
            go_simp
            with_reducible rfl
          rotate_left
          · simp only [Act.put, List.setIfInBounds_toArray, List.set_cons_zero, List.set_cons_succ, i64_w, i32_w]
            rfl
          refine one_ (i := 7) (N := some 106) (bA 21 32511) rfl rfl (by kernel_rfl) (by decide) (fun K hK => ?_)
          refine value_ (v := ?_) (w1 := W2.alloc (.cells #[.int .i64 x] 3)) (by rfl) rfl ?_ ?_
          rotate_left
          · go_simp
            rfl
          obtain ⟨hc0, hc1, hc2, hc3, hc4, hc5, hfz⟩ := SeV_cells (SeV_below HS2.out (below_alloc (Below.refl _ _) (.cells #[.int .i64 x] 3)))
          clear hHeld
          refine hK.out _ _ ⟨hc2, hc4⟩ (fun hHeld => ?_)
          clear hK K
          refine norm_ (a' := ?_) ?_ ?_
          rotate_left
          · show Act.put _ (some 106) _ = _
            simp only [Act.put, List.setIfInBounds_toArray, List.set_cons_zero, List.set_cons_succ, i64_w, i32_w]
            rfl
          refine one_ (i := 8) (N := some 107) (bA 21 32767) rfl rfl (by kernel_rfl) (by decide) (fun K hK => ?_)
          refine Kd.R_append_step (Kd.int .i64) (w0 := w) w.heap.size (by rfl) (.tmp 104) (.tmp 106) 22 3 (.int .i64 0) 8 rfl Try.underlying22 info3s rfl (by decide) (by omega) (.slice An now.length cn) now x [.int .i64 x] (fun _ => True) (fun _ => False) rfl rfl ?aP (fun _ hk => hk.elim) (fun _ _ => trivial) ?aO ?aB ?aS ?aL ?_
          case aP => exact rfl
          case aO => exact HS2.out.2.2.1
          case aB => exact HS2.out.2.2.2.2.2
          case aS => exact HS2.out.2.2.2.2.2.size
          case aL => have := Hm.out; omega
          intro v1 W3 ho hb hg hat
          obtain ⟨now1, hn1⟩ : ∃ n_, n_ = now ++ [x] := ⟨_, rfl⟩
          rw [← hn1] at ho
          obtain ⟨A1, c1, ev⟩ := Kd.R_slice ho
          subst ev
          have HN1 := Aside0.mk hn1
          clear hn1
          have HS3 := Aside0.mk (SeV_push HS2.out hb hg hat ho wq)
          have b3 := blk_grown HS2.out.1 hg (Kd.R_ne HS2.out.2.2.1 HS2.out.1 (by decide))
          clear hc0 hc1 hc2 hc3 hc4 hc5 hfz
          have hc2 : W3.cell? ⟨g, 2, none⟩ = some (.slice An now.length cn) := (blk_cell b3 2).trans rfl
          have hc4 : W3.cell? ⟨g, 4, none⟩ = some (.int .i64 worth) := (blk_cell b3 4).trans rfl
          have hf2 := blk_frozen b3 2
          have hf4 := blk_frozen b3 4
          clear b3 ho hb hg hat HS2 hHeld
          refine hK.out _ _ ⟨hc2, hc4⟩ (fun hHeld => ?_)
          clear hK K
          refine norm_ (a' := ?_) ?_ ?_
          rotate_left
          · show Act.put _ (some 107) _ = _
            simp only [Act.put, List.setIfInBounds_toArray, List.set_cons_zero, List.set_cons_succ, i64_w, i32_w]
            rfl
          refine pure_ (i := 15) (N := some 114) (v := ?_) (a' := ?_) (bA 21 65535) rfl rfl (by kernel_rfl) (fun _ _ _ h => h) (Or.inl ⟨by rfl, ?_⟩) ?_ ?_
          rotate_left
          · intro w'
            go_simp
            with_reducible rfl
          rotate_left
          · simp only [Act.put, List.setIfInBounds_toArray, List.set_cons_zero, List.set_cons_succ, i64_w, i32_w]
            rfl
          refine pure_ (i := 16) (N := some 115) (v := ?_) (a' := ?_) (bA 21 131071) rfl rfl (by kernel_rfl) (fun _ _ _ h => h) (Or.inl ⟨by rfl, ?_⟩) ?_ ?_
          rotate_left
          · intro w'
            go_simp
            with_reducible rfl
          rotate_left
          · simp only [Act.put, List.setIfInBounds_toArray, List.set_cons_zero, List.set_cons_succ, i64_w, i32_w]
            rfl
          refine last_ (i := 17) (N := none) (bA 21 262143) rfl rfl (by kernel_rfl) (by decide) (fun K hK => ?_)
          refine skip_ (w1 := ?_) (by rfl) rfl ?_ ?_
          rotate_left
          · go_simp
            rfl
          refine hK.out _ _ ?_
          clear hK K
          refine pure_ (i := 18) (N := some 116) (v := ?_) (a' := ?_) (bA 21 524287) rfl rfl (by kernel_rfl) (fun _ _ _ h => h) (Or.inl ⟨by rfl, ?_⟩) ?_ ?_
          rotate_left
          · intro w'
            go_simp
            with_reducible rfl
          rotate_left
          · simp only [Act.put, List.setIfInBounds_toArray, List.set_cons_zero, List.set_cons_succ, i64_w, i32_w]
            rfl
          refine pure_ (i := 19) (N := some 117) (v := ?_) (a' := ?_) (bA 21 1048575) rfl rfl (by kernel_rfl) (fun _ _ _ h => h) (Or.inl ⟨by rfl, ?_⟩) ?_ ?_
          rotate_left
          · intro w'
            go_simp
            with_reducible rfl
          rotate_left
          · simp only [Act.put, List.setIfInBounds_toArray, List.set_cons_zero, List.set_cons_succ, i64_w, i32_w]
            rfl
          refine last_ (i := 20) (N := none) (bA 21 2097151) rfl rfl (by kernel_rfl) (by decide) (fun K hK => ?_)
          refine skip_ (w1 := ?_) (by rfl) rfl ?_ ?_
          rotate_left
          · go_simp
            rfl
          refine hK.out _ _ ?_
          clear hK K
          refine done_ (by kernel_rfl) ?_
          generalize ((W3.setCell ⟨g, 2, none⟩ (.slice A1 now1.length c1)).setCell ⟨g, 4, none⟩ (.int .i64 wq)) = W4 at HS3 ⊢
          clear hc2 hc4 hf2 hf4 hHeld
          go_upto_region 14 with (first | ((with_reducible refine gate_callee (f := 54) rfl ?_); refine goesL_ (some 119) rfl rfl Try.func54 (by kernel_rfl) rfl #[.pointer (some ⟨g, 0, none⟩)] rfl (by (try simp only [List.map_toArray, List.map_cons, List.map_nil]); first | done | rfl) ?_; (refine (IH.out now1 best1 wq top1 W4 (by rw [HN1.out, List.length_append]; have := HD.out; simp; omega) (SeV_Se HS3.out) (by rw [HN1.out]; exact picks_snoc HP.out HX0.out HX1.out) HQ0.out (by rw [HN1.out, List.length_append]; have := HQ1.out; simp; omega)).mono ?_); rintro r_ W5 ⟨rfl, q1⟩; refine ⟨_, rfl, ?_⟩; have HS4 := Aside0.mk q1; clear HS3 q1; obtain ⟨vr6, vn6, vb6, hs6⟩ := HS4.out; have HS5 := Aside0.mk (show SeV w W5 g (some ad) c L rest now1 _ wq _ vr6 vn6 vb6 from hs6); clear HS4 hs6; obtain ⟨A6, c6, e6⟩ := Kd.R_slice HS5.out.2.2.1; subst e6; obtain ⟨hc0, hc1, hc2, hc3, hc4, hc5, hfz⟩ := SeV_cells HS5.out))
          have l1 : now1.length = now.length + 1 := by rw [HN1.out, List.length_append]; rfl
          have hle := (Kd.R_reads' HS5.out.2.2.1).2.1
          have hcut : ∀ W_ : World, (Instr.slice 22 (.slice A6 now1.length c6) none (some (.int .i64 (now.length : Int))) none).run Try.prog W_ = .ok (.slice A6 now.length c6) W_ := by
            obtain ⟨i0, hi0, _, hsz0, _⟩ := info_parts info3s
            obtain ⟨h1, _, _⟩ := print_take_of (P := Try.prog) (Value.int .i64) 0 22 3 .i64 Try.underlying22 hi0 hsz0 A6 c6 now1 (now.length : Int) (Int.natCast_nonneg _) (by omega) hle
            rw [Int.toNat_natCast, List.length_take, show min now.length now1.length = now.length by omega] at h1
            exact h1
          clear l1 hle
          refine start_ (n := 20) (S := fun w' => w'.cell? ⟨g, 2, none⟩ = some (.slice A6 now1.length c6) ∧ w'.cell? ⟨g, 4, none⟩ = some (.int .i64 wq)) (ds := [16, 19]) (bA 20 0) (by kernel_rfl) rfl rfl ⟨hc2, hc4⟩ (fun hHeld => ?_)
          have HS6 := Aside0.mk (SeV_below HS5.out (below_drew (Below.refl _ _)))
          clear HS5 hc0 hc1 hc2 hc3 hc4 hc5 hfz
          generalize W5.drew = W6 at HS6 hHeld ⊢
          refine pure_ (i := 0) (N := some 120) (v := ?_) (a' := ?_) (bA 20 1) rfl rfl (by kernel_rfl) (fun _ _ _ h => h) (Or.inl ⟨by rfl, ?_⟩) ?_ ?_
          rotate_left
          · intro w'
            go_simp
            with_reducible rfl
          rotate_left
          · simp only [Act.put, List.setIfInBounds_toArray, List.set_cons_zero, List.set_cons_succ, i64_w, i32_w]
            rfl
          refine pure_ (i := 1) (N := some 121) (v := ?_) (a' := ?_) (bA 20 3) rfl rfl (by kernel_rfl) (fun _ _ _ h => h) (Or.inl ⟨by rfl, ?_⟩) ?_ ?_
          rotate_left
          · intro w'
            go_simp
            with_reducible rfl
          rotate_left
          · simp only [Act.put, List.setIfInBounds_toArray, List.set_cons_zero, List.set_cons_succ, i64_w, i32_w]
            rfl
          refine pure_ (i := 2) (N := some 122) (v := ?_) (a' := ?_) (bA 20 7) rfl rfl (by kernel_rfl) (fun _ _ _ h => h) (Or.inl ⟨by rfl, ?_⟩) ?_ ?_
          rotate_left
          · intro w'
            go_simp
            with_reducible rfl
          rotate_left
          · simp only [Act.put, List.setIfInBounds_toArray, List.set_cons_zero, List.set_cons_succ, i64_w, i32_w]
            rfl
          refine pure_ (i := 6) (N := some 126) (v := ?_) (a' := ?_) (bA 20 71) rfl rfl (by kernel_rfl) (fun _ _ _ h => h) (Or.inl ⟨by rfl, ?_⟩) ?_ ?_
          rotate_left
          · intro w'
            go_simp
            with_reducible rfl
          rotate_left
          · simp only [Act.put, List.setIfInBounds_toArray, List.set_cons_zero, List.set_cons_succ, i64_w, i32_w]
            rfl
          refine pure_ (i := 8) (N := some 128) (v := ?_) (a' := ?_) (bA 20 327) rfl rfl (by kernel_rfl) (fun _ _ _ h => h) (Or.inl ⟨by rfl, ?_⟩) ?_ ?_
          rotate_left
          · intro w'
            go_simp
            with_reducible rfl
          rotate_left
          · simp only [Act.put, List.setIfInBounds_toArray, List.set_cons_zero, List.set_cons_succ, i64_w, i32_w]
            rfl
          refine pure_ (i := 12) (N := some 132) (v := ?_) (a' := ?_) (bA 20 4423) rfl rfl (by kernel_rfl) (fun _ _ _ h => h) (Or.inl ⟨by rfl, ?_⟩) ?_ ?_
          rotate_left
          · intro w'
            go_simp
            with_reducible rfl
          rotate_left
          · simp only [Act.put, List.setIfInBounds_toArray, List.set_cons_zero, List.set_cons_succ, i64_w, i32_w]
            rfl
          refine pure_ (i := 3) (N := some 123) (v := ?_) (a' := ?_) (bA 20 4431) rfl rfl (by kernel_rfl) (fun _ _ _ h => h) (Or.inl ⟨by rfl, ?_⟩) ?_ ?_
          rotate_left
          · intro w'
            go_simp
            with_reducible rfl
          rotate_left
          · simp only [Act.put, List.setIfInBounds_toArray, List.set_cons_zero, List.set_cons_succ, i64_w, i32_w]
            rfl
          refine pure_ (i := 4) (N := some 124) (v := ?_) (a' := ?_) (bA 20 4447) rfl rfl (by kernel_rfl) (fun _ _ _ h => h) (Or.inl ⟨by rfl, ?_⟩) ?_ ?_
          rotate_left
          · intro w'
            go_simp
            with_reducible rfl
          rotate_left
          · simp only [Act.put, List.setIfInBounds_toArray, List.set_cons_zero, List.set_cons_succ, i64_w, i32_w]
            rfl
          refine pure_ (i := 9) (N := some 129) (v := ?_) (a' := ?_) (bA 20 4959) rfl rfl (by kernel_rfl) (fun _ _ _ h => h) (Or.inl ⟨by rfl, ?_⟩) ?_ ?_
          rotate_left
          · intro w'
            go_simp
            with_reducible rfl
          rotate_left
          · simp only [Act.put, List.setIfInBounds_toArray, List.set_cons_zero, List.set_cons_succ, i64_w, i32_w]
            rfl
          refine pure_ (i := 10) (N := some 130) (v := ?_) (a' := ?_) (bA 20 5983) rfl rfl (by kernel_rfl) (fun _ _ _ h => h) (Or.inl ⟨by rfl, ?_⟩) ?_ ?_
          rotate_left
          · intro w'
            go_simp
            with_reducible rfl
          rotate_left
          · simp only [Act.put, List.setIfInBounds_toArray, List.set_cons_zero, List.set_cons_succ, i64_w, i32_w]
            rfl
          refine take_ (i := 5) (N := some 125) (v := ?_) (a' := ?_) (bA 20 6015) rfl rfl (by kernel_rfl) (fun _ _ _ h => h) (Or.inl ⟨by rfl, ?_⟩) hHeld ?_ ?_
          rotate_left
          · rintro w' ⟨s0, s1⟩
            go_simp
            with_reducible rfl
          rotate_left
          · simp only [Act.put, List.setIfInBounds_toArray, List.set_cons_zero, List.set_cons_succ, i64_w, i32_w]
            rfl
          refine take_ (i := 11) (N := some 131) (v := ?_) (a' := ?_) (bA 20 8063) rfl rfl (by kernel_rfl) (fun _ _ _ h => h) (Or.inl ⟨by rfl, ?_⟩) hHeld ?_ ?_
          rotate_left
          · rintro w' ⟨s0, s1⟩
            go_simp
            with_reducible rfl
          rotate_left
          · simp only [Act.put, List.setIfInBounds_toArray, List.set_cons_zero, List.set_cons_succ, i64_w, i32_w]
            rfl
          refine pure_ (i := 7) (N := some 127) (v := ?_) (a' := ?_) (bA 20 8191) rfl rfl (by kernel_rfl) (fun _ _ _ h => h) (Or.inl ⟨by rfl, ?_⟩) ?_ ?_
          rotate_left
          · intro w'
            go_simp
            with_reducible rfl
          rotate_left
          · simp only [Act.put, List.setIfInBounds_toArray, List.set_cons_zero, List.set_cons_succ, i64_w, i32_w]
            rfl
          refine pure_ (i := 13) (N := some 133) (v := ?_) (a' := ?_) (bA 20 16383) rfl rfl (by kernel_rfl) (fun _ _ _ h => h) (Or.inl ⟨by rfl, ?_⟩) ?_ ?_
          rotate_left
          · intro w'
            go_simp
            with_reducible rfl
          rotate_left
          · simp only [Act.put, List.setIfInBounds_toArray, List.set_cons_zero, List.set_cons_succ, i64_w, i32_w]
            rfl
          refine pure_ (i := 14) (N := some 134) (v := ?_) (a' := ?_) (bA 20 32767) rfl rfl (by kernel_rfl) (fun _ _ _ h => h) (Or.inl ⟨by rfl, ?_⟩) ?_ ?_
          rotate_left
          · intro w'
            go_simp
            with_reducible rfl
          rotate_left
          · simp only [Act.put, List.setIfInBounds_toArray, List.set_cons_zero, List.set_cons_succ, i64_w, i32_w]
            rfl
          refine pure_ (i := 15) (N := some 135) (v := ?_) (a' := ?_) (bA 20 65535) rfl rfl (by kernel_rfl) (fun _ _ _ h => h) (Or.inl ⟨by rfl, ?_⟩) ?_ ?_
          rotate_left
          · intro w'
            go_simp
            with_reducible rfl
          rotate_left
          · simp only [Act.put, List.setIfInBounds_toArray, List.set_cons_zero, List.set_cons_succ, i64_w, i32_w]
            rfl
          obtain ⟨hc0, hc1, hc2, hc3, hc4, hc5, hfz⟩ := SeV_cells HS6.out
          have hf2 := hfz 2
          have hf4 := hfz 4
          clear hfz hc0 hc1 hc3 hc5
          refine last_ (i := 16) (N := none) (bA 20 131071) rfl rfl (by kernel_rfl) (by decide) (fun K hK => ?_)
          refine skip_ (w1 := ?_) (by rfl) rfl ?_ ?_
          rotate_left
          · go_simp
            rfl
          refine hK.out _ _ ?_
          clear hK K
          refine pure_ (i := 17) (N := some 136) (v := ?_) (a' := ?_) (bA 20 262143) rfl rfl (by kernel_rfl) (fun _ _ _ h => h) (Or.inl ⟨by rfl, ?_⟩) ?_ ?_
          rotate_left
          · intro w'
            go_simp
            with_reducible rfl
          rotate_left
          · simp only [Act.put, List.setIfInBounds_toArray, List.set_cons_zero, List.set_cons_succ, i64_w, i32_w]
            rfl
          refine pure_ (i := 18) (N := some 137) (v := ?_) (a' := ?_) (bA 20 524287) rfl rfl (by kernel_rfl) (fun _ _ _ h => h) (Or.inl ⟨by rfl, ?_⟩) ?_ ?_
          rotate_left
          · intro w'
            go_simp
            with_reducible rfl
          rotate_left
          · simp only [Act.put, List.setIfInBounds_toArray, List.set_cons_zero, List.set_cons_succ, i64_w, i32_w]
            rfl
          refine last_ (i := 19) (N := none) (bA 20 1048575) rfl rfl (by kernel_rfl) (by decide) (fun K hK => ?_)
          refine skip_ (w1 := ?_) (by rfl) rfl ?_ ?_
          rotate_left
          · go_simp
            rfl
          refine hK.out _ _ ?_
          clear hK K
          refine done_ (by kernel_rfl) ?_
          have HS7 := Aside0.mk (SeV_pop HS6.out (m := now.length) (by rw [HN1.out, List.length_append]; omega) worth)
          generalize ((W6.setCell ⟨g, 2, none⟩ (.slice A6 now.length c6)).setCell ⟨g, 4, none⟩ (.int .i64 worth)) = W7 at HS7 ⊢
          clear hc2 hc4 hf2 hf4 hHeld HS6 hcut
          have et : now1.take now.length = now := by rw [HN1.out, List.take_left']; rfl
          rw [et] at HS7
          clear et
          go_wp2
          go_roundg m
          case rel => exact ⟨x + 1, _, _, by first | rfl | rw [w1], ⟨by have := HI.out; omega⟩, ⟨by rw [← HF.out, loopB_yes HMay.out, ← HWQ.out, ← HN1.out]⟩, ⟨by have := HX0.out; omega⟩, ⟨SeV_Se HS7.out⟩⟩
          case measure => omega
        have ckb : decide (0 ≤ x) = true := decide_eq_true ck
        have HCK := Aside0.mk ck
        obtain ⟨ae, ee, hy0, hy1, hy2, hy3⟩ := at_T42 HG6.out x HCK.out HX1.out
        cases ee
        have p3 := eq_true HCK.out
        have q3 := eq_true HX1.out
        clear ck
        by_cases cf : fitB L now (rd_T42 (rd_T36 L (now.length : Int)).f1 x).f0.f0 (rd_T42 (rd_T36 L (now.length : Int)).f1 x).f0.f1 (rd_T42 (rd_T36 L (now.length : Int)).f1 x).f1.f0 (rd_T42 (rd_T36 L (now.length : Int)).f1 x).f1.f1 now.length 0 = true
        rotate_left
        · have HMay : Aside0 (¬ mayB L now x = true) := ⟨by rw [mayB, if_pos HCK.out]; exact cf⟩
          replace cf := Bool.eq_false_iff.mpr cf
          have HCF := Aside0.mk cf
          go_wp2_with (first | ((with_reducible refine gate_dst (N := 86) rfl ?_); refine gate_guard (by rfl) ?_; dsimp only; refine goesL_ (some 86) rfl rfl Try.func63 (by kernel_rfl) rfl #[.pointer (some ⟨g, 0, none⟩), .agg #[.int .i64 (rd_T42 (rd_T36 L (now.length : Int)).f1 x).f0.f0, .int .i64 (rd_T42 (rd_T36 L (now.length : Int)).f1 x).f0.f1, .int .i64 (rd_T42 (rd_T36 L (now.length : Int)).f1 x).f1.f0, .int .i64 (rd_T42 (rd_T36 L (now.length : Int)).f1 x).f1.f1]] rfl (by (try simp only [List.map_toArray, List.map_cons, List.map_nil]); first | done | rfl) ?_; (refine (fits_calls HSe.out HL.out (by have := Hn.out; omega) (by have := Hm.out; omega) (fun i hi => (HP.out i hi).2) _ _ _ _).mono ?_); rintro r_ W3 ⟨rfl, hb⟩; rw [cf]; refine ⟨_, rfl, ?_⟩; have HS2 := Aside0.mk (SeV_below HS1.out hb); have hz7 := (hb.cell (World.block_lt_of_cell? _ _ hx7)).trans hx7; have hz6 := (hb.cell (World.block_lt_of_cell? _ _ hx6)).trans hx6; clear HS1 HSe HLr HG6 hx6 hx7 hy0 hy1 hy2 hy3 hc0 hc1 hc2 hc3 hc4 hc5 hfz hb; have HS1 := HS2; clear HS2; obtain ⟨hc0, hc1, hc2, hc3, hc4, hc5, hfz⟩ := SeV_cells HS1.out))
          go_roundg m
          case rel => exact ⟨x + 1, _, _, by first | rfl | rw [w1], ⟨by have := HI.out; omega⟩, ⟨by rw [← HF.out, loopB_no HMay.out]⟩, ⟨by have := HX0.out; omega⟩, ⟨SeV_Se HS1.out⟩⟩
          case measure => omega
        have HMay : Aside0 (mayB L now x = true) := ⟨by rw [mayB, if_pos HCK.out]; exact cf⟩
        have HCF := Aside0.mk cf
        obtain ⟨wv, hwv⟩ : ∃ wv : Int, wv = (rd_T36 L (now.length : Int)).f2 := ⟨_, rfl⟩
        have hv0 : 0 ≤ wv := by rw [hwv]; exact HO.out.w0 now.length Hn.out
        have hv1 : wv ≤ 1000 := by rw [hwv]; exact HO.out.w1 now.length Hn.out
        rw [← hwv] at hx7
        obtain ⟨wq, hwq⟩ : ∃ wq : Int, wq = worth + wv := ⟨_, rfl⟩
        have HWQ : Aside0 (wq = worth + wgtB L (now.length : Int) x) := ⟨by rw [hwq, wgtB, if_pos HCK.out, hwv]⟩
        have HQ0 : Aside0 (0 ≤ wq) := ⟨by have := HW0.out; omega⟩
        have HQ1 : Aside0 (wq ≤ 1000 * ((now.length : Int) + 1)) := ⟨by have := HW1.out; omega⟩
        have hq : wrap64 (worth + wv) = wq := by rw [← hwq]; have h1 := HQ0.out; have h2 := HQ1.out; have h3 := Hm.out; rw [wrap64_eq] <;> omega
        have hsub : wrap64 (wq - wv) = worth := by have h1 := HQ0.out; have h2 := HQ1.out; have h3 := Hm.out; rw [wrap64_eq] <;> omega
        clear hv0 hv1 hwv hwq
        go_upto_region 12 with (first | ((with_reducible refine gate_dst (N := 86) rfl ?_); refine gate_guard (by rfl) ?_; dsimp only; refine goesL_ (some 86) rfl rfl Try.func63 (by kernel_rfl) rfl #[.pointer (some ⟨g, 0, none⟩), .agg #[.int .i64 (rd_T42 (rd_T36 L (now.length : Int)).f1 x).f0.f0, .int .i64 (rd_T42 (rd_T36 L (now.length : Int)).f1 x).f0.f1, .int .i64 (rd_T42 (rd_T36 L (now.length : Int)).f1 x).f1.f0, .int .i64 (rd_T42 (rd_T36 L (now.length : Int)).f1 x).f1.f1]] rfl (by (try simp only [List.map_toArray, List.map_cons, List.map_nil]); first | done | rfl) ?_; (refine (fits_calls HSe.out HL.out (by have := Hn.out; omega) (by have := Hm.out; omega) (fun i hi => (HP.out i hi).2) _ _ _ _).mono ?_); rintro r_ W3 ⟨rfl, hb⟩; rw [cf]; refine ⟨_, rfl, ?_⟩; have HS2 := Aside0.mk (SeV_below HS1.out hb); have hz7 := (hb.cell (World.block_lt_of_cell? _ _ hx7)).trans hx7; have hz6 := (hb.cell (World.block_lt_of_cell? _ _ hx6)).trans hx6; clear HS1 HSe HLr HG6 hx6 hx7 hy0 hy1 hy2 hy3 hc0 hc1 hc2 hc3 hc4 hc5 hfz hb; have HS1 := HS2; clear HS2; obtain ⟨hc0, hc1, hc2, hc3, hc4, hc5, hfz⟩ := SeV_cells HS1.out))
        clear hz6 hz7
        refine start_ (n := 21) (S := fun w' => w'.cell? ⟨g, 2, none⟩ = some (.slice An now.length cn) ∧ w'.cell? ⟨g, 4, none⟩ = some (.int .i64 worth)) (ds := [17, 20]) (bA 21 0) (by kernel_rfl) rfl rfl ⟨hc2, hc4⟩ (fun hHeld => ?_)
        have HS2 := Aside0.mk (SeV_below HS1.out (below_drew (Below.refl _ _)))
        clear HS1 hc0 hc1 hc2 hc3 hc4 hc5 hfz
        generalize W3.drew = W2 at HS2 hHeld ⊢
        refine pure_ (i := 0) (N := some 99) (v := ?_) (a' := ?_) (bA 21 1) rfl rfl (by kernel_rfl) (fun _ _ _ h => h) (Or.inl ⟨by rfl, ?_⟩) ?_ ?_
        rotate_left
        · intro w'
          go_simp
          with_reducible rfl
        rotate_left
        · simp only [Act.put, List.setIfInBounds_toArray, List.set_cons_zero, List.set_cons_succ, i64_w, i32_w]
          rfl
        refine pure_ (i := 1) (N := some 100) (v := ?_) (a' := ?_) (bA 21 3) rfl rfl (by kernel_rfl) (fun _ _ _ h => h) (Or.inl ⟨by rfl, ?_⟩) ?_ ?_
        rotate_left
        · intro w'
          go_simp
          with_reducible rfl
        rotate_left
        · simp only [Act.put, List.setIfInBounds_toArray, List.set_cons_zero, List.set_cons_succ, i64_w, i32_w]
          rfl
        refine pure_ (i := 2) (N := some 101) (v := ?_) (a' := ?_) (bA 21 7) rfl rfl (by kernel_rfl) (fun _ _ _ h => h) (Or.inl ⟨by rfl, ?_⟩) ?_ ?_
        rotate_left
        · intro w'
          go_simp
          with_reducible rfl
        rotate_left
        · simp only [Act.put, List.setIfInBounds_toArray, List.set_cons_zero, List.set_cons_succ, i64_w, i32_w]
          rfl
        refine pure_ (i := 6) (N := some 105) (v := ?_) (a' := ?_) (bA 21 71) rfl rfl (by kernel_rfl) (fun _ _ _ h => h) (Or.inl ⟨by rfl, ?_⟩) ?_ ?_
        rotate_left
        · intro w'
          go_simp
          with_reducible rfl
        rotate_left
        · simp only [Act.put, List.setIfInBounds_toArray, List.set_cons_zero, List.set_cons_succ, i64_w, i32_w]
          rfl
        refine pure_ (i := 9) (N := some 108) (v := ?_) (a' := ?_) (bA 21 583) rfl rfl (by kernel_rfl) (fun _ _ _ h => h) (Or.inl ⟨by rfl, ?_⟩) ?_ ?_
        rotate_left
        · intro w'
          go_simp
          with_reducible rfl
        rotate_left
        · simp only [Act.put, List.setIfInBounds_toArray, List.set_cons_zero, List.set_cons_succ, i64_w, i32_w]
          rfl
        refine pure_ (i := 13) (N := some 112) (v := ?_) (a' := ?_) (bA 21 8775) rfl rfl (by kernel_rfl) (fun _ _ _ h => h) (Or.inl ⟨by rfl, ?_⟩) ?_ ?_
        rotate_left
        · intro w'
          go_simp
          with_reducible rfl
        rotate_left
        · simp only [Act.put, List.setIfInBounds_toArray, List.set_cons_zero, List.set_cons_succ, i64_w, i32_w]
          rfl
        refine pure_ (i := 3) (N := some 102) (v := ?_) (a' := ?_) (bA 21 8783) rfl rfl (by kernel_rfl) (fun _ _ _ h => h) (Or.inl ⟨by rfl, ?_⟩) ?_ ?_
        rotate_left
        · intro w'
          go_simp
          with_reducible rfl
        rotate_left
        · simp only [Act.put, List.setIfInBounds_toArray, List.set_cons_zero, List.set_cons_succ, i64_w, i32_w]
          rfl
        refine pure_ (i := 4) (N := some 103) (v := ?_) (a' := ?_) (bA 21 8799) rfl rfl (by kernel_rfl) (fun _ _ _ h => h) (Or.inl ⟨by rfl, ?_⟩) ?_ ?_
        rotate_left
        · intro w'
          go_simp
          with_reducible rfl
        rotate_left
        · simp only [Act.put, List.setIfInBounds_toArray, List.set_cons_zero, List.set_cons_succ, i64_w, i32_w]
          rfl
        refine pure_ (i := 10) (N := some 109) (v := ?_) (a' := ?_) (bA 21 9823) rfl rfl (by kernel_rfl) (fun _ _ _ h => h) (Or.inl ⟨by rfl, ?_⟩) ?_ ?_
        rotate_left
        · intro w'
          go_simp
          with_reducible rfl
        rotate_left
        · simp only [Act.put, List.setIfInBounds_toArray, List.set_cons_zero, List.set_cons_succ, i64_w, i32_w]
          rfl
        refine pure_ (i := 11) (N := some 110) (v := ?_) (a' := ?_) (bA 21 11871) rfl rfl (by kernel_rfl) (fun _ _ _ h => h) (Or.inl ⟨by rfl, ?_⟩) ?_ ?_
        rotate_left
        · intro w'
          go_simp
          with_reducible rfl
        rotate_left
        · simp only [Act.put, List.setIfInBounds_toArray, List.set_cons_zero, List.set_cons_succ, i64_w, i32_w]
          rfl
        refine take_ (i := 5) (N := some 104) (v := ?_) (a' := ?_) (bA 21 11903) rfl rfl (by kernel_rfl) (fun _ _ _ h => h) (Or.inl ⟨by rfl, ?_⟩) hHeld ?_ ?_
        rotate_left
        · rintro w' ⟨s0, s1⟩
          go_simp
          with_reducible rfl
        rotate_left
        · simp only [Act.put, List.setIfInBounds_toArray, List.set_cons_zero, List.set_cons_succ, i64_w, i32_w]
          rfl
        refine take_ (i := 12) (N := some 111) (v := ?_) (a' := ?_) (bA 21 15999) rfl rfl (by kernel_rfl) (fun _ _ _ h => h) (Or.inl ⟨by rfl, ?_⟩) hHeld ?_ ?_
        rotate_left
        · rintro w' ⟨s0, s1⟩
          go_simp
          with_reducible rfl
        rotate_left
        · simp only [Act.put, List.setIfInBounds_toArray, List.set_cons_zero, List.set_cons_succ, i64_w, i32_w]
          rfl
        refine pure_ (i := 14) (N := some 113) (v := ?_) (a' := ?_) (bA 21 32383) rfl rfl (by kernel_rfl) (fun _ _ _ h => h) (Or.inl ⟨by rfl, ?_⟩) ?_ ?_
        rotate_left
        · intro w'
          go_simp
          with_reducible rfl
        rotate_left
        · simp only [Act.put, List.setIfInBounds_toArray, List.set_cons_zero, List.set_cons_succ, i64_w, i32_w]
          rfl
        refine one_ (i := 7) (N := some 106) (bA 21 32511) rfl rfl (by kernel_rfl) (by decide) (fun K hK => ?_)
        refine value_ (v := ?_) (w1 := W2.alloc (.cells #[.int .i64 x] 3)) (by rfl) rfl ?_ ?_
        rotate_left
        · go_simp
          rfl
        obtain ⟨hc0, hc1, hc2, hc3, hc4, hc5, hfz⟩ := SeV_cells (SeV_below HS2.out (below_alloc (Below.refl _ _) (.cells #[.int .i64 x] 3)))
        clear hHeld
        refine hK.out _ _ ⟨hc2, hc4⟩ (fun hHeld => ?_)
        clear hK K
        refine norm_ (a' := ?_) ?_ ?_
        rotate_left
        · show Act.put _ (some 106) _ = _
          simp only [Act.put, List.setIfInBounds_toArray, List.set_cons_zero, List.set_cons_succ, i64_w, i32_w]
          rfl
        refine one_ (i := 8) (N := some 107) (bA 21 32767) rfl rfl (by kernel_rfl) (by decide) (fun K hK => ?_)
        refine Kd.R_append_step (Kd.int .i64) (w0 := w) w.heap.size (by rfl) (.tmp 104) (.tmp 106) 22 3 (.int .i64 0) 8 rfl Try.underlying22 info3s rfl (by decide) (by omega) (.slice An now.length cn) now x [.int .i64 x] (fun _ => True) (fun _ => False) rfl rfl ?aP (fun _ hk => hk.elim) (fun _ _ => trivial) ?aO ?aB ?aS ?aL ?_
        case aP => exact rfl
        case aO => exact HS2.out.2.2.1
        case aB => exact HS2.out.2.2.2.2.2
        case aS => exact HS2.out.2.2.2.2.2.size
        case aL => have := Hm.out; omega
        intro v1 W3 ho hb hg hat
        obtain ⟨now1, hn1⟩ : ∃ n_, n_ = now ++ [x] := ⟨_, rfl⟩
        rw [← hn1] at ho
        obtain ⟨A1, c1, ev⟩ := Kd.R_slice ho
        subst ev
        have HN1 := Aside0.mk hn1
        clear hn1
        have HS3 := Aside0.mk (SeV_push HS2.out hb hg hat ho wq)
        have b3 := blk_grown HS2.out.1 hg (Kd.R_ne HS2.out.2.2.1 HS2.out.1 (by decide))
        clear hc0 hc1 hc2 hc3 hc4 hc5 hfz
        have hc2 : W3.cell? ⟨g, 2, none⟩ = some (.slice An now.length cn) := (blk_cell b3 2).trans rfl
        have hc4 : W3.cell? ⟨g, 4, none⟩ = some (.int .i64 worth) := (blk_cell b3 4).trans rfl
        have hf2 := blk_frozen b3 2
        have hf4 := blk_frozen b3 4
        clear b3 ho hb hg hat HS2 hHeld
        refine hK.out _ _ ⟨hc2, hc4⟩ (fun hHeld => ?_)
        clear hK K
        refine norm_ (a' := ?_) ?_ ?_
        rotate_left
        · show Act.put _ (some 107) _ = _
          simp only [Act.put, List.setIfInBounds_toArray, List.set_cons_zero, List.set_cons_succ, i64_w, i32_w]
          rfl
        refine pure_ (i := 15) (N := some 114) (v := ?_) (a' := ?_) (bA 21 65535) rfl rfl (by kernel_rfl) (fun _ _ _ h => h) (Or.inl ⟨by rfl, ?_⟩) ?_ ?_
        rotate_left
        · intro w'
          go_simp
          with_reducible rfl
        rotate_left
        · simp only [Act.put, List.setIfInBounds_toArray, List.set_cons_zero, List.set_cons_succ, i64_w, i32_w]
          rfl
        refine pure_ (i := 16) (N := some 115) (v := ?_) (a' := ?_) (bA 21 131071) rfl rfl (by kernel_rfl) (fun _ _ _ h => h) (Or.inl ⟨by rfl, ?_⟩) ?_ ?_
        rotate_left
        · intro w'
          go_simp
          with_reducible rfl
        rotate_left
        · simp only [Act.put, List.setIfInBounds_toArray, List.set_cons_zero, List.set_cons_succ, i64_w, i32_w]
          rfl
        refine last_ (i := 17) (N := none) (bA 21 262143) rfl rfl (by kernel_rfl) (by decide) (fun K hK => ?_)
        refine skip_ (w1 := ?_) (by rfl) rfl ?_ ?_
        rotate_left
        · go_simp
          rfl
        refine hK.out _ _ ?_
        clear hK K
        refine pure_ (i := 18) (N := some 116) (v := ?_) (a' := ?_) (bA 21 524287) rfl rfl (by kernel_rfl) (fun _ _ _ h => h) (Or.inl ⟨by rfl, ?_⟩) ?_ ?_
        rotate_left
        · intro w'
          go_simp
          with_reducible rfl
        rotate_left
        · simp only [Act.put, List.setIfInBounds_toArray, List.set_cons_zero, List.set_cons_succ, i64_w, i32_w]
          rfl
        refine pure_ (i := 19) (N := some 117) (v := ?_) (a' := ?_) (bA 21 1048575) rfl rfl (by kernel_rfl) (fun _ _ _ h => h) (Or.inl ⟨by rfl, ?_⟩) ?_ ?_
        rotate_left
        · intro w'
          go_simp
          with_reducible rfl
        rotate_left
        · simp only [Act.put, List.setIfInBounds_toArray, List.set_cons_zero, List.set_cons_succ, i64_w, i32_w]
          rfl
        refine last_ (i := 20) (N := none) (bA 21 2097151) rfl rfl (by kernel_rfl) (by decide) (fun K hK => ?_)
        refine skip_ (w1 := ?_) (by rfl) rfl ?_ ?_
        rotate_left
        · go_simp
          rfl
        refine hK.out _ _ ?_
        clear hK K
        refine done_ (by kernel_rfl) ?_
        generalize ((W3.setCell ⟨g, 2, none⟩ (.slice A1 now1.length c1)).setCell ⟨g, 4, none⟩ (.int .i64 wq)) = W4 at HS3 ⊢
        clear hc2 hc4 hf2 hf4 hHeld
        go_upto_region 14 with (first | ((with_reducible refine gate_callee (f := 54) rfl ?_); refine goesL_ (some 119) rfl rfl Try.func54 (by kernel_rfl) rfl #[.pointer (some ⟨g, 0, none⟩)] rfl (by (try simp only [List.map_toArray, List.map_cons, List.map_nil]); first | done | rfl) ?_; (refine (IH.out now1 best1 wq top1 W4 (by rw [HN1.out, List.length_append]; have := HD.out; simp; omega) (SeV_Se HS3.out) (by rw [HN1.out]; exact picks_snoc HP.out HX0.out HX1.out) HQ0.out (by rw [HN1.out, List.length_append]; have := HQ1.out; simp; omega)).mono ?_); rintro r_ W5 ⟨rfl, q1⟩; refine ⟨_, rfl, ?_⟩; have HS4 := Aside0.mk q1; clear HS3 q1; obtain ⟨vr6, vn6, vb6, hs6⟩ := HS4.out; have HS5 := Aside0.mk (show SeV w W5 g (some ad) c L rest now1 _ wq _ vr6 vn6 vb6 from hs6); clear HS4 hs6; obtain ⟨A6, c6, e6⟩ := Kd.R_slice HS5.out.2.2.1; subst e6; obtain ⟨hc0, hc1, hc2, hc3, hc4, hc5, hfz⟩ := SeV_cells HS5.out))
        have l1 : now1.length = now.length + 1 := by rw [HN1.out, List.length_append]; rfl
        have hle := (Kd.R_reads' HS5.out.2.2.1).2.1
        have hcut : ∀ W_ : World, (Instr.slice 22 (.slice A6 now1.length c6) none (some (.int .i64 (now.length : Int))) none).run Try.prog W_ = .ok (.slice A6 now.length c6) W_ := by
          obtain ⟨i0, hi0, _, hsz0, _⟩ := info_parts info3s
          obtain ⟨h1, _, _⟩ := print_take_of (P := Try.prog) (Value.int .i64) 0 22 3 .i64 Try.underlying22 hi0 hsz0 A6 c6 now1 (now.length : Int) (Int.natCast_nonneg _) (by omega) hle
          rw [Int.toNat_natCast, List.length_take, show min now.length now1.length = now.length by omega] at h1
          exact h1
        clear l1 hle
        refine start_ (n := 20) (S := fun w' => w'.cell? ⟨g, 2, none⟩ = some (.slice A6 now1.length c6) ∧ w'.cell? ⟨g, 4, none⟩ = some (.int .i64 wq)) (ds := [16, 19]) (bA 20 0) (by kernel_rfl) rfl rfl ⟨hc2, hc4⟩ (fun hHeld => ?_)
        have HS6 := Aside0.mk (SeV_below HS5.out (below_drew (Below.refl _ _)))
        clear HS5 hc0 hc1 hc2 hc3 hc4 hc5 hfz
        generalize W5.drew = W6 at HS6 hHeld ⊢
        refine pure_ (i := 0) (N := some 120) (v := ?_) (a' := ?_) (bA 20 1) rfl rfl (by kernel_rfl) (fun _ _ _ h => h) (Or.inl ⟨by rfl, ?_⟩) ?_ ?_
        rotate_left
        · intro w'
          go_simp
          with_reducible rfl
        rotate_left
        · simp only [Act.put, List.setIfInBounds_toArray, List.set_cons_zero, List.set_cons_succ, i64_w, i32_w]
          rfl
        refine pure_ (i := 1) (N := some 121) (v := ?_) (a' := ?_) (bA 20 3) rfl rfl (by kernel_rfl) (fun _ _ _ h => h) (Or.inl ⟨by rfl, ?_⟩) ?_ ?_
        rotate_left
        · intro w'
          go_simp
          with_reducible rfl
        rotate_left
        · simp only [Act.put, List.setIfInBounds_toArray, List.set_cons_zero, List.set_cons_succ, i64_w, i32_w]
          rfl
        refine pure_ (i := 2) (N := some 122) (v := ?_) (a' := ?_) (bA 20 7) rfl rfl (by kernel_rfl) (fun _ _ _ h => h) (Or.inl ⟨by rfl, ?_⟩) ?_ ?_
        rotate_left
        · intro w'
          go_simp
          with_reducible rfl
        rotate_left
        · simp only [Act.put, List.setIfInBounds_toArray, List.set_cons_zero, List.set_cons_succ, i64_w, i32_w]
          rfl
        refine pure_ (i := 6) (N := some 126) (v := ?_) (a' := ?_) (bA 20 71) rfl rfl (by kernel_rfl) (fun _ _ _ h => h) (Or.inl ⟨by rfl, ?_⟩) ?_ ?_
        rotate_left
        · intro w'
          go_simp
          with_reducible rfl
        rotate_left
        · simp only [Act.put, List.setIfInBounds_toArray, List.set_cons_zero, List.set_cons_succ, i64_w, i32_w]
          rfl
        refine pure_ (i := 8) (N := some 128) (v := ?_) (a' := ?_) (bA 20 327) rfl rfl (by kernel_rfl) (fun _ _ _ h => h) (Or.inl ⟨by rfl, ?_⟩) ?_ ?_
        rotate_left
        · intro w'
          go_simp
          with_reducible rfl
        rotate_left
        · simp only [Act.put, List.setIfInBounds_toArray, List.set_cons_zero, List.set_cons_succ, i64_w, i32_w]
          rfl
        refine pure_ (i := 12) (N := some 132) (v := ?_) (a' := ?_) (bA 20 4423) rfl rfl (by kernel_rfl) (fun _ _ _ h => h) (Or.inl ⟨by rfl, ?_⟩) ?_ ?_
        rotate_left
        · intro w'
          go_simp
          with_reducible rfl
        rotate_left
        · simp only [Act.put, List.setIfInBounds_toArray, List.set_cons_zero, List.set_cons_succ, i64_w, i32_w]
          rfl
        refine pure_ (i := 3) (N := some 123) (v := ?_) (a' := ?_) (bA 20 4431) rfl rfl (by kernel_rfl) (fun _ _ _ h => h) (Or.inl ⟨by rfl, ?_⟩) ?_ ?_
        rotate_left
        · intro w'
          go_simp
          with_reducible rfl
        rotate_left
        · simp only [Act.put, List.setIfInBounds_toArray, List.set_cons_zero, List.set_cons_succ, i64_w, i32_w]
          rfl
        refine pure_ (i := 4) (N := some 124) (v := ?_) (a' := ?_) (bA 20 4447) rfl rfl (by kernel_rfl) (fun _ _ _ h => h) (Or.inl ⟨by rfl, ?_⟩) ?_ ?_
        rotate_left
        · intro w'
          go_simp
          with_reducible rfl
        rotate_left
        · simp only [Act.put, List.setIfInBounds_toArray, List.set_cons_zero, List.set_cons_succ, i64_w, i32_w]
          rfl
        refine pure_ (i := 9) (N := some 129) (v := ?_) (a' := ?_) (bA 20 4959) rfl rfl (by kernel_rfl) (fun _ _ _ h => h) (Or.inl ⟨by rfl, ?_⟩) ?_ ?_
        rotate_left
        · intro w'
          go_simp
          with_reducible rfl
        rotate_left
        · simp only [Act.put, List.setIfInBounds_toArray, List.set_cons_zero, List.set_cons_succ, i64_w, i32_w]
          rfl
        refine pure_ (i := 10) (N := some 130) (v := ?_) (a' := ?_) (bA 20 5983) rfl rfl (by kernel_rfl) (fun _ _ _ h => h) (Or.inl ⟨by rfl, ?_⟩) ?_ ?_
        rotate_left
        · intro w'
          go_simp
          with_reducible rfl
        rotate_left
        · simp only [Act.put, List.setIfInBounds_toArray, List.set_cons_zero, List.set_cons_succ, i64_w, i32_w]
          rfl
        refine take_ (i := 5) (N := some 125) (v := ?_) (a' := ?_) (bA 20 6015) rfl rfl (by kernel_rfl) (fun _ _ _ h => h) (Or.inl ⟨by rfl, ?_⟩) hHeld ?_ ?_
        rotate_left
        · rintro w' ⟨s0, s1⟩
          go_simp
          with_reducible rfl
        rotate_left
        · simp only [Act.put, List.setIfInBounds_toArray, List.set_cons_zero, List.set_cons_succ, i64_w, i32_w]
          rfl
        refine take_ (i := 11) (N := some 131) (v := ?_) (a' := ?_) (bA 20 8063) rfl rfl (by kernel_rfl) (fun _ _ _ h => h) (Or.inl ⟨by rfl, ?_⟩) hHeld ?_ ?_
        rotate_left
        · rintro w' ⟨s0, s1⟩
          go_simp
          with_reducible rfl
        rotate_left
        · simp only [Act.put, List.setIfInBounds_toArray, List.set_cons_zero, List.set_cons_succ, i64_w, i32_w]
          rfl
        refine pure_ (i := 7) (N := some 127) (v := ?_) (a' := ?_) (bA 20 8191) rfl rfl (by kernel_rfl) (fun _ _ _ h => h) (Or.inl ⟨by rfl, ?_⟩) ?_ ?_
        rotate_left
        · intro w'
          go_simp
          with_reducible rfl
        rotate_left
        · simp only [Act.put, List.setIfInBounds_toArray, List.set_cons_zero, List.set_cons_succ, i64_w, i32_w]
          rfl
        refine pure_ (i := 13) (N := some 133) (v := ?_) (a' := ?_) (bA 20 16383) rfl rfl (by kernel_rfl) (fun _ _ _ h => h) (Or.inl ⟨by rfl, ?_⟩) ?_ ?_
        rotate_left
        · intro w'
          go_simp
          with_reducible rfl
        rotate_left
        · simp only [Act.put, List.setIfInBounds_toArray, List.set_cons_zero, List.set_cons_succ, i64_w, i32_w]
          rfl
        refine pure_ (i := 14) (N := some 134) (v := ?_) (a' := ?_) (bA 20 32767) rfl rfl (by kernel_rfl) (fun _ _ _ h => h) (Or.inl ⟨by rfl, ?_⟩) ?_ ?_
        rotate_left
        · intro w'
          go_simp
          with_reducible rfl
        rotate_left
        · simp only [Act.put, List.setIfInBounds_toArray, List.set_cons_zero, List.set_cons_succ, i64_w, i32_w]
          rfl
        refine pure_ (i := 15) (N := some 135) (v := ?_) (a' := ?_) (bA 20 65535) rfl rfl (by kernel_rfl) (fun _ _ _ h => h) (Or.inl ⟨by rfl, ?_⟩) ?_ ?_
        rotate_left
        · intro w'
          go_simp
          with_reducible rfl
        rotate_left
        · simp only [Act.put, List.setIfInBounds_toArray, List.set_cons_zero, List.set_cons_succ, i64_w, i32_w]
          rfl
        obtain ⟨hc0, hc1, hc2, hc3, hc4, hc5, hfz⟩ := SeV_cells HS6.out
        have hf2 := hfz 2
        have hf4 := hfz 4
        clear hfz hc0 hc1 hc3 hc5
        refine last_ (i := 16) (N := none) (bA 20 131071) rfl rfl (by kernel_rfl) (by decide) (fun K hK => ?_)
        refine skip_ (w1 := ?_) (by rfl) rfl ?_ ?_
        rotate_left
        · go_simp
          rfl
        refine hK.out _ _ ?_
        clear hK K
        refine pure_ (i := 17) (N := some 136) (v := ?_) (a' := ?_) (bA 20 262143) rfl rfl (by kernel_rfl) (fun _ _ _ h => h) (Or.inl ⟨by rfl, ?_⟩) ?_ ?_
        rotate_left
        · intro w'
          go_simp
          with_reducible rfl
        rotate_left
        · simp only [Act.put, List.setIfInBounds_toArray, List.set_cons_zero, List.set_cons_succ, i64_w, i32_w]
          rfl
        refine pure_ (i := 18) (N := some 137) (v := ?_) (a' := ?_) (bA 20 524287) rfl rfl (by kernel_rfl) (fun _ _ _ h => h) (Or.inl ⟨by rfl, ?_⟩) ?_ ?_
        rotate_left
        · intro w'
          go_simp
          with_reducible rfl
        rotate_left
        · simp only [Act.put, List.setIfInBounds_toArray, List.set_cons_zero, List.set_cons_succ, i64_w, i32_w]
          rfl
        refine last_ (i := 19) (N := none) (bA 20 1048575) rfl rfl (by kernel_rfl) (by decide) (fun K hK => ?_)
        refine skip_ (w1 := ?_) (by rfl) rfl ?_ ?_
        rotate_left
        · go_simp
          rfl
        refine hK.out _ _ ?_
        clear hK K
        refine done_ (by kernel_rfl) ?_
        have HS7 := Aside0.mk (SeV_pop HS6.out (m := now.length) (by rw [HN1.out, List.length_append]; omega) worth)
        generalize ((W6.setCell ⟨g, 2, none⟩ (.slice A6 now.length c6)).setCell ⟨g, 4, none⟩ (.int .i64 worth)) = W7 at HS7 ⊢
        clear hc2 hc4 hf2 hf4 hHeld HS6 hcut
        have et : now1.take now.length = now := by rw [HN1.out, List.take_left']; rfl
        rw [et] at HS7
        clear et
        go_wp2
        go_roundg m
        case rel => exact ⟨x + 1, _, _, by first | rfl | rw [w1], ⟨by have := HI.out; omega⟩, ⟨by rw [← HF.out, loopB_yes HMay.out, ← HWQ.out, ← HN1.out]⟩, ⟨by have := HX0.out; omega⟩, ⟨SeV_Se HS7.out⟩⟩
        case measure => omega
end Go.Proofs.Ytdmhnjpblpfbfaa.Q
