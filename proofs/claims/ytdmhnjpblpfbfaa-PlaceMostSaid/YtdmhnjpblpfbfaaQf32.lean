/- place.Greedy: one label after the other, each in the first box that is free; and slices.IndexFunc with the search's fits. Condition: its twin gives an answer. -/
import Derived.Test.YtdmhnjpblpfbfaaQf17
namespace Go.Proofs.Ytdmhnjpblpfbfaa.Q
open Go.RowKit Go.Proofs.YtdmhnjpblpfbfaaW.PrintWords Go.Proofs.YtdmhnjpblpfbfaaW.PrintLast Go.Proofs.YtdmhnjpblpfbfaaW.PrintMore
attribute [local go_sem] max2_int min2_int max_two min_two max_three min_three max_four min_four
set_option linter.unusedVariables false
set_option linter.unusedSimpArgs false
section
variable {P : Program} {ops : Array Oper} {Q : Exit → Act → World → Prop}
/-- A call of a function value with its receiver bound. -/
theorem goesLP_ {rest : List Oper} {oi : Oper} {a : Act} {w : World} (N : Option Tmp) (hd : oi.dst = N) (hg : oi.guard = none) {o : Operand} {f : FuncId} {fn : Func} {ao : Array Operand} {fv : Array Value} {ts : Array TypeId} (hf : P.funcs[f]? = some fn) (hname : (fn.name == "runtime.NumGoroutine") = false) (hb : fn.body.isSome = true) (args : Array Value)
    (hop : oi.op = .call { callee := .value o, args := ao, argTypes := ts }) (ho : a.eval o = Value.func (Fn.func f) fv #[]) (hargs : fv ++ ao.map a.eval = args)
    (h : Calls P f args w fun e w' => ∃ v, e = .returned v ∧ wpList P ops Q rest (a.put N v) w') : wpList P ops Q (oi :: rest) a w := by
  refine wpList_plain hg fun K hK => ?_
  have he := enters_ hf hname hb args w
  have hrun : (execOp a.eval oi).run P w = .ok (.enter f args) w := by
    unfold execOp
    simp [hop, resolve, Deferred.ofValue, invoke, ho, hargs, he]
  unfold Oper.wp
  rw [hrun, Oper.upon_enter]
  refine h.mono fun e w'' hh => ?_
  obtain ⟨v, rfl, hk⟩ := hh
  subst hd
  exact hK _ _ hk
end
/-- The first box (from the i-th on, d of them) that is free; -1: none. -/
def idxB (L : List S36) (now : List Int) (B : List S42) : Nat → Nat → Int
  | 0, _ => -1
  | d + 1, i => if fitB L now (rd_T42 B (i : Int)).f0.f0 (rd_T42 B (i : Int)).f0.f1 (rd_T42 B (i : Int)).f1.f0 (rd_T42 B (i : Int)).f1.f1 now.length 0 = true then (i : Int) else idxB L now B d (i + 1)
theorem idxB_bd (L : List S36) (now : List Int) (B : List S42) : ∀ d i, -1 ≤ idxB L now B d i ∧ idxB L now B d i < ((i + d : Nat) : Int)
  | 0, i => by rw [idxB]; omega
  | d + 1, i => by
    have := idxB_bd L now B d (i + 1)
    rw [idxB]
    split <;> omega
set_option maxHeartbeats 8000000 in
set_option maxRecDepth 100000 in
theorem index_calls {w W : World} {g c : Nat} {A : Option Addr} {L : List S36} {rest now best : List Int} {worth top : Int} (h : Se w W g A c L rest now best worth top) (hL : Kd.C k36 w A L.length L) (hn : now.length ≤ L.length) (hm : now.length ≤ 1000000)
    (hk : ∀ i, i < now.length → rd now (i : Int) < ((rd_T36 L (i : Int)).f1.length : Int)) {B : List S42} {AB : Option Addr} {cB : Nat} (hB : Kd.C k42 W AB B.length B) (hBl : B.length ≤ 1000000) :
    Calls Try.prog 62 #[.slice AB B.length cB, .func (.func 63) #[.pointer (some ⟨g, 0, none⟩)] #[]] W fun r W' => r = .returned (.int .i64 (idxB L now B B.length 0)) ∧ Below W.heap.size W W' := by
  have HSe := Aside0.mk h
  have HL := Aside0.mk hL
  have Hn := Aside0.mk hn
  have Hm := Aside0.mk hm
  have HK := Aside0.mk hk
  have HB := Aside0.mk hB
  have Hl := Aside0.mk hBl
  have HW := Aside0.mk (Below.refl W.heap.size W)
  clear h hL hn hm hk hB hBl
  go_enter Try.func62, Try.ntmps62
  go_wp2
  go_loopg [8] B.length (fun kq v8 w' => ∃ (x : Int) (i : Nat), v8 = .int .i64 x ∧ Aside0 (x = (i : Int)) ∧ Aside0 (i + kq = B.length) ∧ Aside0 (idxB L now B kq i = idxB L now B B.length 0) ∧ Aside0 (Below W.heap.size W w'))
  case atStart => exact ⟨0, 0, rfl, ⟨rfl⟩, ⟨Nat.zero_add _⟩, ⟨rfl⟩, HW⟩
  case round =>
    clear HW
    obtain ⟨x, i, rfl, HX, HI, HF, HW⟩ := hrel
    cases gk with
    | zero =>
      have hi : decide (x < (B.length : Int)) = false := decide_eq_false (by have := HI.out; have := HX.out; omega)
      go_wp2
      go_ret
      exact ⟨by have hF := HF.out; rw [idxB] at hF; rw [← hF]; rfl, HW.out⟩
    | succ m =>
      have hi : decide (x < (B.length : Int)) = true := decide_eq_true (by have := HI.out; have := HX.out; omega)
      have p1 : 0 ≤ x := by have := HX.out; omega
      have q1 : x < (B.length : Int) := by have := HX.out; have := HI.out; omega
      obtain ⟨ab, eb, hy0, hy1, hy2, hy3⟩ := at_T42 (Kd.C_below HB.out HW.out) x p1 q1
      cases eb
      have w1 : wrap64 (x + 1) = x + 1 := by have := Hl.out; rw [wrap64_eq] <;> omega
      replace p1 := eq_true p1
      replace q1 := eq_true q1
      have HE : Aside0 (idxB L now B (m + 1) i = if fitB L now (rd_T42 B x).f0.f0 (rd_T42 B x).f0.f1 (rd_T42 B x).f1.f0 (rd_T42 B x).f1.f1 now.length 0 = true then x else idxB L now B m (i + 1)) := ⟨by rw [idxB, HX.out]⟩
      by_cases cf : fitB L now (rd_T42 B x).f0.f0 (rd_T42 B x).f0.f1 (rd_T42 B x).f1.f0 (rd_T42 B x).f1.f1 now.length 0 = true
      · have HCF := Aside0.mk cf
        go_wp2_with (first | ((with_reducible refine gate_dst (N := 16) rfl ?_); refine goesLP_ (some 16) rfl rfl Try.func63 (by kernel_rfl) rfl #[.pointer (some ⟨g, 0, none⟩), .agg #[.int .i64 (rd_T42 B x).f0.f0, .int .i64 (rd_T42 B x).f0.f1, .int .i64 (rd_T42 B x).f1.f0, .int .i64 (rd_T42 B x).f1.f1]] rfl rfl (by simp only [List.map_toArray, List.map_cons, List.map_nil, List.append_toArray, List.cons_append, List.nil_append]; rfl) ?_; (refine (fits_calls (Se_below HSe.out HW.out) HL.out Hn.out Hm.out HK.out _ _ _ _).mono ?_); rintro r_ W3 ⟨rfl, hb⟩; rw [cf]; refine ⟨_, rfl, ?_⟩; replace HW := Aside0.mk (below_step HW.out hb)))
        go_ret
        exact ⟨by (try rw [← HF.out, HE.out, if_pos HCF.out]); rfl, HW.out⟩
      have HCF := Aside0.mk cf
      replace cf := Bool.eq_false_iff.mpr cf
      go_wp2_with (first | ((with_reducible refine gate_dst (N := 16) rfl ?_); refine goesLP_ (some 16) rfl rfl Try.func63 (by kernel_rfl) rfl #[.pointer (some ⟨g, 0, none⟩), .agg #[.int .i64 (rd_T42 B x).f0.f0, .int .i64 (rd_T42 B x).f0.f1, .int .i64 (rd_T42 B x).f1.f0, .int .i64 (rd_T42 B x).f1.f1]] rfl rfl (by simp only [List.map_toArray, List.map_cons, List.map_nil, List.append_toArray, List.cons_append, List.nil_append]; rfl) ?_; (refine (fits_calls (Se_below HSe.out HW.out) HL.out Hn.out Hm.out HK.out _ _ _ _).mono ?_); rintro r_ W3 ⟨rfl, hb⟩; rw [cf]; refine ⟨_, rfl, ?_⟩; replace HW := Aside0.mk (below_step HW.out hb)))
      go_roundg m
      case rel => exact ⟨x + 1, i + 1, by first | rfl | rw [w1], ⟨by have := HX.out; omega⟩, ⟨by have := HI.out; omega⟩, ⟨by rw [← HF.out, HE.out, if_neg HCF.out]⟩, HW⟩
      case measure => omega
section
variable {w W W' : World} {g c : Nat} {A : Option Addr} {L : List S36} {rest now best : List Int} {worth top : Int} {vr vn vb : Value}
theorem SeV_app {v1 : Value} {now' : List Int} (h : SeV w W g A c L rest now best worth top vr vn vb) (hB : Below w.heap.size w W') (hg : W.grownBy W' vn.ownBlock) (hat : v1.ownBlock = vn.ownBlock ∨ ∃ b, v1.ownBlock = some b ∧ W.heap.size ≤ b)
    (ho : Kd.R (Kd.int .i64) 3 W' w.heap.size (fun _ => True) v1 now') : SeV w (W'.setCell ⟨g, 2, none⟩ v1) g A c L rest now' best worth top vr v1 vb := by
  obtain ⟨h1, h2, h3, h4, h5, h6⟩ := h
  have b0 := blk_grown h1 hg (Kd.R_ne h3 h1 (by decide))
  have r2 := Kd.R_mono (Kd.R_after (ok := fun _ => True) (Kd.R_mono h2 (fun _ hk => ⟨trivial, hk⟩)) hg hat) (fun _ hk => hk.2)
  have r4 := Kd.R_mono (Kd.R_after (ok := fun _ => True) (Kd.R_mono h4 (fun _ hk => ⟨trivial, hk⟩)) hg hat) (fun _ hk => hk.2)
  have b1 := blk_put (cs' := #[.slice A L.length c, vr, v1, vb, .int .i64 worth, .int .i64 top]) b0 2 v1 rfl
  exact ⟨b1, Kd.R_set r2 b0 (by decide) _ _, Kd.R_set ho b0 (by decide) _ _, Kd.R_set r4 b0 (by decide) _ _, h5, hB.setCell h5 _⟩
theorem SeV_worth (h : SeV w W g A c L rest now best worth top vr vn vb) (x : Int) : SeV w (W.setCell ⟨g, 4, none⟩ (.int .i64 x)) g A c L rest now best x top vr vn vb := by
  obtain ⟨h1, h2, h3, h4, h5, h6⟩ := h
  exact ⟨blk_put (cs' := #[.slice A L.length c, vr, vn, vb, .int .i64 x, .int .i64 top]) h1 4 (.int .i64 x) rfl, Kd.R_set h2 h1 (by decide) _ _, Kd.R_set h3 h1 (by decide) _ _, Kd.R_set h4 h1 (by decide) _ _, h5, h6.setCell h5 _⟩
end
/-- The pick of the label behind now. -/
def pickB (L : List S36) (now : List Int) : Int := idxB L now (rd_T36 L (now.length : Int)).f1 (rd_T36 L (now.length : Int)).f1.length 0
/-- The picks of d labels more. -/
def grd (L : List S36) : Nat → List Int → Int → List Int × Int
  | 0, now, worth => (now, worth)
  | d + 1, now, worth => grd L d (now ++ [pickB L now]) (worth + wgtB L (now.length : Int) (pickB L now))
theorem greedy_wrap {L : List S36} {now : List Int} {x worth : Int} (h : Chk L) (hx : x = (now.length : Int)) (hn : now.length < L.length) (h0 : 0 ≤ worth) (h1 : worth ≤ 1000 * (now.length : Int)) : wrap64 (worth + (rd_T36 L x).f2) = worth + (rd_T36 L x).f2 := by
  have h2 := h.w0 _ hn
  have h3 := h.w1 _ hn
  have h4 := h.many
  rw [← hx] at h2 h3
  rw [wrap64_eq] <;> omega
/-! ### place_Greedy: function 32 -/
def place_Greedy.f (k : Nat) (l0 : List (S36)) : Option (List Int × Int × Int) := (place_Check.f k l0).bind fun t => if t = 0 then some ((grd l0 l0.length [] 0).1, (grd l0 l0.length [] 0).2, 0) else some ([], 0, t)
theorem place_Greedy.mono : ∀ a0 k, LeO (place_Greedy.f k a0) (place_Greedy.f (k + 1) a0) := by
  intro a0 k
  unfold place_Greedy.f
  exact LeO.bind (place_Check.mono _ _) (fun _ => LeO.refl _)
set_option maxHeartbeats 8000000 in
set_option maxRecDepth 100000 in
theorem place_Greedy.calls (k : Nat) (A0 : Option Addr) (c0 : Nat) (l0 : List (S36)) (r1 : List Int) (r2 : Int) (r3 : Int) (w : World) (hr0 : Kd.C k36 w A0 l0.length l0) (hc0 : l0.length ≤ c0) (h : place_Greedy.f k l0 = some (r1, r2, r3)) :
    Calls Try.prog 32 #[.slice A0 l0.length c0] w fun e w' => ∃ v0_ : Value, e = .returned (.tuple #[v0_, .int .i64 r2, .int .i64 r3]) ∧ Kd.R (Kd.int .i64) 3 w' w.heap.size (fun _ => True) v0_ r1 ∧ Below w.heap.size w w' := by
  have HR0 := Aside0.mk hr0
  have HC0 := Aside0.mk hc0
  clear hr0 hc0
  have HB := Aside0.mk (Below.refl w.heap.size w)
  have H : ((place_Check.f k l0).bind fun t => if t = 0 then some ((grd l0 l0.length [] 0).1, (grd l0 l0.length [] 0).2, 0) else some ([], 0, t)) = some (r1, r2, r3) := h
  clear h
  obtain ⟨t, A20, H⟩ := Option.bind_eq_some_iff.mp H
  have A2 := Aside0.mk A20
  by_cases ct : t = 0
  rotate_left
  · rw [if_neg ct, Option.some.injEq, Prod.mk.injEq, Prod.mk.injEq] at H
    obtain ⟨rfl, rfl, rfl⟩ := H
    clear A20
    have cb : (t != 0) = true := bne_iff_ne.mpr ct
    have cb2 : (t == 0) = false := beq_eq_false_iff_ne.mpr ct
    clear ct
    go_enter Try.func32, Try.ntmps32
    go_wp2_with (first | ((with_reducible refine gate_callee (f := 26) rfl ?_); refine goesL_ (some 11) rfl rfl Try.func26 (by kernel_rfl) rfl #[.slice A0 l0.length c0] rfl (by (try simp only [List.map_toArray, List.map_cons, List.map_nil]); first | done | rfl) ?_; (with_reducible refine (place_Check.calls k _ _ l0 _ _ ?side1 ?side2 A2.out).mono ?_); (case side1 => exact HR0.out); (case side2 => exact HC0.out); rintro e w3 ⟨rfl, hb⟩; refine ⟨_, rfl, ?_⟩; replace HB := Aside0.mk (below_step HB.out hb)))
    go_ret3
    exact ⟨_, rfl, Kd.R_nil _ _ _ _ _, HB.out⟩
  subst ct
  rw [if_pos rfl, Option.some.injEq, Prod.mk.injEq, Prod.mk.injEq] at H
  obtain ⟨h1, h2, h3⟩ := H
  subst h3
  have HE : Aside0 (grd l0 l0.length [] 0 = (r1, r2)) := ⟨by rw [← h1, ← h2]⟩
  have HK := Aside0.mk (check_ok A20)
  clear A20 h1 h2
  have hm := HK.out.many
  have HN0 := Aside0.mk hm
  have HI3 := Aside0.mk info3s
  clear hm H
  go_enter Try.func32, Try.ntmps32
  go_wp2_with (first | ((with_reducible refine gate_callee (f := 26) rfl ?_); refine goesL_ (some 11) rfl rfl Try.func26 (by kernel_rfl) rfl #[.slice A0 l0.length c0] rfl (by (try simp only [List.map_toArray, List.map_cons, List.map_nil]); first | done | rfl) ?_; (with_reducible refine (place_Check.calls k _ _ l0 _ _ ?side1 ?side2 A2.out).mono ?_); (case side1 => exact HR0.out); (case side2 => exact HC0.out); rintro e w3 ⟨rfl, hb⟩; refine ⟨_, rfl, ?_⟩; replace HB := Aside0.mk (below_step HB.out hb)) | ((with_reducible refine gate_dst (N := 17) rfl ?_); refine box_event ?hg (N := 17) ?hd (cs := #[.slice A0 l0.length c0, .slice none 0 0, .slice none 0 0, .slice none 0 0, .int .i64 0, .int .i64 0]) (t := 80) ?hr ?_; (case hd => rfl); (case hg => rfl); (case hr => first | (go_simp; done) | (go_simp; rfl)); intro g hg w5 hbox hb5; have BB := Aside0.mk hbox; have HB5 := Aside0.mk hb5; have HG := Aside0.mk hg; clear hbox hb5 hg))
  have HS := Aside0.mk (show SeV w w5 g A0 c0 l0 [] [] [] 0 0 (.slice none 0 0) (.slice none 0 0) (.slice none 0 0) from ⟨BB.out, Kd.R_nil _ _ _ _ _, Kd.R_nil _ _ _ _ _, Kd.R_nil _ _ _ _ _, by rw [HG.out]; have h1 := HB.out.size; omega, below_step HB.out HB5.out⟩)
  clear HB5 BB HB HG
  go_loopg [20] l0.length (fun kq v20 w' => ∃ (x : Int) (now : List Int) (worth : Int), v20 = .int .i64 x ∧ Aside0 (x = (now.length : Int)) ∧ Aside0 (now.length + kq = l0.length) ∧ Aside0 (grd l0 kq now worth = (r1, r2)) ∧ Aside0 (0 ≤ worth) ∧ Aside0 (worth ≤ 1000 * now.length) ∧ Aside0 (Picks l0 now) ∧ Aside0 (Se w w' g A0 c0 l0 [] now [] worth 0))
  case atStart => exact ⟨0, [], 0, rfl, ⟨rfl⟩, ⟨Nat.zero_add _⟩, HE, ⟨Int.le_refl _⟩, ⟨by simp⟩, ⟨picks_nil _⟩, ⟨SeV_Se HS.out⟩⟩
  case round =>
    clear HS HE
    obtain ⟨x, now, worth, rfl, HX, HQ, HE, HW0, HW1, HP, HSe⟩ := hrel
    obtain ⟨vr, vn, vb, hse⟩ := HSe.out
    have HS := Aside0.mk (show SeV w wr g A0 c0 l0 [] now [] worth 0 vr vn vb from hse)
    obtain ⟨An, cn, en⟩ := Kd.R_slice hse.2.2.1
    subst en
    clear hse
    obtain ⟨hc0, hc1, hc2, hc3, hc4, hc5, hfz⟩ := SeV_cells HS.out
    cases gk with
    | zero =>
      have hi : decide (x < (l0.length : Int)) = false := decide_eq_false (by have := HX.out; have := HQ.out; omega)
      have hg : (now, worth) = (r1, r2) := HE.out
      rw [Prod.mk.injEq] at hg
      obtain ⟨e1, e2⟩ := hg
      subst e1 e2
      clear hc0 hc1 hc3 hc5 hfz
      go_upto_region 13 with (fail)
      refine start_ (n := 11) (S := fun w' => w'.cell? ⟨g, 2, none⟩ = some (.slice An now.length cn) ∧ w'.cell? ⟨g, 4, none⟩ = some (.int .i64 worth)) (ds := []) (bA 11 0) (by kernel_rfl) rfl rfl ⟨hc2, hc4⟩ (fun hHeld => ?_)
      have HS5 := Aside0.mk (SeV_below HS.out (below_drew (Below.refl _ _)))
      clear HS HSe hc2 hc4
      generalize wr.drew = W6 at HS5 hHeld ⊢
      refine pure_ (i := 0) (N := some 55) (v := ?_) (a' := ?_) (bA 11 1) rfl rfl (by kernel_rfl) (fun _ _ _ h => h) (Or.inl ⟨by rfl, ?_⟩) ?_ ?_
      rotate_left
      · intro w'
        go_simp
        with_reducible rfl
      rotate_left
      · simp only [Act.put, List.setIfInBounds_toArray, List.set_cons_zero, List.set_cons_succ, i64_w, i32_w]
        rfl
      refine pure_ (i := 1) (N := some 56) (v := ?_) (a' := ?_) (bA 11 3) rfl rfl (by kernel_rfl) (fun _ _ _ h => h) (Or.inl ⟨by rfl, ?_⟩) ?_ ?_
      rotate_left
      · intro w'
        go_simp
        with_reducible rfl
      rotate_left
      · simp only [Act.put, List.setIfInBounds_toArray, List.set_cons_zero, List.set_cons_succ, i64_w, i32_w]
        rfl
      refine pure_ (i := 2) (N := some 57) (v := ?_) (a' := ?_) (bA 11 7) rfl rfl (by kernel_rfl) (fun _ _ _ h => h) (Or.inl ⟨by rfl, ?_⟩) ?_ ?_
      rotate_left
      · intro w'
        go_simp
        with_reducible rfl
      rotate_left
      · simp only [Act.put, List.setIfInBounds_toArray, List.set_cons_zero, List.set_cons_succ, i64_w, i32_w]
        rfl
      refine pure_ (i := 4) (N := some 59) (v := ?_) (a' := ?_) (bA 11 23) rfl rfl (by kernel_rfl) (fun _ _ _ h => h) (Or.inl ⟨by rfl, ?_⟩) ?_ ?_
      rotate_left
      · intro w'
        go_simp
        with_reducible rfl
      rotate_left
      · simp only [Act.put, List.setIfInBounds_toArray, List.set_cons_zero, List.set_cons_succ, i64_w, i32_w]
        rfl
      refine pure_ (i := 5) (N := some 60) (v := ?_) (a' := ?_) (bA 11 55) rfl rfl (by kernel_rfl) (fun _ _ _ h => h) (Or.inl ⟨by rfl, ?_⟩) ?_ ?_
      rotate_left
      · intro w'
        go_simp
        with_reducible rfl
      rotate_left
      · simp only [Act.put, List.setIfInBounds_toArray, List.set_cons_zero, List.set_cons_succ, i64_w, i32_w]
        rfl
      refine pure_ (i := 6) (N := some 61) (v := ?_) (a' := ?_) (bA 11 119) rfl rfl (by kernel_rfl) (fun _ _ _ h => h) (Or.inl ⟨by rfl, ?_⟩) ?_ ?_
      rotate_left
      · intro w'
        go_simp
        with_reducible rfl
      rotate_left
      · simp only [Act.put, List.setIfInBounds_toArray, List.set_cons_zero, List.set_cons_succ, i64_w, i32_w]
        rfl
      refine take_ (i := 3) (N := some 58) (v := ?_) (a' := ?_) (bA 11 127) rfl rfl (by kernel_rfl) (fun _ _ _ h => h) (Or.inl ⟨by rfl, ?_⟩) hHeld ?_ ?_
      rotate_left
      · rintro w' ⟨s0, s1⟩
        go_simp
        with_reducible rfl
      rotate_left
      · simp only [Act.put, List.setIfInBounds_toArray, List.set_cons_zero, List.set_cons_succ, i64_w, i32_w]
        rfl
      refine take_ (i := 7) (N := some 62) (v := ?_) (a' := ?_) (bA 11 255) rfl rfl (by kernel_rfl) (fun _ _ _ h => h) (Or.inl ⟨by rfl, ?_⟩) hHeld ?_ ?_
      rotate_left
      · rintro w' ⟨s0, s1⟩
        go_simp
        with_reducible rfl
      rotate_left
      · simp only [Act.put, List.setIfInBounds_toArray, List.set_cons_zero, List.set_cons_succ, i64_w, i32_w]
        rfl
      refine pure_ (i := 8) (N := some 2) (v := ?_) (a' := ?_) (bA 11 511) rfl rfl (by kernel_rfl) (fun _ _ _ h => h) (Or.inl ⟨by rfl, ?_⟩) ?_ ?_
      rotate_left
      · intro w'
        go_simp
        with_reducible rfl
      rotate_left
      · simp only [Act.put, List.setIfInBounds_toArray, List.set_cons_zero, List.set_cons_succ, i64_w, i32_w]
        rfl
      refine pure_ (i := 9) (N := some 3) (v := ?_) (a' := ?_) (bA 11 1023) rfl rfl (by kernel_rfl) (fun _ _ _ h => h) (Or.inl ⟨by rfl, ?_⟩) ?_ ?_
      rotate_left
      · intro w'
        go_simp
        with_reducible rfl
      rotate_left
      · simp only [Act.put, List.setIfInBounds_toArray, List.set_cons_zero, List.set_cons_succ, i64_w, i32_w]
        rfl
      refine pure_ (i := 10) (N := some 4) (v := ?_) (a' := ?_) (bA 11 2047) rfl rfl (by kernel_rfl) (fun _ _ _ h => h) (Or.inl ⟨by rfl, ?_⟩) ?_ ?_
      rotate_left
      · intro w'
        go_simp
        with_reducible rfl
      rotate_left
      · simp only [Act.put, List.setIfInBounds_toArray, List.set_cons_zero, List.set_cons_succ, i64_w, i32_w]
        rfl
      refine done_ (by kernel_rfl) ?_
      go_wp2
      go_ret3
      exact ⟨_, rfl, HS5.out.2.2.1, HS5.out.2.2.2.2.2⟩
    | succ m =>
      have hi : decide (x < (l0.length : Int)) = true := decide_eq_true (by have := HX.out; have := HQ.out; omega)
      have HLT : Aside0 (now.length < l0.length) := ⟨by have := HQ.out; omega⟩
      obtain ⟨ad, A4, c4, A6, c6, ea, hw0, hw1, hw2, hw3, hw4, hw5, hw6, hw7, l4, g4, l6, g6'⟩ := at_T36 HR0.out x (by have := HX.out; omega) (by have := HX.out; have := HLT.out; omega)
      cases ea
      have hbw := Se_B (SeV_Se HS.out)
      have g6 := Kd.C_below g6' hbw
      have hx0 := (hbw.cell (World.block_lt_of_cell? _ _ hw0)).trans hw0
      have hx1 := (hbw.cell (World.block_lt_of_cell? _ _ hw1)).trans hw1
      have hx2 := (hbw.cell (World.block_lt_of_cell? _ _ hw2)).trans hw2
      have hx3 := (hbw.cell (World.block_lt_of_cell? _ _ hw3)).trans hw3
      have hx4 := (hbw.cell (World.block_lt_of_cell? _ _ hw4)).trans hw4
      have hx5 := (hbw.cell (World.block_lt_of_cell? _ _ hw5)).trans hw5
      have hx6 := (hbw.cell (World.block_lt_of_cell? _ _ hw6)).trans hw6
      have hx7 := (hbw.cell (World.block_lt_of_cell? _ _ hw7)).trans hw7
      have HW7 := Aside0.mk hw7
      clear hw0 hw1 hw2 hw3 hw4 hw5 hw6 hw7 hbw g6'
      have HG6 := Aside0.mk g6
      clear l4 g4 l6 g6
      have p0 := eq_true (show 0 ≤ x by have := HX.out; omega)
      have q0 := eq_true (show x < (l0.length : Int) by have h1 := HX.out; have h2 := HLT.out; omega)
      have w1 : wrap64 (x + 1) = x + 1 := by have h1 := HX.out; have h2 := HLT.out; have h3 := HN0.out; rw [wrap64_eq] <;> omega
      obtain ⟨y, hy⟩ : ∃ y, y = pickB l0 now := ⟨_, rfl⟩
      have HY := Aside0.mk hy
      have HYB : Aside0 (-1 ≤ y ∧ y < ((rd_T36 l0 (now.length : Int)).f1.length : Int)) := ⟨by have := idxB_bd l0 now (rd_T36 l0 (now.length : Int)).f1 (rd_T36 l0 (now.length : Int)).f1.length 0; rw [hy, pickB]; rw [Nat.zero_add] at this; exact this⟩
      have HYE : Aside0 (idxB l0 now (rd_T36 l0 x).f1 (rd_T36 l0 x).f1.length 0 = y) := ⟨by rw [HX.out, hy, pickB]⟩
      clear hy
      by_cases ck : 0 ≤ y
      rotate_left
      · have ckb : decide (0 ≤ y) = false := decide_eq_false ck
        have HCK := Aside0.mk ck
        clear ck
        go_wp2_with (first | ((with_reducible refine gate_dst (N := 8) rfl ?_); refine box_event ?hg (N := 8) ?hd (cs := #[.int .i64 0, .int .i64 0, .int .i64 0, .int .i64 0, .slice none 0 0, .string (⟨#[]⟩ : ByteArray), .slice none 0 0, .int .i64 0]) (t := 36) ?hr ?_; (case hd => rfl); (case hg => rfl); (case hr => first | (go_simp; done) | (go_simp; rfl)); intro gb hg w7 hbox hb; have BK := Aside0.mk hbox; have HB7 := Aside0.mk hb; have GB := Aside0.mk (show wr.heap.size ≤ gb by rw [hg]; exact Nat.le_refl _); have hcz0 : w7.cell? ⟨gb, 0, none⟩ = some (.int .i64 0) := (blk_cell hbox 0).trans rfl; have hfz0 := blk_frozen hbox 0; have hcz1 : w7.cell? ⟨gb, 1, none⟩ = some (.int .i64 0) := (blk_cell hbox 1).trans rfl; have hfz1 := blk_frozen hbox 1; have hcz2 : w7.cell? ⟨gb, 2, none⟩ = some (.int .i64 0) := (blk_cell hbox 2).trans rfl; have hfz2 := blk_frozen hbox 2; have hcz3 : w7.cell? ⟨gb, 3, none⟩ = some (.int .i64 0) := (blk_cell hbox 3).trans rfl; have hfz3 := blk_frozen hbox 3; have hcz4 : w7.cell? ⟨gb, 4, none⟩ = some (.slice none 0 0) := (blk_cell hbox 4).trans rfl; have hfz4 := blk_frozen hbox 4; have hcz5 : w7.cell? ⟨gb, 5, none⟩ = some (.string (⟨#[]⟩ : ByteArray)) := (blk_cell hbox 5).trans rfl; have hfz5 := blk_frozen hbox 5; have hcz6 : w7.cell? ⟨gb, 6, none⟩ = some (.slice none 0 0) := (blk_cell hbox 6).trans rfl; have hfz6 := blk_frozen hbox 6; have hcz7 : w7.cell? ⟨gb, 7, none⟩ = some (.int .i64 0) := (blk_cell hbox 7).trans rfl; have hfz7 := blk_frozen hbox 7; clear hb hbox hg) | ((with_reducible refine gate_callee (f := 62) rfl ?_); refine goesL_ (some 29) rfl rfl Try.func62 (by kernel_rfl) rfl #[.slice A6 (rd_T36 l0 x).f1.length c6, .func (.func 63) #[.pointer (some ⟨g, 0, none⟩)] #[]] rfl (by (try simp only [List.map_toArray, List.map_cons, List.map_nil]); first | done | rfl) ?_; (refine (index_calls (SeV_Se (SeV_below HS.out (by repeat (first | (with_reducible first | exact HB7.out) | refine below_set ?_ GB.out)))) HR0.out (by have := HLT.out; omega) (by have h1 := HLT.out; have h2 := HN0.out; omega) (fun i hi => (HP.out i hi).2) (Kd.C_below HG6.out (by repeat (first | (with_reducible first | exact HB7.out) | refine below_set ?_ GB.out))) (by have h1 := HLT.out; have h2 := HK.out.boxes _ h1; rw [← HX.out] at h2; omega)).mono ?_); rintro r_ W3 ⟨rfl, hb⟩; rw [HYE.out]; refine ⟨_, rfl, ?_⟩; have HBB := Aside0.mk (below_step (show Below wr.heap.size wr _ from (by repeat (first | (with_reducible first | exact HB7.out) | refine below_set ?_ GB.out))) hb); have HS1 := Aside0.mk (SeV_below HS.out HBB.out); clear hb hx0 hx1 hx2 hx3 hx4 hx5 hx6 hx7 hcz0 hfz0 hcz1 hfz1 hcz2 hfz2 hcz3 hfz3 hcz4 hfz4 hcz5 hfz5 hcz6 hfz6 hcz7 hfz7 BK hc0 hc1 hc2 hc3 hc4 hc5 hfz; obtain ⟨hc0, hc1, hc2, hc3, hc4, hc5, hfz⟩ := SeV_cells HS1.out) | ((with_reducible refine gate_builtin (b := .append) (xs := #[.tmp 34, .tmp 36]) rfl ?_); at_builtin; refine Kd.R_append (Kd.int .i64) (w0 := w) w.heap.size rfl (.tmp 34) (.tmp 36) 22 3 (.int .i64 0) 8 rfl Try.underlying22 HI3.out rfl (by decide) (by omega) (.slice An now.length cn) now y [.int .i64 y] (fun _ => True) (fun _ => False) rfl rfl ?aP (fun _ hk => hk.elim) ?aF ?aO ?aB ?aS ?aL ?_; (case aP => exact rfl); (case aF => exact (fun _ _ => trivial)); (case aO => exact HS1.out.2.2.1); (case aB => exact HS1.out.2.2.2.2.2); (case aS => exact HS1.out.2.2.2.2.2.size); (case aL => have h1 := HLT.out; have h2 := HN0.out; omega); intro v1 W4 ho hb hg hat; obtain ⟨now1, hn1⟩ : ∃ n_, n_ = now ++ [y] := ⟨_, rfl⟩; rw [← hn1] at ho; obtain ⟨A1, c1, ev⟩ := Kd.R_slice ho; subst ev; have HN1 := Aside0.mk hn1; clear hn1; have HS2 := Aside0.mk (SeV_app HS1.out hb hg hat ho); have b3 := blk_grown HS1.out.1 hg (Kd.R_ne HS1.out.2.2.1 HS1.out.1 (by decide)); have hc2 : W4.cell? ⟨g, 2, none⟩ = some (.slice An now.length cn) := (blk_cell b3 2).trans rfl; have hf2 := blk_frozen b3 2; have m7 := (hb.cell (World.block_lt_of_cell? _ _ HW7.out)).trans HW7.out; clear b3 ho hb hg hat HS1))
        go_roundg m
        case rel => exact ⟨x + 1, now1, worth, by first | rfl | rw [w1], ⟨by rw [HN1.out, List.length_append]; have := HX.out; simp; omega⟩, ⟨by rw [HN1.out, List.length_append]; have := HQ.out; simp; omega⟩, ⟨by rw [HN1.out, ← HE.out, grd, ← HY.out, wgtB, if_neg (show ¬ 0 ≤ y by have := HCK.out; omega), Int.add_zero]⟩, HW0, ⟨by rw [HN1.out, List.length_append]; have h1 := HW1.out; simp; omega⟩, ⟨by rw [HN1.out]; exact picks_snoc HP.out HYB.out.1 HYB.out.2⟩, ⟨SeV_Se HS2.out⟩⟩
        case measure => omega
      have ckb : decide (0 ≤ y) = true := decide_eq_true ck
      have HCK := Aside0.mk ck
      clear ck
      go_upto_region 11 with (first | ((with_reducible refine gate_dst (N := 8) rfl ?_); refine box_event ?hg (N := 8) ?hd (cs := #[.int .i64 0, .int .i64 0, .int .i64 0, .int .i64 0, .slice none 0 0, .string (⟨#[]⟩ : ByteArray), .slice none 0 0, .int .i64 0]) (t := 36) ?hr ?_; (case hd => rfl); (case hg => rfl); (case hr => first | (go_simp; done) | (go_simp; rfl)); intro gb hg w7 hbox hb; have BK := Aside0.mk hbox; have HB7 := Aside0.mk hb; have GB := Aside0.mk (show wr.heap.size ≤ gb by rw [hg]; exact Nat.le_refl _); have hcz0 : w7.cell? ⟨gb, 0, none⟩ = some (.int .i64 0) := (blk_cell hbox 0).trans rfl; have hfz0 := blk_frozen hbox 0; have hcz1 : w7.cell? ⟨gb, 1, none⟩ = some (.int .i64 0) := (blk_cell hbox 1).trans rfl; have hfz1 := blk_frozen hbox 1; have hcz2 : w7.cell? ⟨gb, 2, none⟩ = some (.int .i64 0) := (blk_cell hbox 2).trans rfl; have hfz2 := blk_frozen hbox 2; have hcz3 : w7.cell? ⟨gb, 3, none⟩ = some (.int .i64 0) := (blk_cell hbox 3).trans rfl; have hfz3 := blk_frozen hbox 3; have hcz4 : w7.cell? ⟨gb, 4, none⟩ = some (.slice none 0 0) := (blk_cell hbox 4).trans rfl; have hfz4 := blk_frozen hbox 4; have hcz5 : w7.cell? ⟨gb, 5, none⟩ = some (.string (⟨#[]⟩ : ByteArray)) := (blk_cell hbox 5).trans rfl; have hfz5 := blk_frozen hbox 5; have hcz6 : w7.cell? ⟨gb, 6, none⟩ = some (.slice none 0 0) := (blk_cell hbox 6).trans rfl; have hfz6 := blk_frozen hbox 6; have hcz7 : w7.cell? ⟨gb, 7, none⟩ = some (.int .i64 0) := (blk_cell hbox 7).trans rfl; have hfz7 := blk_frozen hbox 7; clear hb hbox hg) | ((with_reducible refine gate_callee (f := 62) rfl ?_); refine goesL_ (some 29) rfl rfl Try.func62 (by kernel_rfl) rfl #[.slice A6 (rd_T36 l0 x).f1.length c6, .func (.func 63) #[.pointer (some ⟨g, 0, none⟩)] #[]] rfl (by (try simp only [List.map_toArray, List.map_cons, List.map_nil]); first | done | rfl) ?_; (refine (index_calls (SeV_Se (SeV_below HS.out (by repeat (first | (with_reducible first | exact HB7.out) | refine below_set ?_ GB.out)))) HR0.out (by have := HLT.out; omega) (by have h1 := HLT.out; have h2 := HN0.out; omega) (fun i hi => (HP.out i hi).2) (Kd.C_below HG6.out (by repeat (first | (with_reducible first | exact HB7.out) | refine below_set ?_ GB.out))) (by have h1 := HLT.out; have h2 := HK.out.boxes _ h1; rw [← HX.out] at h2; omega)).mono ?_); rintro r_ W3 ⟨rfl, hb⟩; rw [HYE.out]; refine ⟨_, rfl, ?_⟩; have HBB := Aside0.mk (below_step (show Below wr.heap.size wr _ from (by repeat (first | (with_reducible first | exact HB7.out) | refine below_set ?_ GB.out))) hb); have HS1 := Aside0.mk (SeV_below HS.out HBB.out); clear hb hx0 hx1 hx2 hx3 hx4 hx5 hx6 hx7 hcz0 hfz0 hcz1 hfz1 hcz2 hfz2 hcz3 hfz3 hcz4 hfz4 hcz5 hfz5 hcz6 hfz6 hcz7 hfz7 BK hc0 hc1 hc2 hc3 hc4 hc5 hfz; obtain ⟨hc0, hc1, hc2, hc3, hc4, hc5, hfz⟩ := SeV_cells HS1.out) | ((with_reducible refine gate_builtin (b := .append) (xs := #[.tmp 34, .tmp 36]) rfl ?_); at_builtin; refine Kd.R_append (Kd.int .i64) (w0 := w) w.heap.size rfl (.tmp 34) (.tmp 36) 22 3 (.int .i64 0) 8 rfl Try.underlying22 HI3.out rfl (by decide) (by omega) (.slice An now.length cn) now y [.int .i64 y] (fun _ => True) (fun _ => False) rfl rfl ?aP (fun _ hk => hk.elim) ?aF ?aO ?aB ?aS ?aL ?_; (case aP => exact rfl); (case aF => exact (fun _ _ => trivial)); (case aO => exact HS1.out.2.2.1); (case aB => exact HS1.out.2.2.2.2.2); (case aS => exact HS1.out.2.2.2.2.2.size); (case aL => have h1 := HLT.out; have h2 := HN0.out; omega); intro v1 W4 ho hb hg hat; obtain ⟨now1, hn1⟩ : ∃ n_, n_ = now ++ [y] := ⟨_, rfl⟩; rw [← hn1] at ho; obtain ⟨A1, c1, ev⟩ := Kd.R_slice ho; subst ev; have HN1 := Aside0.mk hn1; clear hn1; have HS2 := Aside0.mk (SeV_app HS1.out hb hg hat ho); have b3 := blk_grown HS1.out.1 hg (Kd.R_ne HS1.out.2.2.1 HS1.out.1 (by decide)); have hc2 : W4.cell? ⟨g, 2, none⟩ = some (.slice An now.length cn) := (blk_cell b3 2).trans rfl; have hf2 := blk_frozen b3 2; have m7 := (hb.cell (World.block_lt_of_cell? _ _ HW7.out)).trans HW7.out; clear b3 ho hb hg hat HS1))
      obtain ⟨hc0, hc1, hc2', hc3, hc4, hc5, hfz⟩ := SeV_cells HS2.out
      have k7 := ((Se_B (SeV_Se HS2.out)).cell (World.block_lt_of_cell? _ _ HW7.out)).trans HW7.out
      refine start_ (n := 13) (S := fun w' => w'.cell? ⟨g, 4, none⟩ = some (.int .i64 worth) ∧ w'.cell? ⟨(ad.add (x.toNat * 8)).block, (ad.add (x.toNat * 8)).off + 7, none⟩ = some (.int .i64 (rd_T36 l0 x).f2)) (ds := [12]) (bA 13 0) (by kernel_rfl) rfl rfl ⟨hc4, k7⟩ (fun hHeld => ?_)
      have HS3 := Aside0.mk (SeV_below HS2.out (below_drew (Below.refl _ _)))
      clear HS2 hc0 hc1 hc2 hc2' hf2 hc3 hc4 hc5 hfz k7 m7
      generalize (W4.setCell ⟨g, 2, none⟩ (.slice A1 now1.length c1)).drew = W5 at HS3 hHeld ⊢
      refine pure_ (i := 0) (N := some 42) (v := ?_) (a' := ?_) (bA 13 1) rfl rfl (by kernel_rfl) (fun _ _ _ h => h) (Or.inl ⟨by rfl, ?_⟩) ?_ ?_
      rotate_left
      · intro w'
        go_simp
        with_reducible rfl
      rotate_left
      · simp only [Act.put, List.setIfInBounds_toArray, List.set_cons_zero, List.set_cons_succ, i64_w, i32_w]
        rfl
      refine pure_ (i := 1) (N := some 43) (v := ?_) (a' := ?_) (bA 13 3) rfl rfl (by kernel_rfl) (fun _ _ _ h => h) (Or.inl ⟨by rfl, ?_⟩) ?_ ?_
      rotate_left
      · intro w'
        go_simp
        with_reducible rfl
      rotate_left
      · simp only [Act.put, List.setIfInBounds_toArray, List.set_cons_zero, List.set_cons_succ, i64_w, i32_w]
        rfl
      refine pure_ (i := 2) (N := some 44) (v := ?_) (a' := ?_) (bA 13 7) rfl rfl (by kernel_rfl) (fun _ _ _ h => h) (Or.inl ⟨by rfl, ?_⟩) ?_ ?_
      rotate_left
      · intro w'
        go_simp
        with_reducible rfl
      rotate_left
      · simp only [Act.put, List.setIfInBounds_toArray, List.set_cons_zero, List.set_cons_succ, i64_w, i32_w]
        rfl
      refine pure_ (i := 4) (N := some 46) (v := ?_) (a' := ?_) (bA 13 23) rfl rfl (by kernel_rfl) (fun _ _ _ h => h) (Or.inl ⟨by rfl, ?_⟩) ?_ ?_
      rotate_left
      · intro w'
        go_simp
        with_reducible rfl
      rotate_left
      · simp only [Act.put, List.setIfInBounds_toArray, List.set_cons_zero, List.set_cons_succ, i64_w, i32_w]
        rfl
      refine pure_ (i := 5) (N := some 47) (v := ?_) (a' := ?_) (bA 13 55) rfl rfl (by kernel_rfl) (fun _ _ _ h => h) (Or.inl ⟨by rfl, ?_⟩) ?_ ?_
      rotate_left
      · intro w'
        go_simp
        with_reducible rfl
      rotate_left
      · simp only [Act.put, List.setIfInBounds_toArray, List.set_cons_zero, List.set_cons_succ, i64_w, i32_w]
        rfl
      refine pure_ (i := 6) (N := some 48) (v := ?_) (a' := ?_) (bA 13 119) rfl rfl (by kernel_rfl) (fun _ _ _ h => h) (Or.inl ⟨by rfl, ?_⟩) ?_ ?_
      rotate_left
      · intro w'
        go_simp
        with_reducible rfl
      rotate_left
      · simp only [Act.put, List.setIfInBounds_toArray, List.set_cons_zero, List.set_cons_succ, i64_w, i32_w]
        rfl
      refine pure_ (i := 7) (N := some 49) (v := ?_) (a' := ?_) (bA 13 247) rfl rfl (by kernel_rfl) (fun _ _ _ h => h) (Or.inl ⟨by rfl, ?_⟩) ?_ ?_
      rotate_left
      · intro w'
        go_simp
        with_reducible rfl
      rotate_left
      · simp only [Act.put, List.setIfInBounds_toArray, List.set_cons_zero, List.set_cons_succ, i64_w, i32_w]
        rfl
      refine take_ (i := 3) (N := some 45) (v := ?_) (a' := ?_) (bA 13 255) rfl rfl (by kernel_rfl) (fun _ _ _ h => h) (Or.inl ⟨by rfl, ?_⟩) hHeld ?_ ?_
      rotate_left
      · rintro w' ⟨s0, s1⟩
        go_simp
        with_reducible rfl
      rotate_left
      · simp only [Act.put, List.setIfInBounds_toArray, List.set_cons_zero, List.set_cons_succ, i64_w, i32_w]
        rfl
      refine take_ (i := 8) (N := some 50) (v := ?_) (a' := ?_) (bA 13 511) rfl rfl (by kernel_rfl) (fun _ _ _ h => h) (Or.inl ⟨by rfl, ?_⟩) hHeld ?_ ?_
      rotate_left
      · rintro w' ⟨s0, s1⟩
        go_simp
        with_reducible rfl
      rotate_left
      · simp only [Act.put, List.setIfInBounds_toArray, List.set_cons_zero, List.set_cons_succ, i64_w, i32_w]
        rfl
      refine pure_ (i := 9) (N := some 51) (v := ?_) (a' := ?_) (bA 13 1023) rfl rfl (by kernel_rfl) (fun _ _ _ h => h) (Or.inl ⟨by rfl, ?_⟩) ?_ ?_
      rotate_left
      · intro w'
        go_simp
        with_reducible rfl
      rotate_left
      · simp only [Act.put, List.setIfInBounds_toArray, List.set_cons_zero, List.set_cons_succ, i64_w, i32_w]
        rfl
      refine pure_ (i := 10) (N := some 52) (v := ?_) (a' := ?_) (bA 13 2047) rfl rfl (by kernel_rfl) (fun _ _ _ h => h) (Or.inl ⟨by rfl, ?_⟩) ?_ ?_
      rotate_left
      · intro w'
        go_simp
        with_reducible rfl
      rotate_left
      · simp only [Act.put, List.setIfInBounds_toArray, List.set_cons_zero, List.set_cons_succ, i64_w, i32_w]
        rfl
      refine pure_ (i := 11) (N := some 53) (v := ?_) (a' := ?_) (bA 13 4095) rfl rfl (by kernel_rfl) (fun _ _ _ h => h) (Or.inl ⟨by rfl, ?_⟩) ?_ ?_
      rotate_left
      · intro w'
        go_simp
        with_reducible rfl
      rotate_left
      · simp only [Act.put, List.setIfInBounds_toArray, List.set_cons_zero, List.set_cons_succ, i64_w, i32_w]
        rfl
      obtain ⟨hc0, hc1, hc2, hc3, hc4, hc5, hfz⟩ := SeV_cells HS3.out
      have hf4 := hfz 4
      clear hc0 hc1 hc2 hc3 hc5 hfz hHeld
      refine last_ (i := 12) (N := none) (bA 13 8191) rfl rfl (by kernel_rfl) (by decide) (fun K hK => ?_)
      refine skip_ (w1 := ?_) (by rfl) rfl ?_ ?_
      rotate_left
      · go_simp
        rfl
      refine hK.out _ _ ?_
      clear hK K hc4 hf4
      refine done_ (by kernel_rfl) ?_
      have HS4 := Aside0.mk (SeV_worth HS3.out (wrap64 (worth + (rd_T36 l0 x).f2)))
      go_wp2
      go_roundg m
      case rel => exact ⟨x + 1, now1, _, by first | rfl | rw [w1], ⟨by rw [HN1.out, List.length_append]; have := HX.out; simp; omega⟩, ⟨by rw [HN1.out, List.length_append]; have := HQ.out; simp; omega⟩, ⟨by rw [HN1.out, greedy_wrap HK.out HX.out HLT.out HW0.out HW1.out, ← HE.out, grd, ← HY.out, wgtB, if_pos HCK.out, HX.out]⟩, ⟨by rw [greedy_wrap HK.out HX.out HLT.out HW0.out HW1.out]; have h1 := HW0.out; have h2 := HK.out.w0 _ HLT.out; rw [← HX.out] at h2; omega⟩, ⟨by rw [greedy_wrap HK.out HX.out HLT.out HW0.out HW1.out, HN1.out, List.length_append]; have h1 := HW1.out; have h2 := HK.out.w1 _ HLT.out; rw [← HX.out] at h2; simp; omega⟩, ⟨by rw [HN1.out]; exact picks_snoc HP.out HYB.out.1 HYB.out.2⟩, ⟨SeV_Se HS4.out⟩⟩
      case measure => omega

end Go.Proofs.Ytdmhnjpblpfbfaa.Q
