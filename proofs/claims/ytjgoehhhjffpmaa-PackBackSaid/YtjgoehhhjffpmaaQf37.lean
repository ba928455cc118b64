/- terrkeep5.Draws: drawing commands out of a list of numbers. No condition. -/
import Derived.Test.YtjgoehhhjffpmaaQf53
namespace Go.Proofs.Ytjgoehhhjffpmaa.Q
open Go Go.RowKit Go.Proofs.YtjgoehhhjffpmaaW.PrintWords Go.Proofs.YtjgoehhhjffpmaaW.PrintLast Go.Proofs.YtjgoehhhjffpmaaW.PrintMore
attribute [local go_sem] max2_int min2_int max_two min_two max_three min_three max_four min_four
set_option linter.unusedVariables false
set_option linter.unusedSimpArgs false
section
variable {P : Program} {ops : Array Oper} {Q : Exit → Act → World → Prop}
/-- A call of a closure with its variables. -/
theorem goesLF_ {rest : List Oper} {oi : Oper} {a : Act} {w : World} (N : Option Tmp) (hd : oi.dst = N) (hg : oi.guard = none) {o : Operand} {f : FuncId} {fn : Func} {ts : Array TypeId} (hf : P.funcs[f]? = some fn) (hname : (fn.name == "runtime.NumGoroutine") = false) (hb : fn.body.isSome = true) (fr : Array Value)
    (hop : oi.op = .call { callee := .value o, args := #[], argTypes := ts }) (ho : a.eval o = Value.func (Fn.func f) #[] fr)
    (h : Calls P f fr w fun e w' => ∃ v, e = .returned v ∧ wpList P ops Q rest (a.put N v) w') : wpList P ops Q (oi :: rest) a w := by
  refine wpList_plain hg fun K hK => ?_
  have he := enters_ hf hname hb fr w
  have hrun : (execOp a.eval oi).run P w = .ok (.enter f fr) w := by
    unfold execOp
    simp [hop, resolve, Deferred.ofValue, invoke, ho, he]
  unfold Oper.wp
  rw [hrun, Oper.upon_enter]
  refine h.mono fun e w'' hh => ?_
  obtain ⟨v, rfl, hk⟩ := hh
  subst hd
  exact hK _ _ hk
end
theorem info48d : (Try.prog.info? 48).map (fun i => (i.zero, i.size, i.bytes)) = some (some (.agg #[.int .i64 0, .int .i64 0, .int .i64 0, .int .i64 0, .slice none 0 0, .string ⟨#[]⟩]), 6, 72) := by kernel_rfl
theorem info44d : (Try.prog.info? 44).map (fun i => (i.zero, i.size, i.bytes)) = some (some (.agg #[.int .i64 0, .int .i64 0]), 2, 16) := by kernel_rfl
/-! ### what the numbers come to -/
def txt (j : Int) : ByteArray := ([⟨#[65, 108, 100, 101, 114]⟩, ⟨#[66, 105, 114, 99, 104]⟩, ⟨#[67, 111, 118, 101]⟩, ⟨#[109, 109]⟩, ⟨#[105]⟩] : List ByteArray).getD j.toNat ⟨#[]⟩
def manyv (K u v : Int) : Int := ([0, 1, 2 + u, 3 + v, 1] : List Int).getD K.toNat 0
def ptsOf : Nat → List Int → List S44 → List S44 × List Int
  | 0, l, acc => (acc, l)
  | m + 1, l, acc => ptsOf m l.tail.tail (acc ++ [⟨nextv l 300 - 20, nextv l.tail 300 - 20⟩])
/-- The kind, and how many points. -/
def kindv (l : List Int) : Int := 1 + nextv l 4
def cntv (l : List Int) : Int := manyv (kindv l) (nextv l.tail.tail.tail.tail 3) (nextv l.tail.tail.tail.tail.tail 3)
def ptv (l : List Int) : List S44 × List Int := ptsOf (cntv l).toNat l.tail.tail.tail.tail.tail.tail []
def drawOf (l : List Int) : S48 := ⟨kindv l, nextv l.tail 9, nextv l.tail.tail 256, nextv l.tail.tail.tail 5, [(ptv l).1], if kindv l = 4 then txt (nextv (ptv l).2 5) else ⟨#[]⟩⟩
def restOf (l : List Int) : List Int := if kindv l = 4 then (ptv l).2.tail else (ptv l).2
def drawsOf : Nat → List Int → List S48 → List S48
  | 0, _, acc => acc
  | m + 1, l, acc => drawsOf m (restOf l) (acc ++ [drawOf l])
theorem manyv_in {K u v : Int} (h0 : 1 ≤ K) (h1 : K ≤ 4) (hu : 0 ≤ u ∧ u < 3) (hv : 0 ≤ v ∧ v < 3) : 0 ≤ manyv K u v ∧ manyv K u v ≤ 5 := by
  have hK : K = 1 ∨ K = 2 ∨ K = 3 ∨ K = 4 := by omega
  rcases hK with rfl | rfl | rfl | rfl
  · show (0 : Int) ≤ 1 ∧ (1 : Int) ≤ 5; omega
  · show (0 : Int) ≤ 2 + u ∧ 2 + u ≤ 5; omega
  · show (0 : Int) ≤ 3 + v ∧ 3 + v ≤ 5; omega
  · show (0 : Int) ≤ 1 ∧ (1 : Int) ≤ 5; omega
/-! ### the states -/
section
variable {w W W' : World} {b q : Nat} {l l' : List Int} {out : List S48} {vO : Value} {h g : Nat} {cs cs' : Array Value}
theorem RG {α : Type} {d : Kd α} {e : Nat} {ok : Nat → Prop} {v : Value} {xs : List α} (h : d.R e W (q + 1) ok v xs) (hk : KeptG b W W') (hq : b < q) : d.R e W' (q + 1) ok v xs :=
  Kd.R_mono (Kd.R_step (Kd.R_bound h) (fun k hk' hlt => hk.2.1 k hlt (by have := hk'.2.1; omega))) (fun k hk' => hk'.1)
/-- Between two commands: the stream, the variable, the list so far (its blocks below h). -/
def Dq (w W : World) (b q : Nat) (l : List Int) (out : List S48) (vO : Value) (h : Nat) : Prop :=
  StB W b l ∧ Var W q b ∧ b < q ∧ Below b w W ∧ q + 1 ≤ h ∧ h ≤ W.heap.size ∧ Kd.R k48 48 W (q + 1) (fun k => k < h) vO out
/-- A command in the block g. -/
def Dx (w W : World) (b q : Nat) (l : List Int) (out : List S48) (vO : Value) (h g : Nat) (cs : Array Value) : Prop :=
  StB W b l ∧ Var W q b ∧ b < q ∧ Below b w W ∧ q + 1 ≤ h ∧ h ≤ g ∧ Kd.R k48 48 W (q + 1) (fun k => k < h) vO out ∧ W.heap[g]? = some (.cells cs 48 (0, 0))
theorem Dq_start (h0 : StB W b l) (h1 : Var W q b) (h2 : b < q) (h3 : Below b w W) (h4 : Kd.R k48 48 W (q + 1) (fun _ => True) vO out) : Dq w W b q l out vO W.heap.size :=
  ⟨h0, h1, h2, h3, blk_lt h1, Nat.le_refl _, Kd.R_mono (Kd.R_bound h4) (fun k hk => hk.2.2.1)⟩
theorem Dq_keep (hD : Dq w W b q l out vO h) (hs : StB W' b l') (hk : KeptG b W W') : Dq w W' b q l' out vO h := by
  obtain ⟨h1, h2, h3, h4, h5, h6, h7⟩ := hD
  exact ⟨hs, hk.blk h2 (by omega), h3, h4.trans (hk.1 b (Nat.le_refl _)), h5, Nat.le_trans h6 hk.2.2, RG h7 hk h3⟩
theorem Dq_below (hD : Dq w W b q l out vO h) (hb : Below W.heap.size W W') : Dq w W' b q l out vO h :=
  Dq_keep hD (StB_below hD.1 (hb.mono (StB_lt hD.1))) (KeptG.below hb (StB_lt hD.1))
theorem Dx_keep (hD : Dx w W b q l out vO h g cs) (hs : StB W' b l') (hk : KeptG b W W') : Dx w W' b q l' out vO h g cs := by
  obtain ⟨h1, h2, h3, h4, h5, h6, h7, h8⟩ := hD
  exact ⟨hs, hk.blk h2 (by omega), h3, h4.trans (hk.1 b (Nat.le_refl _)), h5, h6, RG h7 hk h3, hk.blk h8 (by omega)⟩
theorem Dx_below (hD : Dx w W b q l out vO h g cs) (hb : Below W.heap.size W W') : Dx w W' b q l out vO h g cs :=
  Dx_keep hD (StB_below hD.1 (hb.mono (StB_lt hD.1))) (KeptG.below hb (StB_lt hD.1))
theorem Dx_new (hD : Dq w W b q l out vO h) (hg : g = W.heap.size) (hb : Below W.heap.size W W') (hc : W'.heap[g]? = some (.cells cs 48 (0, 0))) : Dx w W' b q l out vO h g cs := by
  obtain ⟨h1, h2, h3, h4, h5, h6, h7⟩ := Dq_below hD hb
  have := hD.2.2.2.2.2.1
  exact ⟨h1, h2, h3, h4, h5, by omega, h7, hc⟩
theorem Dx_set (hD : Dx w W b q l out vO h g cs) (i : Nat) (v : Value) (hc : cs.setIfInBounds i v = cs') : Dx w (W.setCell ⟨g, i, none⟩ v) b q l out vO h g cs' := by
  obtain ⟨h1, h2, h3, h4, h5, h6, h7, h8⟩ := hD
  have hb : Below g W (W.setCell ⟨g, i, none⟩ v) := (Below.refl g W).setCell (p := ⟨g, i, none⟩) (Nat.le_refl _) v
  exact ⟨StB_below h1 (hb.mono (by omega)), (hb.block q (by omega)).trans h2, h3, h4.trans (hb.mono (by omega)), h5, h6, Kd.R_far (p := ⟨g, i, none⟩) h7 (fun k hk => by show k ≠ g; omega) v, blk_put h8 i v hc⟩
theorem Rx_set {α : Type} {d : Kd α} {e : Nat} {v' : Value} {xs : List α} (hR : d.R e W (q + 1) (fun k => h ≤ k ∧ k ≠ g) v' xs) (i : Nat) (v : Value) : d.R e (W.setCell ⟨g, i, none⟩ v) (q + 1) (fun k => h ≤ k ∧ k ≠ g) v' xs :=
  Kd.R_far (p := ⟨g, i, none⟩) hR (fun k hk => hk.2) v
/-- A row of the command's own grows. -/
theorem Dx_grown {v1 : Value} {ok : Nat → Prop} (hD : Dx w W b q l out vO h g cs) {v : Value} (hb : Below (q + 1) W W') (hg : W.grownBy W' v.ownBlock) (hv : ∀ k, v.ownBlock = some k → h ≤ k ∧ k ≠ g) : Dx w W' b q l out vO h g cs := by
  obtain ⟨h1, h2, h3, h4, h5, h6, h7, h8⟩ := hD
  refine ⟨StB_below h1 (hb.mono (by omega)), (hb.block q (by omega)).trans h2, h3, h4.trans (hb.mono (by omega)), h5, h6, Kd.R_grown h7 hg (fun k hk he => ?_), blk_grown h8 hg (fun he => ?_)⟩
  · have := (hv k he.symm).1; omega
  · exact (hv g he.symm).2 rfl
theorem Dx_cells {c0 c1 c2 c3 c4 c5 : Value} (hD : Dx w W b q l out vO h g #[c0, c1, c2, c3, c4, c5]) : W.cell? ⟨g, 0, none⟩ = some c0 ∧ W.cell? ⟨g, 1, none⟩ = some c1 ∧ W.cell? ⟨g, 2, none⟩ = some c2 ∧ W.cell? ⟨g, 3, none⟩ = some c3 ∧ W.cell? ⟨g, 4, none⟩ = some c4 ∧ W.cell? ⟨g, 5, none⟩ = some c5 ∧ (∀ i, W.frozen? ⟨g, i, none⟩ = false) :=
  have k := hD.2.2.2.2.2.2.2
  ⟨(blk_cell k 0).trans rfl, (blk_cell k 1).trans rfl, (blk_cell k 2).trans rfl, (blk_cell k 3).trans rfl, (blk_cell k 4).trans rfl, (blk_cell k 5).trans rfl, fun i => blk_frozen k i⟩
theorem Var_cell (hv : Var W q b) : W.cell? ⟨q, 0, none⟩ = some (.pointer (some ⟨b, 0, none⟩)) := (blk_cell hv 0).trans rfl
theorem Dx_put6 {v0 v1 v2 v3 v4 v5 c0 c1 c2 c3 c4 c5 : Value} (hD : Dx w W b q l out vO h g #[c0, c1, c2, c3, c4, c5]) :
    Dx w ((((((W.setCell ⟨g, 0, none⟩ v0).setCell ⟨g, 1, none⟩ v1).setCell ⟨g, 2, none⟩ v2).setCell ⟨g, 3, none⟩ v3).setCell ⟨g, 4, none⟩ v4).setCell ⟨g, 5, none⟩ v5) b q l out vO h g #[v0, v1, v2, v3, v4, v5] :=
  Dx_set (cs := #[v0, v1, v2, v3, v4, c5]) (Dx_set (cs := #[v0, v1, v2, v3, c4, c5]) (Dx_set (cs := #[v0, v1, v2, c3, c4, c5]) (Dx_set (cs := #[v0, v1, c2, c3, c4, c5]) (Dx_set (cs := #[v0, c1, c2, c3, c4, c5]) (Dx_set hD 0 v0 rfl) 1 v1 rfl) 2 v2 rfl) 3 v3 rfl) 4 v4 rfl) 5 v5 rfl
end
/-- A literal's row. -/
theorem box_row {P : Program} {ops : Array Oper} {rest : List Oper} {o : Oper} {a : Act} {Q : Exit → Act → World → Prop} {W : World} (hgd : o.guard = none) {N : Tmp} (_hd : o.dst = some N) {cs : Array Value} {t : TypeId} {n : Nat}
    (hrun : (execOp a.eval o).run P W = .ok (.value (.slice (some ⟨W.heap.size, 0, none⟩) n n)) (W.alloc (.cells cs t (0, 0))))
    (h : ∀ g, g = W.heap.size → ∀ w1, w1.heap[g]? = some (.cells cs t (0, 0)) → Below W.heap.size W w1 → wpList P ops Q rest (a.put o.dst (.slice (some ⟨g, 0, none⟩) n n)) w1) : wpList P ops Q (o :: rest) a W :=
  Kd.event_run hgd hrun (h _ rfl _ (blk_new W _) (below_alloc (Below.refl _ _) _))
theorem txt_cell {W : World} {g : Nat} {V : Int} (h : W.heap[g]? = some (.cells #[.string ⟨#[65, 108, 100, 101, 114]⟩, .string ⟨#[66, 105, 114, 99, 104]⟩, .string ⟨#[67, 111, 118, 101]⟩, .string ⟨#[109, 109]⟩, .string ⟨#[105]⟩] 9 (0, 0))) (hV : 0 ≤ V ∧ V < 5) : W.cell? ⟨g, V.toNat, none⟩ = some (.string (txt V)) := by
  refine (blk_cell h _).trans ?_
  have hk : V = 0 ∨ V = 1 ∨ V = 2 ∨ V = 3 ∨ V = 4 := by omega
  rcases hk with rfl | rfl | rfl | rfl | rfl <;> rfl
theorem draw_eq {K M : Int} {l l4 l6 l1 : List Int} {pt : List S44} {tx : ByteArray} (h1 : K = kindv l) (h2 : l4 = l.tail.tail.tail.tail) (h3 : M = manyv K (nextv l4 3) (nextv l4.tail 3)) (h4 : l6 = l4.tail.tail) (h5 : (pt, l1) = ptsOf M.toNat l6 []) (h6 : tx = if K = 4 then txt (nextv l1 5) else ⟨#[]⟩) :
    (⟨K, nextv l.tail 9, nextv l.tail.tail 256, nextv l.tail.tail.tail 5, [pt], tx⟩ : S48) = drawOf l := by
  subst h1 h2 h4 h6
  have e : ptv l = (pt, l1) := by rw [h5, h3]; rfl
  unfold drawOf
  rw [e]
theorem rest_eq {K M : Int} {l l4 l6 l1 lx : List Int} {pt : List S44} (h1 : K = kindv l) (h2 : l4 = l.tail.tail.tail.tail) (h3 : M = manyv K (nextv l4 3) (nextv l4.tail 3)) (h4 : l6 = l4.tail.tail) (h5 : (pt, l1) = ptsOf M.toNat l6 []) (h6 : lx = if K = 4 then l1.tail else l1) : lx = restOf l := by
  subst h1 h2 h4 h6
  have e : ptv l = (pt, l1) := by rw [h5, h3]; rfl
  unfold restOf
  rw [e]
/-! ### terrkeep5_Draws: function 37 -/
def terrkeep5_Draws.f (l0 : List Int) : Option (List (S48)) := some (drawsOf (nextv l0 6).toNat l0.tail [])
set_option maxHeartbeats 16000000 in
set_option maxRecDepth 100000 in
theorem terrkeep5_Draws.calls (A0 : Option Addr) (c0 : Nat) (l0 : List Int) (r : List (S48)) (w : World) (hr0 : Kd.C (Kd.int .i64) w A0 l0.length l0) (hc0 : l0.length ≤ c0) (h : terrkeep5_Draws.f l0 = some r) :
    Calls Try.prog 37 #[.slice A0 l0.length c0] w fun e w' => ∃ v0_ : Value, e = .returned (v0_) ∧ Kd.R k48 48 w' w.heap.size (fun _ => True) v0_ r ∧ Below w.heap.size w w' := by
  obtain rfl := Option.some.inj h
  obtain ⟨b, hb⟩ : ∃ b, b = w.heap.size := ⟨_, rfl⟩
  have HBb := Aside0.mk hb
  have HRd := Aside0.mk (Kd.reads_of_C (enc := Value.int .i64) (d := (0 : Int)) (h1 := fun _ => rfl) hr0)
  have HC0 := Aside0.mk hc0
  clear hr0 hc0 h hb
  go_enter Try.func37, Try.ntmps37
  go_upto_region 2 with (first | ((with_reducible refine gate_dst (N := 11) rfl ?_); refine box_event ?hg (N := 11) ?hd (cs := #[.slice A0 l0.length c0]) (t := 85) ?hr ?_; (case hd => rfl); (case hg => rfl); (case hr => first | (go_simp; done) | (go_simp; rfl)); rw [← HBb.out]; intro g5 hg5 w5 hbox hb5; have hg2 := hg5.symm; clear hg5; subst hg2; have HS5 := Aside0.mk (show StB w5 b l0 from ⟨A0, c0, hbox, HC0.out, HRd.out.below (by rw [HBb.out] at hb5; exact hb5), fun ad e hp => (by obtain ⟨ad', e', hc'⟩ := HRd.out.2.2 hp; rw [e] at e'; obtain rfl := Option.some.inj e'; have h0 := World.block_lt_of_cell? _ _ (hc' 0 hp); rw [add_block] at h0; rw [HBb.out]; exact h0)⟩); have HB5 := Aside0.mk hb5; clear hbox hb5) | ((with_reducible refine gate_dst (N := 3) rfl ?_); refine box_event ?hg (N := 3) ?hd (cs := #[.pointer none]) (t := 83) ?hr ?_; (case hd => rfl); (case hg => rfl); (case hr => first | (go_simp; done) | (go_simp; rfl)); intro q hq w6 hbox hb6; have hcq : w6.cell? ⟨q, 0, none⟩ = some (.pointer none) := (blk_cell hbox 0).trans rfl; have hfq := blk_frozen hbox 0; have HQ := Aside0.mk hq; have HB6 := Aside0.mk hb6; have BQ := Aside0.mk hbox; clear hbox hb6 hq))
  have HD := Aside0.mk (show StB (w6.setCell ⟨q, 0, none⟩ (.pointer (some ⟨b, 0, none⟩))) b l0 ∧ Var (w6.setCell ⟨q, 0, none⟩ (.pointer (some ⟨b, 0, none⟩))) q b ∧ b < q ∧ Below b w (w6.setCell ⟨q, 0, none⟩ (.pointer (some ⟨b, 0, none⟩))) from by
    have hbq : b < q := by rw [HQ.out]; exact StB_lt HS5.out
    have hset : Below q w6 (w6.setCell ⟨q, 0, none⟩ (.pointer (some ⟨b, 0, none⟩))) := (Below.refl q w6).setCell (p := ⟨q, 0, none⟩) (Nat.le_refl _) _
    exact ⟨StB_below (StB_below HS5.out (HB6.out.mono (by rw [← HQ.out]; omega))) (hset.mono (by omega)), blk_put BQ.out 0 _ rfl, hbq, (HB5.out.trans (HB6.out.mono (by rw [← HQ.out]; omega))).trans (hset.mono (by omega))⟩)
  generalize w6.setCell ⟨q, 0, none⟩ (.pointer (some ⟨b, 0, none⟩)) = W7 at HD ⊢
  clear hcq hfq HB6 HQ BQ HS5 HB5
  have hcv := Var_cell HD.out.2.1
  obtain ⟨n6, hn6⟩ : ∃ n, n = nextv l0 6 := ⟨_, rfl⟩
  have h60 := nextv_in l0 6 (by omega)
  rw [← hn6] at h60
  have HN6 := Aside0.mk hn6
  have H60 := Aside0.mk h60
  clear hn6 h60
  go_wp2_with ((with_reducible refine gate_dst (N := 13) rfl ?_); refine goesL_ (some 13) rfl rfl Try.func52 (by kernel_rfl) rfl #[.pointer (some ⟨b, 0, none⟩), .int .i64 6] rfl (by (try simp only [List.map_toArray, List.map_cons, List.map_nil]); first | done | rfl) ?_; (refine (stb_next b l0 6 _ HD.out.1 (by decide) (by decide)).mono ?_); rintro r_ W_8 ⟨rfl, hs_, hk_⟩; rw [← HN6.out]; refine ⟨_, rfl, ?_⟩; have n0_ := Aside0.mk (show StB W_8 b l0.tail ∧ Var W_8 q b ∧ b < q ∧ Below b w W_8 from ⟨hs_, hk_.G.blk HD.out.2.1 (Nat.ne_of_gt HD.out.2.2.1), HD.out.2.2.1, HD.out.2.2.2.trans (hk_.1 b (Nat.le_refl _))⟩); clear HD hs_ hk_; have HD := n0_; clear n0_)
  clear hcv
  go_loopg [4, 14] n6.toNat (fun kq v4 v14 w' => ∃ (x : Int) (l : List Int) (out : List S48), v14 = .int .i64 x ∧ Aside0 (0 ≤ x) ∧ Aside0 (x + (kq : Int) = n6) ∧ Aside0 (drawsOf kq l out = drawsOf n6.toNat l0.tail []) ∧ Aside0 (out.length + kq ≤ 6) ∧ Aside0 (StB w' b l ∧ Var w' q b ∧ b < q ∧ Below b w w' ∧ Kd.R k48 48 w' (q + 1) (fun _ => True) v4 out))
  case atStart => exact ⟨0, l0.tail, [], rfl, ⟨Int.le_refl _⟩, ⟨by have := H60.out.1; omega⟩, ⟨rfl⟩, ⟨by have := H60.out; simp; omega⟩, ⟨HD.out.1, HD.out.2.1, HD.out.2.2.1, HD.out.2.2.2, Kd.R_nil _ _ _ _ _⟩⟩
  case round =>
    clear HD
    obtain ⟨x, l, out, rfl, HX0, HXn, HF, HL, HW⟩ := hrel
    obtain ⟨Ao, co, eo⟩ := Kd.R_slice HW.out.2.2.2.2
    cases gk with
    | zero =>
      have hi : decide (x < n6) = false := decide_eq_false (by have := HXn.out; omega)
      go_wp2
      go_ret
      exact ⟨_, rfl, by rw [← HN6.out, ← HF.out, drawsOf]; exact Kd.R_lower HW.out.2.2.2.2 (by have := HW.out.2.2.1; have h2 := HBb.out; omega), by rw [← HBb.out]; exact HW.out.2.2.2.1⟩
    | succ m =>
      subst eo
      have hi : decide (x < n6) = true := decide_eq_true (by have := HXn.out; omega)
      have w1 : wrap64 (x + 1) = x + 1 := by have h1 := HXn.out; have h2 := H60.out; have h3 := HX0.out; rw [wrapF] <;> omega
      obtain ⟨Kn, hK0⟩ : ∃ n, n = kindv l := ⟨_, rfl⟩
      have b4 := nextv_in l 4 (by omega)
      have hK1 : 1 ≤ Kn ∧ Kn ≤ 4 := by rw [hK0]; unfold kindv; omega
      have wK : wrap64 (1 + nextv l 4) = Kn := by rw [hK0]; unfold kindv; rw [wrapF] <;> omega
      have HK0 := Aside0.mk hK0
      have HK1 := Aside0.mk hK1
      clear hK0 hK1 b4
      go_upto_region 5 with fail
      have HQ := Aside0.mk (Dq_start HW.out.1 HW.out.2.1 HW.out.2.2.1 HW.out.2.2.2.1 HW.out.2.2.2.2)
      clear HW
      obtain ⟨hh, hhe⟩ : ∃ n, n = wr.heap.size := ⟨_, rfl⟩
      rw [← hhe] at HQ
      have hcv := Var_cell HQ.out.2.1
      clear hhe
      refine start_ (n := 12) (S := fun w' => w'.cell? ⟨q, 0, none⟩ = some (.pointer (some ⟨b, 0, none⟩))) (ds := [11]) #[false, false, false, false, false, false, false, false, false, false, false, false] (by kernel_rfl) rfl rfl hcv (fun hHeld => ?_)
      replace HQ := Aside0.mk (Dq_below HQ.out (below_drew (Below.refl _ _)))
      clear hcv
      generalize wr.drew = W5 at HQ hHeld ⊢
      refine take_ (i := 0) (N := some 16) (v := ?_) (a' := ?_) #[true, false, false, false, false, false, false, false, false, false, false, false] rfl rfl (by kernel_rfl) (fun _ _ _ h => h) (Or.inl ⟨by rfl, ?_⟩) hHeld ?_ ?_
      rotate_left
      · rintro w' s0
        go_simp
        with_reducible rfl
      rotate_left
      · simp only [Act.put, List.setIfInBounds_toArray, List.set_cons_zero, List.set_cons_succ, i64_w, i32_w]
        rfl
      refine take_ (i := 3) (N := some 19) (v := ?_) (a' := ?_) #[true, false, false, true, false, false, false, false, false, false, false, false] rfl rfl (by kernel_rfl) (fun _ _ _ h => h) (Or.inl ⟨by rfl, ?_⟩) hHeld ?_ ?_
      rotate_left
      · rintro w' s0
        go_simp
        with_reducible rfl
      rotate_left
      · simp only [Act.put, List.setIfInBounds_toArray, List.set_cons_zero, List.set_cons_succ, i64_w, i32_w]
        rfl
      refine take_ (i := 5) (N := some 21) (v := ?_) (a' := ?_) #[true, false, false, true, false, true, false, false, false, false, false, false] rfl rfl (by kernel_rfl) (fun _ _ _ h => h) (Or.inl ⟨by rfl, ?_⟩) hHeld ?_ ?_
      rotate_left
      · rintro w' s0
        go_simp
        with_reducible rfl
      rotate_left
      · simp only [Act.put, List.setIfInBounds_toArray, List.set_cons_zero, List.set_cons_succ, i64_w, i32_w]
        rfl
      refine take_ (i := 7) (N := some 23) (v := ?_) (a' := ?_) #[true, false, false, true, false, true, false, true, false, false, false, false] rfl rfl (by kernel_rfl) (fun _ _ _ h => h) (Or.inl ⟨by rfl, ?_⟩) hHeld ?_ ?_
      rotate_left
      · rintro w' s0
        go_simp
        with_reducible rfl
      rotate_left
      · simp only [Act.put, List.setIfInBounds_toArray, List.set_cons_zero, List.set_cons_succ, i64_w, i32_w]
        rfl
      refine join_ (σ := Nat) 1 #[true, true, true, true, true, true, true, true, true, true, true, false] (fun s_ => [(17, .int .i64 (nextv l 4)), (20, .int .i64 (nextv l.tail 9)), (22, .int .i64 (nextv l.tail.tail 256)), (24, .int .i64 (nextv l.tail.tail.tail 5)), (18, .int .i64 Kn), (25, .agg #[.int .i64 Kn, .int .i64 (nextv l.tail 9), .int .i64 (nextv l.tail.tail 256), .int .i64 (nextv l.tail.tail.tail 5), .slice none 0 0, .string ⟨#[]⟩]), (5, .pointer (some ⟨s_, 0, none⟩))]) (fun s_ w' => (w'.cell? ⟨q, 0, none⟩ = some (.pointer (some ⟨b, 0, none⟩))) ∧ Dx w w' b q l.tail.tail.tail.tail out (.slice Ao out.length co) hh s_ #[.int .i64 0, .int .i64 0, .int .i64 0, .int .i64 0, .slice none 0 0, .string (⟨#[]⟩ : ByteArray)]) ?_ ?_
      rotate_left
      · intro hJ4
        refine join_ (σ := Nat) 3 #[true, true, true, true, true, true, true, true, false, false, true, false] (fun s_ => [(17, .int .i64 (nextv l 4)), (20, .int .i64 (nextv l.tail 9)), (22, .int .i64 (nextv l.tail.tail 256)), (18, .int .i64 Kn), (5, .pointer (some ⟨s_, 0, none⟩))]) (fun s_ w' => (w'.cell? ⟨q, 0, none⟩ = some (.pointer (some ⟨b, 0, none⟩))) ∧ Dx w w' b q l.tail.tail.tail out (.slice Ao out.length co) hh s_ #[.int .i64 0, .int .i64 0, .int .i64 0, .int .i64 0, .slice none 0 0, .string (⟨#[]⟩ : ByteArray)]) ?_ ?_
        rotate_left
        · intro hJ3
          refine join_ (σ := Nat) 4 #[true, true, true, true, true, true, false, true, false, false, true, false] (fun s_ => [(17, .int .i64 (nextv l 4)), (20, .int .i64 (nextv l.tail 9)), (18, .int .i64 Kn), (5, .pointer (some ⟨s_, 0, none⟩))]) (fun s_ w' => (w'.cell? ⟨q, 0, none⟩ = some (.pointer (some ⟨b, 0, none⟩))) ∧ Dx w w' b q l.tail.tail out (.slice Ao out.length co) hh s_ #[.int .i64 0, .int .i64 0, .int .i64 0, .int .i64 0, .slice none 0 0, .string (⟨#[]⟩ : ByteArray)]) ?_ ?_
          rotate_left
          · intro hJ2
            refine join_ (σ := Nat) 5 #[true, true, true, true, false, true, false, true, false, false, true, false] (fun s_ => [(17, .int .i64 (nextv l 4)), (18, .int .i64 Kn), (5, .pointer (some ⟨s_, 0, none⟩))]) (fun s_ w' => (w'.cell? ⟨q, 0, none⟩ = some (.pointer (some ⟨b, 0, none⟩))) ∧ Dx w w' b q l.tail out (.slice Ao out.length co) hh s_ #[.int .i64 0, .int .i64 0, .int .i64 0, .int .i64 0, .slice none 0 0, .string (⟨#[]⟩ : ByteArray)]) ?_ ?_
            rotate_left
            · intro hJ1
              refine join_ (σ := Nat) 7 #[true, false, false, true, false, true, false, true, false, false, true, false] (fun s_ => [(5, .pointer (some ⟨s_, 0, none⟩))]) (fun s_ w' => (w'.cell? ⟨q, 0, none⟩ = some (.pointer (some ⟨b, 0, none⟩))) ∧ Dx w w' b q l out (.slice Ao out.length co) hh s_ #[.int .i64 0, .int .i64 0, .int .i64 0, .int .i64 0, .slice none 0 0, .string (⟨#[]⟩ : ByteArray)]) ?_ ?_
              rotate_left
              · intro hJ0
                refine two_ (i := 1) (j := 10) (Ni := some 17) (Nj := some 5) #[true, true, false, true, false, true, false, true, false, false, false, false] #[true, false, false, true, false, true, false, true, false, false, true, false] rfl rfl rfl rfl (by kernel_rfl) (by decide) (by decide) (fun K hK => ?_) (fun K hK => ?_)
                rotate_left
                · skip
                  refine box_step ?hg (N := 5) ?hd (cs := #[.int .i64 0, .int .i64 0, .int .i64 0, .int .i64 0, .slice none 0 0, .string (⟨#[]⟩ : ByteArray)]) (t := 48) ?hr ?_; (case hd => rfl); (case hg => rfl); (case hr => first | (go_simp; done) | (go_simp; rfl))
                  intro g hg Wa0 hbox hb
                  have HXn := Aside0.mk (Dx_new HQ.out hg hb hbox)
                  clear hbox hb hg hHeld
                  refine hK.out _ _ (Var_cell HXn.out.2.1) (fun hHeld => ?_)
                  clear hK K
                  refine norm_ (a' := ?_) ?_ ?_
                  rotate_left
                  · show Act.put _ (some 5) _ = _
                    simp only [Act.put, List.setIfInBounds_toArray, List.set_cons_zero, List.set_cons_succ, i64_w, i32_w]
                    rfl
                  exact norm_ (by first | (simp only [putAll, Act.put, List.setIfInBounds_toArray, List.set_cons_zero, List.set_cons_succ]; done) | (simp only [putAll, Act.put, List.setIfInBounds_toArray, List.set_cons_zero, List.set_cons_succ]; rfl)) (hJ0 g _ ⟨hHeld, HXn.out⟩)
                refine goes_ Try.func52 (by kernel_rfl) rfl #[.pointer (some ⟨b, 0, none⟩), .int .i64 4] (by rfl) rfl rfl (by (try simp only [List.map_toArray, List.map_cons, List.map_nil]); first | done | rfl) ?_
                refine (stb_next b l 4 _ HQ.out.1 (by decide) (by decide)).mono ?_
                rintro r_ Wb0 ⟨rfl, hs_, hk_⟩
                refine ⟨_, rfl, ?_⟩
                have HQ1 := Aside0.mk (Dq_keep HQ.out hs_ hk_.G)
                clear hs_ hk_ hHeld
                refine hK.out _ _ (Var_cell HQ1.out.2.1) (fun hHeld => ?_)
                clear hK K
                refine norm_ (a' := ?_) ?_ ?_
                rotate_left
                · show Act.put _ (some 17) _ = _
                  simp only [Act.put, List.setIfInBounds_toArray, List.set_cons_zero, List.set_cons_succ, i64_w, i32_w]
                  rfl
                refine pure_ (i := 2) (N := some 18) (v := ?_) (a' := ?_) #[true, true, true, true, false, true, false, true, false, false, false, false] rfl rfl (by kernel_rfl) (fun _ _ _ h => h) (Or.inl ⟨by rfl, ?_⟩) ?_ ?_
                rotate_left
                · intro w'
                  go_simp
                  first | (rw [i64_w, wK]; done) | (rw [i64_w, wK]; with_reducible rfl)
                rotate_left
                · simp only [Act.put, List.setIfInBounds_toArray, List.set_cons_zero, List.set_cons_succ, i64_w, i32_w]
                  rfl
                refine two_ (i := 4) (j := 10) (Ni := some 20) (Nj := some 5) #[true, true, true, true, true, true, false, true, false, false, false, false] #[true, true, true, true, false, true, false, true, false, false, true, false] rfl rfl rfl rfl (by kernel_rfl) (by decide) (by decide) (fun K hK => ?_) (fun K hK => ?_)
                rotate_left
                · skip
                  refine box_step ?hg (N := 5) ?hd (cs := #[.int .i64 0, .int .i64 0, .int .i64 0, .int .i64 0, .slice none 0 0, .string (⟨#[]⟩ : ByteArray)]) (t := 48) ?hr ?_; (case hd => rfl); (case hg => rfl); (case hr => first | (go_simp; done) | (go_simp; rfl))
                  intro g hg Wa1 hbox hb
                  have HXn := Aside0.mk (Dx_new HQ1.out hg hb hbox)
                  clear hbox hb hg hHeld
                  refine hK.out _ _ (Var_cell HXn.out.2.1) (fun hHeld => ?_)
                  clear hK K
                  refine norm_ (a' := ?_) ?_ ?_
                  rotate_left
                  · show Act.put _ (some 5) _ = _
                    simp only [Act.put, List.setIfInBounds_toArray, List.set_cons_zero, List.set_cons_succ, i64_w, i32_w]
                    rfl
                  exact norm_ (by first | (simp only [putAll, Act.put, List.setIfInBounds_toArray, List.set_cons_zero, List.set_cons_succ]; done) | (simp only [putAll, Act.put, List.setIfInBounds_toArray, List.set_cons_zero, List.set_cons_succ]; rfl)) (hJ1 g _ ⟨hHeld, HXn.out⟩)
                refine goes_ Try.func52 (by kernel_rfl) rfl #[.pointer (some ⟨b, 0, none⟩), .int .i64 9] (by rfl) rfl rfl (by (try simp only [List.map_toArray, List.map_cons, List.map_nil]); first | done | rfl) ?_
                refine (stb_next b l.tail 9 _ HQ1.out.1 (by decide) (by decide)).mono ?_
                rintro r_ Wb1 ⟨rfl, hs_, hk_⟩
                refine ⟨_, rfl, ?_⟩
                have HQ2 := Aside0.mk (Dq_keep HQ1.out hs_ hk_.G)
                clear hs_ hk_ hHeld
                refine hK.out _ _ (Var_cell HQ2.out.2.1) (fun hHeld => ?_)
                clear hK K
                refine norm_ (a' := ?_) ?_ ?_
                rotate_left
                · show Act.put _ (some 20) _ = _
                  simp only [Act.put, List.setIfInBounds_toArray, List.set_cons_zero, List.set_cons_succ, i64_w, i32_w]
                  rfl
                refine two_ (i := 6) (j := 10) (Ni := some 22) (Nj := some 5) #[true, true, true, true, true, true, true, true, false, false, false, false] #[true, true, true, true, true, true, false, true, false, false, true, false] rfl rfl rfl rfl (by kernel_rfl) (by decide) (by decide) (fun K hK => ?_) (fun K hK => ?_)
                rotate_left
                · skip
                  refine box_step ?hg (N := 5) ?hd (cs := #[.int .i64 0, .int .i64 0, .int .i64 0, .int .i64 0, .slice none 0 0, .string (⟨#[]⟩ : ByteArray)]) (t := 48) ?hr ?_; (case hd => rfl); (case hg => rfl); (case hr => first | (go_simp; done) | (go_simp; rfl))
                  intro g hg Wa2 hbox hb
                  have HXn := Aside0.mk (Dx_new HQ2.out hg hb hbox)
                  clear hbox hb hg hHeld
                  refine hK.out _ _ (Var_cell HXn.out.2.1) (fun hHeld => ?_)
                  clear hK K
                  refine norm_ (a' := ?_) ?_ ?_
                  rotate_left
                  · show Act.put _ (some 5) _ = _
                    simp only [Act.put, List.setIfInBounds_toArray, List.set_cons_zero, List.set_cons_succ, i64_w, i32_w]
                    rfl
                  exact norm_ (by first | (simp only [putAll, Act.put, List.setIfInBounds_toArray, List.set_cons_zero, List.set_cons_succ]; done) | (simp only [putAll, Act.put, List.setIfInBounds_toArray, List.set_cons_zero, List.set_cons_succ]; rfl)) (hJ2 g _ ⟨hHeld, HXn.out⟩)
                refine goes_ Try.func52 (by kernel_rfl) rfl #[.pointer (some ⟨b, 0, none⟩), .int .i64 256] (by rfl) rfl rfl (by (try simp only [List.map_toArray, List.map_cons, List.map_nil]); first | done | rfl) ?_
                refine (stb_next b l.tail.tail 256 _ HQ2.out.1 (by decide) (by decide)).mono ?_
                rintro r_ Wb2 ⟨rfl, hs_, hk_⟩
                refine ⟨_, rfl, ?_⟩
                have HQ3 := Aside0.mk (Dq_keep HQ2.out hs_ hk_.G)
                clear hs_ hk_ hHeld
                refine hK.out _ _ (Var_cell HQ3.out.2.1) (fun hHeld => ?_)
                clear hK K
                refine norm_ (a' := ?_) ?_ ?_
                rotate_left
                · show Act.put _ (some 22) _ = _
                  simp only [Act.put, List.setIfInBounds_toArray, List.set_cons_zero, List.set_cons_succ, i64_w, i32_w]
                  rfl
                refine two_ (i := 8) (j := 10) (Ni := some 24) (Nj := some 5) #[true, true, true, true, true, true, true, true, true, false, false, false] #[true, true, true, true, true, true, true, true, false, false, true, false] rfl rfl rfl rfl (by kernel_rfl) (by decide) (by decide) (fun K hK => ?_) (fun K hK => ?_)
                rotate_left
                · skip
                  refine box_step ?hg (N := 5) ?hd (cs := #[.int .i64 0, .int .i64 0, .int .i64 0, .int .i64 0, .slice none 0 0, .string (⟨#[]⟩ : ByteArray)]) (t := 48) ?hr ?_; (case hd => rfl); (case hg => rfl); (case hr => first | (go_simp; done) | (go_simp; rfl))
                  intro g hg Wa3 hbox hb
                  have HXn := Aside0.mk (Dx_new HQ3.out hg hb hbox)
                  clear hbox hb hg hHeld
                  refine hK.out _ _ (Var_cell HXn.out.2.1) (fun hHeld => ?_)
                  clear hK K
                  refine norm_ (a' := ?_) ?_ ?_
                  rotate_left
                  · show Act.put _ (some 5) _ = _
                    simp only [Act.put, List.setIfInBounds_toArray, List.set_cons_zero, List.set_cons_succ, i64_w, i32_w]
                    rfl
                  exact norm_ (by first | (simp only [putAll, Act.put, List.setIfInBounds_toArray, List.set_cons_zero, List.set_cons_succ]; done) | (simp only [putAll, Act.put, List.setIfInBounds_toArray, List.set_cons_zero, List.set_cons_succ]; rfl)) (hJ3 g _ ⟨hHeld, HXn.out⟩)
                refine goes_ Try.func52 (by kernel_rfl) rfl #[.pointer (some ⟨b, 0, none⟩), .int .i64 5] (by rfl) rfl rfl (by (try simp only [List.map_toArray, List.map_cons, List.map_nil]); first | done | rfl) ?_
                refine (stb_next b l.tail.tail.tail 5 _ HQ3.out.1 (by decide) (by decide)).mono ?_
                rintro r_ Wb3 ⟨rfl, hs_, hk_⟩
                refine ⟨_, rfl, ?_⟩
                have HQ4 := Aside0.mk (Dq_keep HQ3.out hs_ hk_.G)
                clear hs_ hk_ hHeld
                refine hK.out _ _ (Var_cell HQ4.out.2.1) (fun hHeld => ?_)
                clear hK K
                refine norm_ (a' := ?_) ?_ ?_
                rotate_left
                · show Act.put _ (some 24) _ = _
                  simp only [Act.put, List.setIfInBounds_toArray, List.set_cons_zero, List.set_cons_succ, i64_w, i32_w]
                  rfl
                refine pure_ (i := 9) (N := some 25) (v := ?_) (a' := ?_) #[true, true, true, true, true, true, true, true, true, true, false, false] rfl rfl (by kernel_rfl) (fun _ _ _ h => h) (Or.inl ⟨by rfl, ?_⟩) ?_ ?_
                rotate_left
                · intro w'
                  go_simp
                  with_reducible rfl
                rotate_left
                · simp only [Act.put, List.setIfInBounds_toArray, List.set_cons_zero, List.set_cons_succ, i64_w, i32_w]
                  rfl
                refine one_ (i := 10) (N := some 5) #[true, true, true, true, true, true, true, true, true, true, true, false] rfl rfl (by kernel_rfl) (by decide) (fun K hK => ?_)
                refine box_step ?hg (N := 5) ?hd (cs := #[.int .i64 0, .int .i64 0, .int .i64 0, .int .i64 0, .slice none 0 0, .string (⟨#[]⟩ : ByteArray)]) (t := 48) ?hr ?_; (case hd => rfl); (case hg => rfl); (case hr => first | (go_simp; done) | (go_simp; rfl))
                intro g hg Wa4 hbox hb
                have HXn := Aside0.mk (Dx_new HQ4.out hg hb hbox)
                clear hbox hb hg hHeld
                refine hK.out _ _ (Var_cell HXn.out.2.1) (fun hHeld => ?_)
                clear hK K
                refine norm_ (a' := ?_) ?_ ?_
                rotate_left
                · show Act.put _ (some 5) _ = _
                  simp only [Act.put, List.setIfInBounds_toArray, List.set_cons_zero, List.set_cons_succ, i64_w, i32_w]
                  rfl
                exact norm_ (by first | (simp only [putAll, Act.put, List.setIfInBounds_toArray, List.set_cons_zero, List.set_cons_succ]; done) | (simp only [putAll, Act.put, List.setIfInBounds_toArray, List.set_cons_zero, List.set_cons_succ]; rfl)) (hJ4 g _ ⟨hHeld, HXn.out⟩)
              rintro g Wj0 ⟨hHeld, hX⟩
              have HX0 := Aside0.mk hX
              clear hX
              refine norm_ (a' := ?_) ?_ ?_
              rotate_left
              · simp only [putAll, Act.put, List.setIfInBounds_toArray, List.set_cons_zero, List.set_cons_succ]
                rfl
              refine one_ (i := 1) (N := some 17) #[true, true, false, true, false, true, false, true, false, false, true, false] rfl rfl (by kernel_rfl) (by decide) (fun K hK => ?_)
              refine goes_ Try.func52 (by kernel_rfl) rfl #[.pointer (some ⟨b, 0, none⟩), .int .i64 4] (by rfl) rfl rfl (by (try simp only [List.map_toArray, List.map_cons, List.map_nil]); first | done | rfl) ?_
              refine (stb_next b l 4 _ HX0.out.1 (by decide) (by decide)).mono ?_
              rintro r_ Wk1 ⟨rfl, hs_, hk_⟩
              refine ⟨_, rfl, ?_⟩
              have HX1 := Aside0.mk (Dx_keep HX0.out hs_ hk_.G)
              clear hs_ hk_ hHeld
              refine hK.out _ _ (Var_cell HX1.out.2.1) (fun hHeld => ?_)
              clear hK K
              refine norm_ (a' := ?_) ?_ ?_
              rotate_left
              · show Act.put _ (some 17) _ = _
                simp only [Act.put, List.setIfInBounds_toArray, List.set_cons_zero, List.set_cons_succ, i64_w, i32_w]
                rfl
              refine pure_ (i := 2) (N := some 18) (v := ?_) (a' := ?_) #[true, true, true, true, false, true, false, true, false, false, true, false] rfl rfl (by kernel_rfl) (fun _ _ _ h => h) (Or.inl ⟨by rfl, ?_⟩) ?_ ?_
              rotate_left
              · intro w'
                go_simp
                first | (rw [i64_w, wK]; done) | (rw [i64_w, wK]; with_reducible rfl)
              rotate_left
              · simp only [Act.put, List.setIfInBounds_toArray, List.set_cons_zero, List.set_cons_succ, i64_w, i32_w]
                rfl
              exact norm_ (by first | (simp only [putAll, Act.put, List.setIfInBounds_toArray, List.set_cons_zero, List.set_cons_succ]; done) | (simp only [putAll, Act.put, List.setIfInBounds_toArray, List.set_cons_zero, List.set_cons_succ]; rfl)) (hJ1 g _ ⟨hHeld, HX1.out⟩)
            rintro g Wj1 ⟨hHeld, hX⟩
            have HX0 := Aside0.mk hX
            clear hX
            refine norm_ (a' := ?_) ?_ ?_
            rotate_left
            · simp only [putAll, Act.put, List.setIfInBounds_toArray, List.set_cons_zero, List.set_cons_succ]
              rfl
            refine one_ (i := 4) (N := some 20) #[true, true, true, true, true, true, false, true, false, false, true, false] rfl rfl (by kernel_rfl) (by decide) (fun K hK => ?_)
            refine goes_ Try.func52 (by kernel_rfl) rfl #[.pointer (some ⟨b, 0, none⟩), .int .i64 9] (by rfl) rfl rfl (by (try simp only [List.map_toArray, List.map_cons, List.map_nil]); first | done | rfl) ?_
            refine (stb_next b l.tail 9 _ HX0.out.1 (by decide) (by decide)).mono ?_
            rintro r_ Wk2 ⟨rfl, hs_, hk_⟩
            refine ⟨_, rfl, ?_⟩
            have HX1 := Aside0.mk (Dx_keep HX0.out hs_ hk_.G)
            clear hs_ hk_ hHeld
            refine hK.out _ _ (Var_cell HX1.out.2.1) (fun hHeld => ?_)
            clear hK K
            refine norm_ (a' := ?_) ?_ ?_
            rotate_left
            · show Act.put _ (some 20) _ = _
              simp only [Act.put, List.setIfInBounds_toArray, List.set_cons_zero, List.set_cons_succ, i64_w, i32_w]
              rfl
            exact norm_ (by first | (simp only [putAll, Act.put, List.setIfInBounds_toArray, List.set_cons_zero, List.set_cons_succ]; done) | (simp only [putAll, Act.put, List.setIfInBounds_toArray, List.set_cons_zero, List.set_cons_succ]; rfl)) (hJ2 g _ ⟨hHeld, HX1.out⟩)
          rintro g Wj2 ⟨hHeld, hX⟩
          have HX0 := Aside0.mk hX
          clear hX
          refine norm_ (a' := ?_) ?_ ?_
          rotate_left
          · simp only [putAll, Act.put, List.setIfInBounds_toArray, List.set_cons_zero, List.set_cons_succ]
            rfl
          refine one_ (i := 6) (N := some 22) #[true, true, true, true, true, true, true, true, false, false, true, false] rfl rfl (by kernel_rfl) (by decide) (fun K hK => ?_)
          refine goes_ Try.func52 (by kernel_rfl) rfl #[.pointer (some ⟨b, 0, none⟩), .int .i64 256] (by rfl) rfl rfl (by (try simp only [List.map_toArray, List.map_cons, List.map_nil]); first | done | rfl) ?_
          refine (stb_next b l.tail.tail 256 _ HX0.out.1 (by decide) (by decide)).mono ?_
          rintro r_ Wk3 ⟨rfl, hs_, hk_⟩
          refine ⟨_, rfl, ?_⟩
          have HX1 := Aside0.mk (Dx_keep HX0.out hs_ hk_.G)
          clear hs_ hk_ hHeld
          refine hK.out _ _ (Var_cell HX1.out.2.1) (fun hHeld => ?_)
          clear hK K
          refine norm_ (a' := ?_) ?_ ?_
          rotate_left
          · show Act.put _ (some 22) _ = _
            simp only [Act.put, List.setIfInBounds_toArray, List.set_cons_zero, List.set_cons_succ, i64_w, i32_w]
            rfl
          exact norm_ (by first | (simp only [putAll, Act.put, List.setIfInBounds_toArray, List.set_cons_zero, List.set_cons_succ]; done) | (simp only [putAll, Act.put, List.setIfInBounds_toArray, List.set_cons_zero, List.set_cons_succ]; rfl)) (hJ3 g _ ⟨hHeld, HX1.out⟩)
        rintro g Wj3 ⟨hHeld, hX⟩
        have HX0 := Aside0.mk hX
        clear hX
        refine norm_ (a' := ?_) ?_ ?_
        rotate_left
        · simp only [putAll, Act.put, List.setIfInBounds_toArray, List.set_cons_zero, List.set_cons_succ]
          rfl
        refine one_ (i := 8) (N := some 24) #[true, true, true, true, true, true, true, true, true, false, true, false] rfl rfl (by kernel_rfl) (by decide) (fun K hK => ?_)
        refine goes_ Try.func52 (by kernel_rfl) rfl #[.pointer (some ⟨b, 0, none⟩), .int .i64 5] (by rfl) rfl rfl (by (try simp only [List.map_toArray, List.map_cons, List.map_nil]); first | done | rfl) ?_
        refine (stb_next b l.tail.tail.tail 5 _ HX0.out.1 (by decide) (by decide)).mono ?_
        rintro r_ Wk4 ⟨rfl, hs_, hk_⟩
        refine ⟨_, rfl, ?_⟩
        have HX1 := Aside0.mk (Dx_keep HX0.out hs_ hk_.G)
        clear hs_ hk_ hHeld
        refine hK.out _ _ (Var_cell HX1.out.2.1) (fun hHeld => ?_)
        clear hK K
        refine norm_ (a' := ?_) ?_ ?_
        rotate_left
        · show Act.put _ (some 24) _ = _
          simp only [Act.put, List.setIfInBounds_toArray, List.set_cons_zero, List.set_cons_succ, i64_w, i32_w]
          rfl
        refine pure_ (i := 9) (N := some 25) (v := ?_) (a' := ?_) #[true, true, true, true, true, true, true, true, true, true, true, false] rfl rfl (by kernel_rfl) (fun _ _ _ h => h) (Or.inl ⟨by rfl, ?_⟩) ?_ ?_
        rotate_left
        · intro w'
          go_simp
          with_reducible rfl
        rotate_left
        · simp only [Act.put, List.setIfInBounds_toArray, List.set_cons_zero, List.set_cons_succ, i64_w, i32_w]
          rfl
        exact norm_ (by first | (simp only [putAll, Act.put, List.setIfInBounds_toArray, List.set_cons_zero, List.set_cons_succ]; done) | (simp only [putAll, Act.put, List.setIfInBounds_toArray, List.set_cons_zero, List.set_cons_succ]; rfl)) (hJ4 g _ ⟨hHeld, HX1.out⟩)
      rintro g Wx ⟨hHeld, hX⟩
      have HX := Aside0.mk hX
      clear hX HQ
      refine norm_ (a' := ?_) ?_ ?_
      rotate_left
      · simp only [putAll, Act.put, List.setIfInBounds_toArray, List.set_cons_zero, List.set_cons_succ]
        rfl
      obtain ⟨hc0, hc1, hc2, hc3, hc4, hc5, hcf⟩ := Dx_cells HX.out
      have hf0 := hcf 0
      have hf1 := hcf 1
      have hf2 := hcf 2
      have hf3 := hcf 3
      have hf4 := hcf 4
      have hf5 := hcf 5
      clear hcf
      refine last_ (i := 11) (N := none) #[true, true, true, true, true, true, true, true, true, true, true, true] rfl rfl (by kernel_rfl) (by decide) (fun K hK => ?_)
      refine skip_ (w1 := ?_) (by rfl) rfl ?_ ?_
      rotate_left
      · go_simp
        rfl
      refine hK.out _ _ ?_
      clear hK K
      refine done_ (by kernel_rfl) ?_
      have HX := Aside0.mk (Dx_put6 (v0 := .int .i64 Kn) (v1 := .int .i64 (nextv l.tail 9)) (v2 := .int .i64 (nextv l.tail.tail 256)) (v3 := .int .i64 (nextv l.tail.tail.tail 5)) (v4 := .slice none 0 0) (v5 := .string ⟨#[]⟩) HX.out)
      generalize (((((Wx.setCell ⟨g, 0, none⟩ (.int .i64 Kn)).setCell ⟨g, 1, none⟩ (.int .i64 (nextv l.tail 9))).setCell ⟨g, 2, none⟩ (.int .i64 (nextv l.tail.tail 256))).setCell ⟨g, 3, none⟩ (.int .i64 (nextv l.tail.tail.tail 5))).setCell ⟨g, 4, none⟩ (.slice none 0 0)).setCell ⟨g, 5, none⟩ (.string ⟨#[]⟩) = W6 at HX ⊢
      clear hc0 hc1 hc2 hc3 hc4 hc5 hf0 hf1 hf2 hf3 hf4 hf5 hHeld
      obtain ⟨l4, hl4⟩ : ∃ l_, l_ = l.tail.tail.tail.tail := ⟨_, rfl⟩
      have HL4 := Aside0.mk hl4
      rw [← hl4] at HX
      clear hl4
      have b5 := nextv_in l4 3 (by omega)
      have b6 := nextv_in l4.tail 3 (by omega)
      have w5 : wrap64 (2 + nextv l4 3) = 2 + nextv l4 3 := by rw [wrapF] <;> omega
      have w6 : wrap64 (3 + nextv l4.tail 3) = 3 + nextv l4.tail 3 := by rw [wrapF] <;> omega
      obtain ⟨M, hM⟩ : ∃ n, n = manyv Kn (nextv l4 3) (nextv l4.tail 3) := ⟨_, rfl⟩
      have hM1 := manyv_in HK1.out.1 HK1.out.2 b5 b6
      rw [← hM] at hM1
      have HM := Aside0.mk hM
      have HM1 := Aside0.mk hM1
      clear hM hM1 b5 b6
      go_upto_region 7 with fail
      obtain ⟨hc0, hc1, hc2, hc3, hc4, hc5, hcf⟩ := Dx_cells HX.out
      clear hc1 hc2 hc3 hc4 hc5 hcf
      have hcv := Var_cell HX.out.2.1
      refine start_ (n := 12) (S := fun w' => w'.cell? ⟨q, 0, none⟩ = some (.pointer (some ⟨b, 0, none⟩)) ∧ w'.cell? ⟨g, 0, none⟩ = some (.int .i64 Kn)) (ds := [11]) #[false, false, false, false, false, false, false, false, false, false, false, false] (by kernel_rfl) rfl rfl ⟨hcv, hc0⟩ (fun hHeld => ?_)
      replace HX := Aside0.mk (Dx_below HX.out (below_drew (Below.refl _ _)))
      clear hcv hc0
      generalize W6.drew = W7a at HX hHeld ⊢
      refine take_ (i := 0) (N := some 27) (v := ?_) (a' := ?_) #[true, false, false, false, false, false, false, false, false, false, false, false] rfl rfl (by kernel_rfl) (fun _ _ _ h => h) (Or.inl ⟨by rfl, ?_⟩) hHeld ?_ ?_
      rotate_left
      · rintro w' ⟨s0, s1⟩
        go_simp
        with_reducible rfl
      rotate_left
      · simp only [Act.put, List.setIfInBounds_toArray, List.set_cons_zero, List.set_cons_succ, i64_w, i32_w]
        rfl
      refine take_ (i := 3) (N := some 30) (v := ?_) (a' := ?_) #[true, false, false, true, false, false, false, false, false, false, false, false] rfl rfl (by kernel_rfl) (fun _ _ _ h => h) (Or.inl ⟨by rfl, ?_⟩) hHeld ?_ ?_
      rotate_left
      · rintro w' ⟨s0, s1⟩
        go_simp
        with_reducible rfl
      rotate_left
      · simp only [Act.put, List.setIfInBounds_toArray, List.set_cons_zero, List.set_cons_succ, i64_w, i32_w]
        rfl
      refine pure_ (i := 7) (N := some 34) (v := ?_) (a' := ?_) #[true, false, false, true, false, false, false, true, false, false, false, false] rfl rfl (by kernel_rfl) (fun _ _ _ h => h) (Or.inl ⟨by rfl, ?_⟩) ?_ ?_
      rotate_left
      · intro w'
        go_simp
        with_reducible rfl
      rotate_left
      · simp only [Act.put, List.setIfInBounds_toArray, List.set_cons_zero, List.set_cons_succ, i64_w, i32_w]
        rfl
      refine take_ (i := 8) (N := some 35) (v := ?_) (a' := ?_) #[true, false, false, true, false, false, false, true, true, false, false, false] rfl rfl (by kernel_rfl) (fun _ _ _ h => h) (Or.inl ⟨by rfl, ?_⟩) hHeld ?_ ?_
      rotate_left
      · rintro w' ⟨s0, s1⟩
        go_simp
        with_reducible rfl
      rotate_left
      · simp only [Act.put, List.setIfInBounds_toArray, List.set_cons_zero, List.set_cons_succ, i64_w, i32_w]
        rfl
      refine one_ (i := 1) (N := some 28) #[true, true, false, true, false, false, false, true, true, false, false, false] rfl rfl (by kernel_rfl) (by decide) (fun K hK => ?_)
      refine goes_ Try.func52 (by kernel_rfl) rfl #[.pointer (some ⟨b, 0, none⟩), .int .i64 3] (by rfl) rfl rfl (by (try simp only [List.map_toArray, List.map_cons, List.map_nil]); first | done | rfl) ?_
      refine (stb_next b l4 3 _ HX.out.1 (by decide) (by decide)).mono ?_
      rintro r_ W7b ⟨rfl, hs_, hk_⟩
      refine ⟨_, rfl, ?_⟩
      have HX1 := Aside0.mk (Dx_keep HX.out hs_ hk_.G)
      clear hs_ hk_ hHeld HX
      refine hK.out _ _ ⟨Var_cell HX1.out.2.1, (Dx_cells HX1.out).1⟩ (fun hHeld => ?_)
      clear hK K
      refine norm_ (a' := ?_) ?_ ?_
      rotate_left
      · show Act.put _ (some 28) _ = _
        simp only [Act.put, List.setIfInBounds_toArray, List.set_cons_zero, List.set_cons_succ, i64_w, i32_w]
        rfl
      refine pure_ (i := 2) (N := some 29) (v := ?_) (a' := ?_) #[true, true, true, true, false, false, false, true, true, false, false, false] rfl rfl (by kernel_rfl) (fun _ _ _ h => h) (Or.inl ⟨by rfl, ?_⟩) ?_ ?_
      rotate_left
      · intro w'
        go_simp
        with_reducible rfl
      rotate_left
      · simp only [Act.put, List.setIfInBounds_toArray, List.set_cons_zero, List.set_cons_succ, i64_w, i32_w]
        rfl
      refine one_ (i := 4) (N := some 31) #[true, true, true, true, true, false, false, true, true, false, false, false] rfl rfl (by kernel_rfl) (by decide) (fun K hK => ?_)
      refine goes_ Try.func52 (by kernel_rfl) rfl #[.pointer (some ⟨b, 0, none⟩), .int .i64 3] (by rfl) rfl rfl (by (try simp only [List.map_toArray, List.map_cons, List.map_nil]); first | done | rfl) ?_
      refine (stb_next b l4.tail 3 _ HX1.out.1 (by decide) (by decide)).mono ?_
      rintro r_ W7c ⟨rfl, hs_, hk_⟩
      refine ⟨_, rfl, ?_⟩
      have HX2 := Aside0.mk (Dx_keep HX1.out hs_ hk_.G)
      clear hs_ hk_ hHeld HX1
      refine hK.out _ _ ⟨Var_cell HX2.out.2.1, (Dx_cells HX2.out).1⟩ (fun hHeld => ?_)
      clear hK K
      refine norm_ (a' := ?_) ?_ ?_
      rotate_left
      · show Act.put _ (some 31) _ = _
        simp only [Act.put, List.setIfInBounds_toArray, List.set_cons_zero, List.set_cons_succ, i64_w, i32_w]
        rfl
      refine pure_ (i := 5) (N := some 32) (v := ?_) (a' := ?_) #[true, true, true, true, true, true, false, true, true, false, false, false] rfl rfl (by kernel_rfl) (fun _ _ _ h => h) (Or.inl ⟨by rfl, ?_⟩) ?_ ?_
      rotate_left
      · intro w'
        go_simp
        with_reducible rfl
      rotate_left
      · simp only [Act.put, List.setIfInBounds_toArray, List.set_cons_zero, List.set_cons_succ, i64_w, i32_w]
        rfl
      refine one_ (i := 6) (N := some 33) #[true, true, true, true, true, true, true, true, true, false, false, false] rfl rfl (by kernel_rfl) (by decide) (fun K hK => ?_)
      refine value_ (v := ?_) (w1 := W7c.alloc (.cells #[.int .i64 0, .int .i64 1, .int .i64 (2 + nextv l4 3), .int .i64 (3 + nextv l4.tail 3), .int .i64 1] 3)) (by rfl) rfl ?_ ?_
      rotate_left
      · go_simp
        rfl
      have HX3 := Aside0.mk (Dx_below HX2.out (below_alloc (Below.refl _ _) (.cells #[.int .i64 0, .int .i64 1, .int .i64 (2 + nextv l4 3), .int .i64 (3 + nextv l4.tail 3), .int .i64 1] 3)))
      have hmc : (W7c.alloc (.cells #[.int .i64 0, .int .i64 1, .int .i64 (2 + nextv l4 3), .int .i64 (3 + nextv l4.tail 3), .int .i64 1] 3)).cell? ⟨W7c.heap.size, Kn.toNat, none⟩ = some (.int .i64 M) := by
        rw [World.cell?_alloc_mark, HM.out]
        have hK1 := HK1.out
        have hk : Kn = 1 ∨ Kn = 2 ∨ Kn = 3 ∨ Kn = 4 := by omega
        unfold manyv
        rcases hk with rfl | rfl | rfl | rfl <;> rfl
      have pK : (0 ≤ Kn) = True := eq_true (by have := HK1.out; omega)
      have qK : (Kn < 5) = True := eq_true (by have := HK1.out; omega)
      clear hHeld
      refine hK.out _ _ ⟨Var_cell HX3.out.2.1, (Dx_cells HX3.out).1⟩ (fun hHeld => ?_)
      clear hK K HX2
      refine norm_ (a' := ?_) ?_ ?_
      rotate_left
      · show Act.put _ (some 33) _ = _
        simp only [Act.put, List.setIfInBounds_toArray, List.set_cons_zero, List.set_cons_succ, i64_w, i32_w]
        rfl
      generalize W7c.alloc (.cells #[.int .i64 0, .int .i64 1, .int .i64 (2 + nextv l4 3), .int .i64 (3 + nextv l4.tail 3), .int .i64 1] 3) = W7d at HX3 hHeld hmc ⊢
      refine pure_ (i := 9) (N := some 36) (v := ?_) (a' := ?_) #[true, true, true, true, true, true, true, true, true, true, false, false] rfl rfl (by kernel_rfl) (fun _ _ _ h => h) (Or.inl ⟨by rfl, ?_⟩) ?_ ?_
      rotate_left
      · intro w'
        go_simp
        with_reducible rfl
      rotate_left
      · simp only [Act.put, List.setIfInBounds_toArray, List.set_cons_zero, List.set_cons_succ, i64_w, i32_w]
        rfl
      refine one_ (i := 10) (N := some 37) #[true, true, true, true, true, true, true, true, true, true, true, false] rfl rfl (by kernel_rfl) (by decide) (fun K hK => ?_)
      refine value_ (v := ?_) (w1 := W7d) (by rfl) rfl ?_ ?_
      rotate_left
      · go_simp
        rfl
      refine hK.out _ _ hHeld (fun hHeld => ?_)
      clear hK K
      refine norm_ (a' := ?_) ?_ ?_
      rotate_left
      · show Act.put _ (some 37) _ = _
        simp only [Act.put, List.setIfInBounds_toArray, List.set_cons_zero, List.set_cons_succ, i64_w, i32_w]
        rfl
      clear hmc
      refine last_ (i := 11) (N := some 7) #[true, true, true, true, true, true, true, true, true, true, true, true] rfl rfl (by kernel_rfl) (by decide) (fun K hK => ?_)
      refine value_ (v := ?_) (w1 := W7d) (by rfl) rfl ?_ ?_
      rotate_left
      · go_simp
        rfl
      refine hK.out _ _ ?_
      clear hK K hHeld
      have HX := HX3
      clear HX3
      refine done_ (by kernel_rfl) ?_
      obtain ⟨l6, hl6⟩ : ∃ l_, l_ = l4.tail.tail := ⟨_, rfl⟩
      have HL6 := Aside0.mk hl6
      rw [← hl6] at HX
      clear hl6
      go_wp2
      go_loopg [8, 39] M.toNat (fun kq v8 v39 w' => ∃ (y : Int) (l1 : List Int) (pt : List S44), v39 = .int .i64 y ∧ Aside0 (0 ≤ y) ∧ Aside0 (y + (kq : Int) = M) ∧ Aside0 (ptsOf kq l1 pt = ptsOf M.toNat l6 []) ∧ Aside0 (pt.length + kq ≤ 6) ∧ Aside0 (Dx w w' b q l1 out (.slice Ao out.length co) hh g #[.int .i64 Kn, .int .i64 (nextv l.tail 9), .int .i64 (nextv l.tail.tail 256), .int .i64 (nextv l.tail.tail.tail 5), .slice none 0 0, .string ⟨#[]⟩]) ∧ Aside0 (Kd.R k44 44 w' (q + 1) (fun k => hh ≤ k ∧ k ≠ g) v8 pt))
      case atStart => exact ⟨0, l6, [], rfl, ⟨Int.le_refl _⟩, ⟨by have := HM1.out.1; omega⟩, ⟨rfl⟩, ⟨by have := HM1.out; simp; omega⟩, HX, ⟨Kd.R_nil _ _ _ _ _⟩⟩
      case round =>
        clear HX
        obtain ⟨y, l1, pt, rfl, HY0, HY, HFP, HPL, HX, HP⟩ := hrel
        obtain ⟨Ap, cp, ep⟩ := Kd.R_slice HP.out
        subst ep
        cases gk with
        | zero =>
          have hy : decide (y < M) = false := decide_eq_false (by have := HY.out; omega)
          have HFP' := Aside0.mk (show (pt, l1) = ptsOf M.toNat l6 [] from by rw [← HFP.out]; rfl)
          clear HFP
          obtain ⟨hc0, hc1, hc2, hc3, hc4, hc5, hcf⟩ := Dx_cells HX.out
          have hf4 := hcf 4
          clear hc0 hc1 hc2 hc3 hc5 hcf
          go_upto_region 14 with ((with_reducible refine gate_dst (N := 48) rfl ?_); refine Kd.R_lit (Kd.slice 44 k44) (q + 1) 35 ?hg (N := 48) ?hd (xs := ([pt] : List (List S44))) (inner := [.slice Ap pt.length cp]) (ok := (fun k => hh ≤ k ∧ k ≠ g)) (okp := (fun k => hh ≤ k ∧ k ≠ g)) ?hr ?hp (fun _ hk => hk) ?hF (Below.refl _ _) ?hS (by simp) ?_; (case hd => rfl); (case hg => rfl); (case hr => first | (go_simp; done) | (go_simp; rfl)); (case hp => exact (Reps.one (show Kd.M (Kd.slice 44 k44) _ _ _ pt [.slice Ap pt.length cp] from ⟨_, rfl, HP.out⟩) (Reps.none _ _))); (case hF => have h1 := blk_lt HX.out.2.2.2.2.2.2.2; have h2 := HX.out.2.2.2.2.2.1; exact ⟨by omega, by omega⟩); (case hS => have h1 := blk_lt HX.out.2.1; omega); intro vS W13 ho hb hg hnew; obtain ⟨As, cs_, es⟩ := Kd.R_slice ho; subst es; have n0_ := Aside0.mk (Dx_grown (v1 := .slice none 0 0) (v := .slice none 0 0) (ok := fun _ => True) HX.out hb hg (fun k hk => by simp [Value.ownBlock] at hk)); have HSS := Aside0.mk ho; clear HX HP ho hb hg hnew; have HX := n0_; clear n0_; obtain ⟨hd0, hd1, hd2, hd3, hd4, hd5, hdf⟩ := Dx_cells HX.out; have hf4 := hdf 4; clear hd0 hd1 hd2 hd3 hd5 hdf)
          have HX := Aside0.mk (Dx_set (cs' := #[.int .i64 Kn, .int .i64 (nextv l.tail 9), .int .i64 (nextv l.tail.tail 256), .int .i64 (nextv l.tail.tail.tail 5), .slice As [pt].length cs_, .string ⟨#[]⟩]) HX.out 4 (.slice As [pt].length cs_) rfl)
          have HSS := Aside0.mk (Rx_set HSS.out 4 (.slice As [pt].length cs_))
          generalize W13.setCell ⟨g, 4, none⟩ (.slice As [pt].length cs_) = W14 at HX HSS ⊢
          clear hc4 hf4
          obtain ⟨hc0, hc1, hc2, hc3, hc4, hc5, hcf⟩ := Dx_cells HX.out
          have hf5 := hcf 5
          clear hc1 hc2 hc3 hc4 hcf
          go_upto_if 52 with fail
          go_cut [] (fun wc => ∃ (lx : List Int) (tx : ByteArray), Aside0 (lx = if Kn = 4 then l1.tail else l1) ∧ Aside0 (tx = if Kn = 4 then txt (nextv l1 5) else ⟨#[]⟩) ∧ Aside0 (Dx w wc b q lx out (.slice Ao out.length co) hh g #[.int .i64 Kn, .int .i64 (nextv l.tail 9), .int .i64 (nextv l.tail.tail 256), .int .i64 (nextv l.tail.tail.tail 5), .slice As [pt].length cs_, .string tx]) ∧ Aside0 (Kd.R (Kd.slice 44 k44) 35 wc (q + 1) (fun k => hh ≤ k ∧ k ≠ g) (.slice As [pt].length cs_) [pt]))
          case first =>
            by_cases cK : Kn = 4
            · have cK0 : (Kn == 4) = true := beq_iff_eq.mpr cK
              have cK1 : decide (Kn = 4) = true := decide_eq_true cK
              (first | rw [cK0] | rw [cK1] | skip)
              have hcv := Var_cell HX.out.2.1
              obtain ⟨V, hV⟩ : ∃ n, n = nextv l1 5 := ⟨_, rfl⟩
              have bV := nextv_in l1 5 (by omega)
              rw [← hV] at bV
              have HV := Aside0.mk hV
              have pV : (0 ≤ V) = True := eq_true bV.1
              have qV : (V < 5) = True := eq_true bV.2
              clear hV
              go_wp2_with (first | ((with_reducible refine gate_dst (N := 53) rfl ?_); refine box_row ?hg (N := 53) ?hd (cs := #[.string ⟨#[65, 108, 100, 101, 114]⟩, .string ⟨#[66, 105, 114, 99, 104]⟩, .string ⟨#[67, 111, 118, 101]⟩, .string ⟨#[109, 109]⟩, .string ⟨#[105]⟩]) (t := 9) (n := 5) ?hr ?_; (case hd => rfl); (case hg => rfl); (case hr => first | (go_simp; done) | (go_simp; rfl)); intro gt hgt Wt hbox hb; have n0_ := Aside0.mk (Dx_below HX.out hb); have n1_ := Aside0.mk (Kd.R_below HSS.out hb); have BT := Aside0.mk hbox; have HGT := Aside0.mk (show b < gt from by rw [hgt]; exact StB_lt HX.out.1); clear HX HSS hbox hb hgt hcv hc0 hc5 hf5; have HX := n0_; have HSS := n1_; clear n0_ n1_; have hcv := Var_cell HX.out.2.1) | ((with_reducible refine gate_dst (N := 55) rfl ?_); refine goesL_ (some 55) rfl rfl Try.func52 (by kernel_rfl) rfl #[.pointer (some ⟨b, 0, none⟩), .int .i64 5] rfl (by (try simp only [List.map_toArray, List.map_cons, List.map_nil]); first | done | rfl) ?_; (refine (stb_next b l1 5 _ HX.out.1 (by decide) (by decide)).mono ?_); rintro r_ Wu ⟨rfl, hs_, hk_⟩; rw [← HV.out]; refine ⟨_, rfl, ?_⟩; have n0_ := Aside0.mk (Dx_keep HX.out hs_ hk_.G); have n1_ := Aside0.mk (RG HSS.out hk_.G HX.out.2.2.1); have n2_ := Aside0.mk (hk_.G.blk BT.out (Nat.ne_of_gt HGT.out)); clear HX HSS BT hs_ hk_ hcv; have HX := n0_; have HSS := n1_; have BT := n2_; clear n0_ n1_ n2_; have hmt : Wu.cell? ⟨gt, V.toNat, none⟩ = some (.string (txt V)) := txt_cell BT.out bV; obtain ⟨hc0, hc1, hc2, hc3, hc4, hc5, hcf⟩ := Dx_cells HX.out; have hf5 := hcf 5; clear hc0 hc1 hc2 hc3 hc4 hcf))
              go_meet
              case rel => exact ⟨l1.tail, txt V, ⟨by rw [if_pos cK]⟩, ⟨by rw [if_pos cK, HV.out]⟩, ⟨Dx_set (cs' := #[.int .i64 Kn, .int .i64 (nextv l.tail 9), .int .i64 (nextv l.tail.tail 256), .int .i64 (nextv l.tail.tail.tail 5), .slice As [pt].length cs_, .string (txt V)]) HX.out 5 (.string (txt V)) rfl⟩, ⟨Rx_set HSS.out 5 (.string (txt V))⟩⟩
            · have cK0 : (Kn == 4) = false := beq_eq_false_iff_ne.mpr cK
              have cK1 : decide (Kn = 4) = false := decide_eq_false cK
              (first | rw [cK0] | rw [cK1] | skip)
              go_wp2
              go_meet
              case rel => exact ⟨l1, ⟨#[]⟩, ⟨by rw [if_neg cK]⟩, ⟨by rw [if_neg cK]⟩, HX, HSS⟩
          case rest =>
            clear HX HSS hc0 hc5 hf5
            obtain ⟨lx, tx, HLX, HTX, HX, HSS⟩ := hcut
            obtain ⟨hc0, hc1, hc2, hc3, hc4, hc5, hcf⟩ := Dx_cells HX.out
            clear hcf
            go_wp2_with ((with_reducible refine gate_builtin (b := .append) (xs := #[.tmp 59, .tmp 61]) rfl ?_); at_builtin; refine Kd.R_append k48 (q + 1) rfl (.tmp 59) (.tmp 61) 46 48 (.agg #[.int .i64 0, .int .i64 0, .int .i64 0, .int .i64 0, .slice none 0 0, .string ⟨#[]⟩]) 72 rfl Try.underlying46 info48d rfl (by decide) (by omega) (.slice Ao out.length co) out (⟨Kn, nextv l.tail 9, nextv l.tail.tail 256, nextv l.tail.tail.tail 5, [pt], tx⟩ : S48) [.int .i64 Kn, .int .i64 (nextv l.tail 9), .int .i64 (nextv l.tail.tail 256), .int .i64 (nextv l.tail.tail.tail 5), .slice As [pt].length cs_, .string tx] (fun _ => True) (fun k => hh ≤ k ∧ k ≠ g) rfl rfl ?aP ?aK (fun _ _ => trivial) ?aO (Below.refl _ _) ?aS ?aL ?_; (case aP => exact k48_mkM _ (q + 1) _ ⟨Kn, nextv l.tail 9, nextv l.tail.tail 256, nextv l.tail.tail.tail 5, [pt], tx⟩ HSS.out); (case aK => exact fun k hk => ⟨trivial, fun he => by have h1 := HX.out.2.2.2.2.2.2.1.1 k he.symm; omega⟩); (case aO => exact Kd.R_mono HX.out.2.2.2.2.2.2.1 (fun _ _ => trivial)); (case aS => have h1 := blk_lt HX.out.2.1; omega); (case aL => have := HL.out; omega); intro v1 W4 ho hb hg hat; have HW := Aside0.mk (show StB W4 b lx ∧ Var W4 q b ∧ b < q ∧ Below b w W4 ∧ Kd.R k48 48 W4 (q + 1) (fun _ => True) v1 (out ++ [(⟨Kn, nextv l.tail 9, nextv l.tail.tail 256, nextv l.tail.tail.tail 5, [pt], tx⟩ : S48)]) from ⟨StB_below HX.out.1 (hb.mono (by have := HX.out.2.2.1; omega)), (hb.block q (by omega)).trans HX.out.2.1, HX.out.2.2.1, HX.out.2.2.2.1.trans (hb.mono (by have := HX.out.2.2.1; omega)), ho⟩); clear ho hb hg hat HX HSS hc0 hc1 hc2 hc3 hc4 hc5)
            go_roundg m
            case rel => exact ⟨x + 1, lx, _, by first | rfl | rw [w1], ⟨by have := HX0.out; omega⟩, ⟨by have := HXn.out; omega⟩, ⟨by rw [← HF.out, drawsOf, ← draw_eq HK0.out HL4.out HM.out HL6.out HFP'.out HTX.out, ← rest_eq HK0.out HL4.out HM.out HL6.out HFP'.out HLX.out]⟩, ⟨by rw [List.length_append, List.length_singleton]; have := HL.out; omega⟩, HW⟩
            case measure => omega
        | succ m2 =>
          have hy : decide (y < M) = true := decide_eq_true (by have := HY.out; omega)
          have wy : wrap64 (y + 1) = y + 1 := by have h1 := HY.out; have h2 := HM1.out; have h3 := HY0.out; rw [wrapF] <;> omega
          go_wp2_with (first | ((with_reducible refine gate_dst (N := 43) rfl ?_); refine goesLF_ (some 43) rfl rfl Try.func53 (by kernel_rfl) rfl #[.pointer (some ⟨q, 0, none⟩)] rfl rfl ?_; refine (point_calls b q l1 _ HX.out.1 HX.out.2.1 HX.out.2.2.1).mono ?_; rintro e Wp ⟨rfl, hs_, hk_⟩; refine ⟨_, rfl, ?_⟩; have n0_ := Aside0.mk (Dx_keep HX.out hs_ hk_); have n1_ := Aside0.mk (RG HP.out hk_ HX.out.2.2.1); clear HX HP hs_ hk_; have HX := n0_; have HP := n1_; clear n0_ n1_) | ((with_reducible refine gate_builtin (b := .append) (xs := #[.tmp 41, .tmp 44]) rfl ?_); at_builtin; refine Kd.R_append k44 (q + 1) rfl (.tmp 41) (.tmp 44) 35 44 (.agg #[.int .i64 0, .int .i64 0]) 16 rfl Try.underlying35 info44d rfl (by decide) (by omega) (.slice Ap pt.length cp) pt (⟨nextv l1 300 - 20, nextv l1.tail 300 - 20⟩ : S44) [.int .i64 (nextv l1 300 - 20), .int .i64 (nextv l1.tail 300 - 20)] (fun k => hh ≤ k ∧ k ≠ g) (fun _ => False) rfl rfl ?aP (fun _ hk => hk.elim) ?aF HP.out (Below.refl _ _) ?aS ?aL ?_; (case aP => exact k44_mkM _ (q + 1) _ ⟨nextv l1 300 - 20, nextv l1.tail 300 - 20⟩); (case aF => exact (fun k hk => by have h1 := blk_lt HX.out.2.2.2.2.2.2.2; have h2 := HX.out.2.2.2.2.2.1; omega)); (case aS => have h1 := blk_lt HX.out.2.1; omega); (case aL => have := HPL.out; omega); intro v1 W4 ho hb hg hat; have n0_ := Aside0.mk (Dx_grown (v1 := v1) (ok := fun _ => True) HX.out hb hg HP.out.1); have n1_ := Aside0.mk ho; clear HX HP ho hb hg hat; have HX := n0_; have HP := n1_; clear n0_ n1_))
          go_roundg m2
          case rel => exact ⟨y + 1, l1.tail.tail, _, by first | rfl | rw [wy], ⟨by have := HY0.out; omega⟩, ⟨by have := HY.out; omega⟩, ⟨by rw [← HFP.out, ptsOf]⟩, ⟨by rw [List.length_append, List.length_singleton]; have := HPL.out; omega⟩, HX, HP⟩
          case measure => omega

end Go.Proofs.Ytjgoehhhjffpmaa.Q
