/- terrkeep5.wants: labels out of a list of numbers. No condition. -/
import Derived.Test.YtdmhnjpblpfbfaaQf53
namespace Go.Proofs.Ytdmhnjpblpfbfaa.Q
open Go.RowKit Go.Proofs.YtdmhnjpblpfbfaaW.PrintWords Go.Proofs.YtdmhnjpblpfbfaaW.PrintLast Go.Proofs.YtdmhnjpblpfbfaaW.PrintMore
attribute [local go_sem] max2_int min2_int max_two min_two max_three min_three max_four min_four
set_option linter.unusedVariables false
set_option linter.unusedSimpArgs false
theorem info36w : (Try.prog.info? 36).map (fun i => (i.zero, i.size, i.bytes)) = some (some (.agg #[.int .i64 0, .int .i64 0, .int .i64 0, .int .i64 0, .slice none 0 0, .string ⟨#[]⟩, .slice none 0 0, .int .i64 0]), 8, 104) := by kernel_rfl
theorem info42w : (Try.prog.info? 42).map (fun i => (i.zero, i.size, i.bytes)) = some (some (.agg #[.int .i64 0, .int .i64 0, .int .i64 0, .int .i64 0]), 4, 32) := by kernel_rfl
/-- A stream of numbers lies in block b, its numbers below it. -/
def StB (w : World) (b : Nat) (l : List Int) : Prop :=
  ∃ A c, w.heap[b]? = some (.cells #[.slice A l.length c] 77 (0, 0)) ∧ l.length ≤ c ∧ ReadsInt w .i64 A l.length l ∧ ∀ ad, A = some ad → 0 < l.length → ad.block < b
theorem StB_Str {w : World} {b : Nat} {l : List Int} (h : StB w b l) : Str w b l := by
  obtain ⟨A, c, h1, h2, h3, h4⟩ := h
  exact ⟨A, c, h1, h2, h3, fun ad e hp => Nat.ne_of_lt (h4 ad e hp)⟩
theorem StB_below {w W : World} {b : Nat} {l : List Int} (h : StB w b l) (hb : Below (b + 1) w W) : StB W b l := by
  obtain ⟨A, c, h1, h2, h3, h4⟩ := h
  refine ⟨A, c, (hb.block b (by omega)).trans h1, h2, ⟨h3.1, h3.2.1, fun hn => ?_⟩, h4⟩
  obtain ⟨ad, e, hc⟩ := h3.2.2 hn
  exact ⟨ad, e, fun j hj => (hb.cell (by rw [add_block]; have := h4 ad e hn; omega)).trans (hc j hj)⟩
set_option maxHeartbeats 1000000 in
theorem stb_some (b : Nat) (x : Int) (l : List Int) (n : Int) (w : World) (hs : StB w b (x :: l)) (h : 1 ≤ n) (h2 : n ≤ 1000000) :
    Calls Try.prog 53 #[.pointer (some ⟨b, 0, none⟩), .int .i64 n] w fun e w' => e = .returned (.int .i64 (nextv (x :: l) n)) ∧ StB w' b l ∧ Kept b w w' := by
  have hB := below_val l x n h h2
  obtain ⟨A, c, hb, hc, hr, hf⟩ := hs
  obtain ⟨ad, rfl, hx⟩ := hr.2.2 (by simp)
  have hx0 := hx 0 (by simp)
  have e0 : ad.add 0 = ad := rfl
  rw [e0] at hx0
  have hx1 : w.cell? ad = some (.int .i64 x) := hx0
  have hm := hr.2.1
  have hd := hr.drop_ (c := c) 1 (by simp) hc
  have HD := Lib.hid hd
  have HF := Lib.hid hf
  have HR := Lib.hid hr
  have HB := Lib.hid hB
  have hcell : w.cell? ⟨b, 0, none⟩ = some (.slice (some ad) (l.length + 1) c) := (blk_cell hb 0).trans rfl
  have hfr := blk_frozen hb 0
  have hn1 : decide (n < 1) = false := decide_eq_false (by omega)
  have hc1 : l.length + 1 ≤ c := by simpa using hc
  have hm1 : l.length + 1 ≤ 9223372036854775807 := by simpa using hm
  have HBL := Lib.hid hb
  clear hd hf hr hB hx hx0 e0 hm hc hb
  have hl : l.length ≤ maxLen := by unfold maxLen; omega
  unfold maxLen at hl
  clear hm1
  have HC := Lib.hid hcell
  by_cases c1 : c = 1
  all_goals
    go_enter Try.func53, Try.ntmps53
    go_wp2_with (go_at_call 18; refine (terrmake_Below.calls _ _ _ _ HB.out).mono ?_; rintro e w' ⟨rfl, hb⟩)
    go_ret
    refine ⟨rfl, ?_⟩
    obtain ⟨n, rfl⟩ := hb.out
  · have hd := HD.out
    rw [if_pos c1] at hd
    obtain ⟨g1, g2⟩ := str_after (l := l) (some ad) 0 HBL.out rfl (by omega) (by simpa using hd) (fun a ha hp => Nat.ne_of_lt (HF.out a ha (by simp)))
    obtain ⟨A, c', k1, k2, k3, k4⟩ := g1
    have e : Value.slice A l.length c' = Value.slice (some ad) l.length 0 := by
      have h1 := (blk_cell k1 0).symm
      have h2 : (w.setCell ⟨b, 0, none⟩ (.slice (some ad) l.length 0)).heap[b]? = some (.cells (#[.slice (some ad) (x :: l).length c].setIfInBounds 0 (.slice (some ad) l.length 0)) 77 (0, 0)) := blk_set HBL.out 0 _
      rw [h2] at k1
      have := (Obj.cells.inj (Option.some.inj k1)).1
      simpa using this.symm
    obtain ⟨e1, -, e3⟩ := Value.slice.inj e
    subst e1 e3
    exact ⟨⟨some ad, 0, k1, k2, k3, fun a ha hp => HF.out a ha (by simp)⟩, g2.drewN _⟩
  · have hd := HD.out
    rw [if_neg c1] at hd
    obtain ⟨g1, g2⟩ := str_after (l := l) (some (ad.add 1)) (c - 1) HBL.out rfl (by omega) (by simpa using hd) (fun a ha hp => by
      obtain rfl := Option.some.inj ha
      rw [add_block]
      exact Nat.ne_of_lt (HF.out ad rfl (by simp)))
    obtain ⟨A, c', k1, k2, k3, k4⟩ := g1
    have e : Value.slice A l.length c' = Value.slice (some (ad.add 1)) l.length (c - 1) := by
      have h2 : (w.setCell ⟨b, 0, none⟩ (.slice (some (ad.add 1)) l.length (c - 1))).heap[b]? = some (.cells (#[.slice (some ad) (x :: l).length c].setIfInBounds 0 (.slice (some (ad.add 1)) l.length (c - 1))) 77 (0, 0)) := blk_set HBL.out 0 _
      rw [h2] at k1
      have := (Obj.cells.inj (Option.some.inj k1)).1
      simpa using this.symm
    obtain ⟨e1, -, e3⟩ := Value.slice.inj e
    subst e1 e3
    have ha : ({ block := ad.block, off := ad.off + 1, spot := none } : Addr) = ad.add 1 := rfl
    exact ⟨⟨some (ad.add 1), c - 1, k1, k2, k3, fun a hA hp => by
      obtain rfl := Option.some.inj hA
      rw [add_block]
      exact HF.out ad rfl (by simp)⟩, g2.drewN _⟩
/-- Stream.Next, its numbers below it. -/
theorem stb_next (b : Nat) (l : List Int) (n : Int) (w : World) (hs : StB w b l) (h : 1 ≤ n) (h2 : n ≤ 1000000) :
    Calls Try.prog 53 #[.pointer (some ⟨b, 0, none⟩), .int .i64 n] w fun e w' => e = .returned (.int .i64 (nextv l n)) ∧ StB w' b l.tail ∧ Kept b w w' := by
  cases l with
  | nil =>
    have HS := Lib.hid hs
    obtain ⟨A, c, hb, hc, hr, hf⟩ := hs
    have hcell : w.cell? ⟨b, 0, none⟩ = some (.slice A 0 c) := (blk_cell hb 0).trans rfl
    clear hb hc hr hf
    go_enter Try.func53, Try.ntmps53
    go_wp2
    go_ret
    exact ⟨rfl, HS.out, Kept.refl _ _⟩
  | cons x l => exact stb_some b x l n w hs h h2
theorem put8 {W : World} {g : Nat} {t : TypeId} {c0 c1 c2 c3 c4 c5 c6 c7 v0 v1 v2 v3 v4 v5 v6 v7 : Value} (h : W.heap[g]? = some (.cells #[c0, c1, c2, c3, c4, c5, c6, c7] t (0, 0))) :
    ((((((((W.setCell ⟨g, 0, none⟩ v0).setCell ⟨g, 1, none⟩ v1).setCell ⟨g, 2, none⟩ v2).setCell ⟨g, 3, none⟩ v3).setCell ⟨g, 4, none⟩ v4).setCell ⟨g, 5, none⟩ v5).setCell ⟨g, 6, none⟩ v6).setCell ⟨g, 7, none⟩ v7).heap[g]? = some (.cells #[v0, v1, v2, v3, v4, v5, v6, v7] t (0, 0)) := by
  have h := blk_put (cs' := #[v0, c1, c2, c3, c4, c5, c6, c7]) h 0 v0 rfl
  have h := blk_put (cs' := #[v0, v1, c2, c3, c4, c5, c6, c7]) h 1 v1 rfl
  have h := blk_put (cs' := #[v0, v1, v2, c3, c4, c5, c6, c7]) h 2 v2 rfl
  have h := blk_put (cs' := #[v0, v1, v2, v3, c4, c5, c6, c7]) h 3 v3 rfl
  have h := blk_put (cs' := #[v0, v1, v2, v3, v4, c5, c6, c7]) h 4 v4 rfl
  have h := blk_put (cs' := #[v0, v1, v2, v3, v4, v5, c6, c7]) h 5 v5 rfl
  have h := blk_put (cs' := #[v0, v1, v2, v3, v4, v5, v6, c7]) h 6 v6 rfl
  have h := blk_put (cs' := #[v0, v1, v2, v3, v4, v5, v6, v7]) h 7 v7 rfl
  exact h
theorem put2 {W : World} {g : Nat} {t : TypeId} {c0 c1 v0 v1 : Value} (h : W.heap[g]? = some (.cells #[c0, c1] t (0, 0))) : ((W.setCell ⟨g, 0, none⟩ v0).setCell ⟨g, 1, none⟩ v1).heap[g]? = some (.cells #[v0, v1] t (0, 0)) :=
  blk_put (blk_put h 0 v0 rfl) 1 v1 rfl
/-! ### what the numbers come to -/
def boxesOf : Nat → List Int → List S42 → List S42 × List Int
  | 0, l, acc => (acc, l)
  | m + 1, l, acc => boxesOf m l.tail.tail.tail.tail (acc ++ [⟨⟨nextv l 60, nextv l.tail 40⟩, ⟨nextv l 60 + nextv l.tail.tail 30, nextv l.tail 40 + nextv l.tail.tail.tail 12⟩⟩])
def wantsOf : Nat → List Int → List S36 → List S36
  | 0, _, acc => acc
  | m + 1, l, acc => wantsOf m (boxesOf (nextv l.tail 4).toNat l.tail.tail []).2 (acc ++ [⟨z33, (boxesOf (nextv l.tail 4).toNat l.tail.tail []).1, nextv l 20⟩])
/-! ### the states -/
def Wo (w W : World) (b : Nat) (l : List Int) (out : List S36) (vO : Value) : Prop :=
  StB W b l ∧ Below b w W ∧ b + 1 ≤ W.heap.size ∧ Kd.R k36 36 W (b + 1) (fun _ => True) vO out
def Wi (w W : World) (b : Nat) (l : List Int) (out : List S36) (vO : Value) (g : Nat) (vB : Value) (bx : List S42) (wt : Int) : Prop :=
  StB W b l ∧ Below b w W ∧ W.heap[g]? = some (.cells #[.int .i64 0, .int .i64 0, .int .i64 0, .int .i64 0, .slice none 0 0, .string ⟨#[]⟩, vB, .int .i64 wt] 36 (0, 0)) ∧ b + 1 ≤ g ∧
    Kd.R k36 36 W (b + 1) (fun k => some k ≠ vB.ownBlock ∧ k ≠ g) vO out ∧ Kd.R k42 42 W (b + 1) (fun _ => True) vB bx
section
variable {w W W' : World} {b : Nat} {l l' : List Int} {out : List S36} {vO : Value} {g : Nat} {vB : Value} {bx : List S42} {wt : Int}
theorem R_next {α : Type} {d : Kd α} {e : Nat} {ok : Nat → Prop} {v : Value} {xs : List α} (h : d.R e W (b + 1) ok v xs) (hk : Kept b W W') : d.R e W' (b + 1) ok v xs :=
  Kd.R_mono (Kd.R_keep (Kd.R_bound h) hk.2.1 (fun k hk => by have := hk.2.1; omega)) (fun k hk => hk.1)
theorem Wo_next (h : Wo w W b l out vO) (hs : StB W' b l') (hk : Kept b W W') : Wo w W' b l' out vO :=
  ⟨hs, h.2.1.trans (hk.1 b (Nat.le_refl _)), by rw [hk.2.2]; exact h.2.2.1, R_next h.2.2.2 hk⟩
theorem Wi_next (h : Wi w W b l out vO g vB bx wt) (hs : StB W' b l') (hk : Kept b W W') : Wi w W' b l' out vO g vB bx wt := by
  obtain ⟨h1, h2, h3, h4, h5, h6⟩ := h
  exact ⟨hs, h2.trans (hk.1 b (Nat.le_refl _)), hk.2.1.blk h3 (by omega) (by simp), h4, R_next h5 hk, R_next h6 hk⟩
theorem Wi_below (h : Wi w W b l out vO g vB bx wt) (hb : Below W.heap.size W W') : Wi w W' b l out vO g vB bx wt := by
  obtain ⟨h1, h2, h3, h4, h5, h6⟩ := h
  have hg := blk_lt h3
  exact ⟨StB_below h1 (hb.mono (by omega)), h2.trans (hb.mono (by omega)), blk_below h3 hb, h4, Kd.R_below h5 hb, Kd.R_below h6 hb⟩
theorem Wo_below (h : Wo w W b l out vO) (hb : Below W.heap.size W W') : Wo w W' b l out vO :=
  ⟨StB_below h.1 (hb.mono h.2.2.1), h.2.1.trans (hb.mono (by have := h.2.2.1; omega)), Nat.le_trans h.2.2.1 hb.size, Kd.R_below h.2.2.2 hb⟩
theorem Wo_new (h : Wo w W b l out vO) (hg : W.heap.size ≤ g) (hb : Below W.heap.size W W') (hc : W'.heap[g]? = some (.cells #[.int .i64 0, .int .i64 0, .int .i64 0, .int .i64 0, .slice none 0 0, .string ⟨#[]⟩, .slice none 0 0, .int .i64 wt] 36 (0, 0))) :
    Wi w W' b l out vO g (.slice none 0 0) [] wt := by
  obtain ⟨h1, h2, h3, h4, h5⟩ := Wo_below h hb
  obtain ⟨_, _, k3, k4⟩ := h
  refine ⟨h1, h2, hc, by omega, Kd.R_mono (Kd.R_below (Kd.R_elderB k4 g hg) hb) (fun k hk => ⟨by simp [Value.ownBlock], hk.2⟩), Kd.R_nil _ _ _ _ _⟩
theorem Wi_app {v1 : Value} {bx' : List S42} (h : Wi w W b l out vO g vB bx wt) (hb : Below (b + 1) W W') (hg : W.grownBy W' vB.ownBlock) (hat : v1.ownBlock = vB.ownBlock ∨ ∃ b, v1.ownBlock = some b ∧ W.heap.size ≤ b)
    (ho : Kd.R k42 42 W' (b + 1) (fun _ => True) v1 bx') : Wi w (W'.setCell ⟨g, 6, none⟩ v1) b l out vO g v1 bx' wt := by
  obtain ⟨h1, h2, h3, h4, h5, h6⟩ := h
  have b0 := blk_grown h3 hg (Kd.R_ne h6 h3 (by decide))
  have r5 := Kd.R_after (ok := fun k => k ≠ g) (Kd.R_mono h5 (fun _ hk => ⟨hk.2, hk.1⟩)) hg hat
  have b1 := blk_put (cs' := #[.int .i64 0, .int .i64 0, .int .i64 0, .int .i64 0, .slice none 0 0, .string ⟨#[]⟩, v1, .int .i64 wt]) b0 6 v1 rfl
  have hs := (Below.refl (b + 1) W').setCell (p := ⟨g, 6, none⟩) h4 v1
  exact ⟨StB_below (StB_below h1 hb) hs, (h2.trans (hb.mono (by omega))).trans (hs.mono (by omega)), b1, h4, Kd.R_mono (Kd.R_far (p := ⟨g, 6, none⟩) r5 (fun _ hk => hk.1) v1) (fun k hk => ⟨hk.2, hk.1⟩), Kd.R_set ho b0 (by decide) _ _⟩
theorem Wi_out {v1 : Value} {out' : List S36} (h : Wi w W b l out vO g vB bx wt) (hb : Below (b + 1) W W') (ho : Kd.R k36 36 W' (b + 1) (fun _ => True) v1 out') : Wo w W' b l out' v1 := by
  obtain ⟨h1, h2, h3, h4, h5, h6⟩ := h
  have := blk_lt h3
  exact ⟨StB_below h1 hb, h2.trans (hb.mono (by omega)), by have := hb.size; omega, ho⟩
theorem Wi_cells (h : Wi w W b l out vO g vB bx wt) : W.cell? ⟨g, 0, none⟩ = some (.int .i64 0) ∧ W.cell? ⟨g, 1, none⟩ = some (.int .i64 0) ∧ W.cell? ⟨g, 2, none⟩ = some (.int .i64 0) ∧ W.cell? ⟨g, 3, none⟩ = some (.int .i64 0) ∧ W.cell? ⟨g, 4, none⟩ = some (.slice none 0 0) ∧ W.cell? ⟨g, 5, none⟩ = some (.string ⟨#[]⟩) ∧ W.cell? ⟨g, 6, none⟩ = some vB ∧ W.cell? ⟨g, 7, none⟩ = some (.int .i64 wt) ∧ (∀ i, W.frozen? ⟨g, i, none⟩ = false) :=
  have h := h.2.2.1
  ⟨(blk_cell h 0).trans rfl, (blk_cell h 1).trans rfl, (blk_cell h 2).trans rfl, (blk_cell h 3).trans rfl, (blk_cell h 4).trans rfl, (blk_cell h 5).trans rfl, (blk_cell h 6).trans rfl, (blk_cell h 7).trans rfl, fun i => blk_frozen h i⟩
end
/-! ### terrkeep5_wants: function 16 -/
def terrkeep5_wants.f (l0 : List Int) : Option (List (S36)) := some (wantsOf (nextv l0 7).toNat l0.tail [])
set_option maxHeartbeats 16000000 in
set_option maxRecDepth 100000 in
theorem terrkeep5_wants.calls (A0 : Option Addr) (c0 : Nat) (l0 : List Int) (r : List (S36)) (w : World) (hr0 : Kd.C (Kd.int .i64) w A0 l0.length l0) (hc0 : l0.length ≤ c0) (h : terrkeep5_wants.f l0 = some r) :
    Calls Try.prog 16 #[.slice A0 l0.length c0] w fun e w' => ∃ v0_ : Value, e = .returned (v0_) ∧ Kd.R k36 36 w' w.heap.size (fun _ => True) v0_ r ∧ Below w.heap.size w w' := by
  obtain rfl := Option.some.inj h
  obtain ⟨b, hb⟩ : ∃ b, b = w.heap.size := ⟨_, rfl⟩
  have HBb := Aside0.mk hb
  have HRd := Aside0.mk (Kd.reads_of_C (enc := Value.int .i64) (d := (0 : Int)) (h1 := fun _ => rfl) hr0)
  have HC0 := Aside0.mk hc0
  clear hr0 hc0 h hb
  go_enter Try.func16, Try.ntmps16
  go_wp2_with (first | ((with_reducible refine gate_dst (N := 9) rfl ?_); refine box_event ?hg (N := 9) ?hd (cs := #[.slice A0 l0.length c0]) (t := 77) ?hr ?_; (case hd => rfl); (case hg => rfl); (case hr => first | (go_simp; done) | (go_simp; rfl)); rw [← HBb.out]; intro g hg w5 hbox hb5; have hg2 := hg.symm; clear hg; subst hg2; have HW := Aside0.mk (show Wo w w5 b l0 [] (.slice none 0 0) from ⟨⟨A0, c0, hbox, HC0.out, HRd.out.below (by rw [HBb.out] at hb5; exact hb5), fun ad e hp => (by obtain ⟨ad', e', hc'⟩ := HRd.out.2.2 hp; rw [e] at e'; obtain rfl := Option.some.inj e'; have h0 := World.block_lt_of_cell? _ _ (hc' 0 hp); rw [add_block] at h0; rw [HBb.out]; exact h0)⟩, hb5, by have := blk_lt hbox; omega, Kd.R_nil _ _ _ _ _⟩); clear hbox hb5) | ((with_reducible refine gate_dst (N := 11) rfl ?_); refine goesL_ (some 11) rfl rfl Try.func53 (by kernel_rfl) rfl #[.pointer (some ⟨b, 0, none⟩), .int .i64 7] rfl (by (try simp only [List.map_toArray, List.map_cons, List.map_nil]); first | done | rfl) ?_; (refine (stb_next b l0 7 _ HW.out.1 (by decide) (by decide)).mono ?_); rintro r_ W_11 ⟨rfl, hs_, hk_⟩; refine ⟨_, rfl, ?_⟩; have n0_ := Aside0.mk (Wo_next HW.out hs_ hk_); clear HW hs_ hk_; have HW := n0_; clear n0_; skip))
  obtain ⟨n7, hn7⟩ : ∃ n, n = nextv l0 7 := ⟨_, rfl⟩
  have h70 := nextv_in l0 7 (by omega)
  rw [← hn7] at h70
  rw [← hn7]
  have HN7 := Aside0.mk hn7
  have H70 := Aside0.mk h70
  clear hn7 h70
  go_loopg [4, 12] n7.toNat (fun kq v4 v12 w' => ∃ (x : Int) (l : List Int) (out : List S36), v12 = .int .i64 x ∧ Aside0 (0 ≤ x) ∧ Aside0 (x + (kq : Int) = n7) ∧ Aside0 (wantsOf kq l out = wantsOf n7.toNat l0.tail []) ∧ Aside0 (out.length + kq ≤ 7) ∧ Aside0 (Wo w w' b l out v4))
  case atStart => exact ⟨0, l0.tail, [], rfl, ⟨Int.le_refl _⟩, ⟨by have := H70.out.1; omega⟩, ⟨rfl⟩, ⟨by have := H70.out; simp; omega⟩, HW⟩
  case round =>
    clear HW
    obtain ⟨x, l, out, rfl, HX0, HX, HF, HL, HW⟩ := hrel
    obtain ⟨Ao, co, eo⟩ := Kd.R_slice HW.out.2.2.2
    cases gk with
    | zero =>
      have hi : decide (x < n7) = false := decide_eq_false (by have := HX.out; omega)
      go_wp2
      go_ret
      exact ⟨_, rfl, by rw [← HN7.out, ← HF.out, wantsOf]; exact Kd.R_lower HW.out.2.2.2 (by rw [HBb.out]; omega), by rw [← HBb.out]; exact HW.out.2.1⟩
    | succ m =>
      subst eo
      have hi : decide (x < n7) = true := decide_eq_true (by have := HX.out; omega)
      have w1 : wrap64 (x + 1) = x + 1 := by have h1 := HX.out; have h2 := H70.out; have h3 := HX0.out; rw [wrapF] <;> omega
      obtain ⟨wt, hwt⟩ : ∃ n, n = nextv l 20 := ⟨_, rfl⟩
      obtain ⟨n4, hn4⟩ : ∃ n, n = nextv l.tail 4 := ⟨_, rfl⟩
      have h40 := nextv_in l.tail 4 (by omega)
      rw [← hn4] at h40
      have HWT := Aside0.mk hwt
      have HN4 := Aside0.mk hn4
      have H40 := Aside0.mk h40
      clear hwt hn4 h40
      go_upto_region 6 with (first | ((with_reducible refine gate_dst (N := 15) rfl ?_); refine goesL_ (some 15) rfl rfl Try.func53 (by kernel_rfl) rfl #[.pointer (some ⟨b, 0, none⟩), .int .i64 20] rfl (by (try simp only [List.map_toArray, List.map_cons, List.map_nil]); first | done | rfl) ?_; (refine (stb_next b l 20 _ HW.out.1 (by decide) (by decide)).mono ?_); rintro r_ W_15 ⟨rfl, hs_, hk_⟩; refine ⟨_, rfl, ?_⟩; have n0_ := Aside0.mk (Wo_next HW.out hs_ hk_); clear HW hs_ hk_; have HW := n0_; clear n0_; rw [← HWT.out]) | ((with_reducible refine gate_dst (N := 5) rfl ?_); refine box_event ?hg (N := 5) ?hd (cs := #[.int .i64 0, .int .i64 0, .int .i64 0, .int .i64 0, .slice none 0 0, .string (⟨#[]⟩ : ByteArray), .slice none 0 0, .int .i64 0]) (t := 36) ?hr ?_; (case hd => rfl); (case hg => rfl); (case hr => first | (go_simp; done) | (go_simp; rfl)); intro g hg w7 hbox hb7; have hcz0 : w7.cell? ⟨g, 0, none⟩ = some (.int .i64 0) := (blk_cell hbox 0).trans rfl; have hfz0 := blk_frozen hbox 0; have hcz1 : w7.cell? ⟨g, 1, none⟩ = some (.int .i64 0) := (blk_cell hbox 1).trans rfl; have hfz1 := blk_frozen hbox 1; have hcz2 : w7.cell? ⟨g, 2, none⟩ = some (.int .i64 0) := (blk_cell hbox 2).trans rfl; have hfz2 := blk_frozen hbox 2; have hcz3 : w7.cell? ⟨g, 3, none⟩ = some (.int .i64 0) := (blk_cell hbox 3).trans rfl; have hfz3 := blk_frozen hbox 3; have hcz4 : w7.cell? ⟨g, 4, none⟩ = some (.slice none 0 0) := (blk_cell hbox 4).trans rfl; have hfz4 := blk_frozen hbox 4; have hcz5 : w7.cell? ⟨g, 5, none⟩ = some (.string (⟨#[]⟩ : ByteArray)) := (blk_cell hbox 5).trans rfl; have hfz5 := blk_frozen hbox 5; have hcz6 : w7.cell? ⟨g, 6, none⟩ = some (.slice none 0 0) := (blk_cell hbox 6).trans rfl; have hfz6 := blk_frozen hbox 6; have hcz7 : w7.cell? ⟨g, 7, none⟩ = some (.int .i64 0) := (blk_cell hbox 7).trans rfl; have hfz7 := blk_frozen hbox 7; have BK := Aside0.mk hbox; have HG := Aside0.mk hg; have HB7 := Aside0.mk hb7; clear hbox hb7 hg) | fail)
      have HI := Aside0.mk (Wo_new (W' := ((((((((w7.setCell ⟨g, 0, none⟩ (.int .i64 0)).setCell ⟨g, 1, none⟩ (.int .i64 0)).setCell ⟨g, 2, none⟩ (.int .i64 0)).setCell ⟨g, 3, none⟩ (.int .i64 0)).setCell ⟨g, 4, none⟩ (.slice none 0 0)).setCell ⟨g, 5, none⟩ (.string ⟨#[]⟩)).setCell ⟨g, 6, none⟩ (.slice none 0 0)).setCell ⟨g, 7, none⟩ (.int .i64 wt))) HW.out (Nat.le_of_eq HG.out.symm) (by repeat (first | (with_reducible exact HB7.out) | refine below_set ?_ (Nat.le_of_eq HG.out.symm))) (put8 BK.out))
      generalize ((((((((w7.setCell ⟨g, 0, none⟩ (.int .i64 0)).setCell ⟨g, 1, none⟩ (.int .i64 0)).setCell ⟨g, 2, none⟩ (.int .i64 0)).setCell ⟨g, 3, none⟩ (.int .i64 0)).setCell ⟨g, 4, none⟩ (.slice none 0 0)).setCell ⟨g, 5, none⟩ (.string ⟨#[]⟩)).setCell ⟨g, 6, none⟩ (.slice none 0 0)).setCell ⟨g, 7, none⟩ (.int .i64 wt)) = W8 at HI ⊢
      clear hcz0 hfz0 hcz1 hfz1 hcz2 hfz2 hcz3 hfz3 hcz4 hfz4 hcz5 hfz5 hcz6 hfz6 hcz7 hfz7 HW HB7 HG BK
      go_wp2_with (first | ((with_reducible refine gate_dst (N := 18) rfl ?_); refine goesL_ (some 18) rfl rfl Try.func53 (by kernel_rfl) rfl #[.pointer (some ⟨b, 0, none⟩), .int .i64 4] rfl (by (try simp only [List.map_toArray, List.map_cons, List.map_nil]); first | done | rfl) ?_; (refine (stb_next b l.tail 4 _ HI.out.1 (by decide) (by decide)).mono ?_); rintro r_ W_18 ⟨rfl, hs_, hk_⟩; refine ⟨_, rfl, ?_⟩; have n0_ := Aside0.mk (Wi_next HI.out hs_ hk_); clear HI hs_ hk_; have HI := n0_; clear n0_; rw [← HN4.out]))
      obtain ⟨RB, hRB⟩ : ∃ RB, RB = boxesOf n4.toNat l.tail.tail [] := ⟨_, rfl⟩
      have HRB := Aside0.mk hRB
      clear hRB
      go_loopg [19] n4.toNat (fun kq v19 w' => ∃ (y : Int) (l1 : List Int) (bx : List S42) (vB : Value), v19 = .int .i64 y ∧ Aside0 (0 ≤ y) ∧ Aside0 (y + (kq : Int) = n4) ∧ Aside0 (boxesOf kq l1 bx = RB) ∧ Aside0 (bx.length + kq ≤ 4) ∧ Aside0 (Wi w w' b l1 out (.slice Ao out.length co) g vB bx wt))
      case atStart => exact ⟨0, l.tail.tail, [], _, rfl, ⟨Int.le_refl _⟩, ⟨by have := H40.out.1; omega⟩, ⟨HRB.out.symm⟩, ⟨by have := H40.out; simp; omega⟩, HI⟩
      case round =>
        clear HI
        obtain ⟨y, l1, bx, vB, rfl, HY0, HY, HFB, HBL, HI⟩ := hrel
        obtain ⟨AB, cB, eB⟩ := Kd.R_slice HI.out.2.2.2.2.2
        subst eB
        obtain ⟨hc0, hc1, hc2, hc3, hc4, hc5, hc6, hc7, hfz⟩ := Wi_cells HI.out
        cases gk with
        | zero =>
          have hy : decide (y < n4) = false := decide_eq_false (by have := HY.out; omega)
          have HO0 := Aside0.mk HI.out.2.2.2.2.1.1
          go_wp2_with (first | ((with_reducible refine gate_builtin (b := .append) (xs := #[.tmp 45, .tmp 47]) rfl ?_); at_builtin; refine Kd.R_append k36 (w0 := wr) (b + 1) rfl (.tmp 45) (.tmp 47) 24 36 (.agg #[.int .i64 0, .int .i64 0, .int .i64 0, .int .i64 0, .slice none 0 0, .string ⟨#[]⟩, .slice none 0 0, .int .i64 0]) 104 rfl Try.underlying24 info36w rfl (by decide) (by omega) (.slice Ao out.length co) out (⟨z33, bx, wt⟩ : S36) [.int .i64 0, .int .i64 0, .int .i64 0, .int .i64 0, .slice none 0 0, .string ⟨#[]⟩, .slice AB bx.length cB, .int .i64 wt] (fun _ => True) (fun k => some k = (Value.slice AB bx.length cB).ownBlock) rfl rfl ?aP ?aK ?aF ?aO ?aB ?aS ?aL ?_; (case aP => exact k36_mkM wr (b + 1) _ ⟨z33, bx, wt⟩ (Kd.R_nil _ _ _ _ _) (Kd.R_tight rfl HI.out.2.2.2.2.2)); (case aK => exact fun k hk => ⟨trivial, fun he => (HO0.out k he.symm).1 hk⟩); (case aF => exact (fun _ _ => trivial)); (case aO => exact Kd.R_mono HI.out.2.2.2.2.1 (fun _ _ => trivial)); (case aB => exact Below.refl _ _); (case aS => have h1 := blk_lt HI.out.2.2.1; have h2 := HI.out.2.2.2.1; omega); (case aL => have := HL.out; omega); intro v1 W4 ho hb hg hat; have HW := Aside0.mk (Wi_out HI.out hb ho); clear ho hb hg hat HI hc0 hc1 hc2 hc3 hc4 hc5 hc6 hc7 hfz))
          go_roundg m
          case rel => exact ⟨x + 1, l1, _, by first | rfl | rw [w1], ⟨by have := HX0.out; omega⟩, ⟨by have := HX.out; omega⟩, ⟨by have hb := HFB.out; rw [boxesOf] at hb; rw [← HF.out, wantsOf, ← HN4.out, ← HRB.out, ← hb, ← HWT.out]⟩, ⟨by rw [List.length_append, List.length_singleton]; have := HL.out; omega⟩, HW⟩
          case measure => omega
        | succ m2 =>
          have hy : decide (y < n4) = true := decide_eq_true (by have := HY.out; omega)
          have wy : wrap64 (y + 1) = y + 1 := by have h1 := HY.out; have h2 := H40.out; have h3 := HY0.out; rw [wrapF] <;> omega
          obtain ⟨X, hX⟩ : ∃ n, n = nextv l1 60 := ⟨_, rfl⟩
          obtain ⟨Y, hY⟩ : ∃ n, n = nextv l1.tail 40 := ⟨_, rfl⟩
          obtain ⟨U, hU⟩ : ∃ n, n = nextv l1.tail.tail 30 := ⟨_, rfl⟩
          obtain ⟨V, hV⟩ : ∃ n, n = nextv l1.tail.tail.tail 12 := ⟨_, rfl⟩
          have bX := nextv_in l1 60 (by omega)
          have bY := nextv_in l1.tail 40 (by omega)
          have bU := nextv_in l1.tail.tail 30 (by omega)
          have bV := nextv_in l1.tail.tail.tail 12 (by omega)
          rw [← hX] at bX
          rw [← hY] at bY
          rw [← hU] at bU
          rw [← hV] at bV
          have wX : wrap64 (X + U) = X + U := by rw [wrapF] <;> omega
          have wY : wrap64 (Y + V) = Y + V := by rw [wrapF] <;> omega
          have HXv := Aside0.mk hX
          have HYv := Aside0.mk hY
          have HUv := Aside0.mk hU
          have HVv := Aside0.mk hV
          clear hX hY hU hV bX bY bU bV hc0 hc1 hc2 hc3 hc4 hc5 hc6 hc7 hfz
          go_upto_region 9 with (first | ((with_reducible refine gate_dst (N := 22) rfl ?_); refine goesL_ (some 22) rfl rfl Try.func53 (by kernel_rfl) rfl #[.pointer (some ⟨b, 0, none⟩), .int .i64 60] rfl (by (try simp only [List.map_toArray, List.map_cons, List.map_nil]); first | done | rfl) ?_; (refine (stb_next b l1 60 _ HI.out.1 (by decide) (by decide)).mono ?_); rintro r_ W_22 ⟨rfl, hs_, hk_⟩; refine ⟨_, rfl, ?_⟩; have n0_ := Aside0.mk (Wi_next HI.out hs_ hk_); clear HI hs_ hk_; have HI := n0_; clear n0_; rw [← HXv.out]) | ((with_reducible refine gate_dst (N := 24) rfl ?_); refine goesL_ (some 24) rfl rfl Try.func53 (by kernel_rfl) rfl #[.pointer (some ⟨b, 0, none⟩), .int .i64 40] rfl (by (try simp only [List.map_toArray, List.map_cons, List.map_nil]); first | done | rfl) ?_; (refine (stb_next b l1.tail 40 _ HI.out.1 (by decide) (by decide)).mono ?_); rintro r_ W_24 ⟨rfl, hs_, hk_⟩; refine ⟨_, rfl, ?_⟩; have n0_ := Aside0.mk (Wi_next HI.out hs_ hk_); clear HI hs_ hk_; have HI := n0_; clear n0_; rw [← HYv.out]) | ((with_reducible refine gate_dst (N := 6) rfl ?_); refine box_event ?hg (N := 6) ?hd (cs := #[.int .i64 0, .int .i64 0]) (t := 40) ?hr ?_; (case hd => rfl); (case hg => rfl); (case hr => first | (go_simp; done) | (go_simp; rfl)); intro p hp w8 hbox hb8; have hcy0 : w8.cell? ⟨p, 0, none⟩ = some (.int .i64 0) := (blk_cell hbox 0).trans rfl; have hfy0 := blk_frozen hbox 0; have hcy1 : w8.cell? ⟨p, 1, none⟩ = some (.int .i64 0) := (blk_cell hbox 1).trans rfl; have hfy1 := blk_frozen hbox 1; have BQ := Aside0.mk hbox; have HP := Aside0.mk hp; have HB8 := Aside0.mk hb8; clear hbox hb8 hp))
          have HIo := HI
          replace HI := Aside0.mk (Wi_below (W' := ((w8.setCell ⟨p, 0, none⟩ (.int .i64 X)).setCell ⟨p, 1, none⟩ (.int .i64 Y))) HI.out (by repeat (first | (with_reducible exact HB8.out) | refine below_set ?_ (Nat.le_of_eq HP.out.symm))))
          have BP := Aside0.mk (put2 (v0 := .int .i64 X) (v1 := .int .i64 Y) BQ.out)
          have HPb : Aside0 (b < p) := ⟨by rw [HP.out]; have h1 := blk_lt HIo.out.2.2.1; have h2 := HIo.out.2.2.2.1; omega⟩
          generalize ((w8.setCell ⟨p, 0, none⟩ (.int .i64 X)).setCell ⟨p, 1, none⟩ (.int .i64 Y)) = W9 at HI BP ⊢
          clear hcy0 hfy0 hcy1 hfy1 HB8 HP BQ HIo
          obtain ⟨hc0, hc1, hc2, hc3, hc4, hc5, hc6, hc7, hfz⟩ := Wi_cells HI.out
          clear hc0 hc1 hc2 hc3 hc4 hc5 hc7 hfz
          have hp0 : W9.cell? ⟨p, 0, none⟩ = some (.int .i64 X) := (blk_cell BP.out 0).trans rfl
          have hp1 : W9.cell? ⟨p, 1, none⟩ = some (.int .i64 Y) := (blk_cell BP.out 1).trans rfl
          refine start_ (n := 19) (S := fun w' => w'.cell? ⟨g, 6, none⟩ = some (.slice AB bx.length cB) ∧ w'.cell? ⟨p, 0, none⟩ = some (.int .i64 X) ∧ w'.cell? ⟨p, 1, none⟩ = some (.int .i64 Y)) (ds := [18]) #[false, false, false, false, false, false, false, false, false, false, false, false, false, false, false, false, false, false, false] (by kernel_rfl) rfl rfl ⟨hc6, hp0, hp1⟩ (fun hHeld => ?_)
          have HI1 := Aside0.mk (Wi_below HI.out (below_drew (Below.refl _ _)))
          have BP1 := Aside0.mk (blk_drew BP.out)
          clear HI BP hc6 hp0 hp1
          generalize W9.drew = Wa at HI1 BP1 hHeld ⊢
          refine pure_ (i := 0) (N := some 26) (v := ?_) (a' := ?_) #[true, false, false, false, false, false, false, false, false, false, false, false, false, false, false, false, false, false, false] rfl rfl (by kernel_rfl) (fun _ _ _ h => h) (Or.inl ⟨by rfl, ?_⟩) ?_ ?_
          rotate_left
          · intro w'
            go_simp
            with_reducible rfl
          rotate_left
          · simp only [Act.put, List.setIfInBounds_toArray, List.set_cons_zero, List.set_cons_succ, i64_w, i32_w]
            rfl
          refine pure_ (i := 3) (N := some 29) (v := ?_) (a' := ?_) #[true, false, false, true, false, false, false, false, false, false, false, false, false, false, false, false, false, false, false] rfl rfl (by kernel_rfl) (fun _ _ _ h => h) (Or.inl ⟨by rfl, ?_⟩) ?_ ?_
          rotate_left
          · intro w'
            go_simp
            with_reducible rfl
          rotate_left
          · simp only [Act.put, List.setIfInBounds_toArray, List.set_cons_zero, List.set_cons_succ, i64_w, i32_w]
            rfl
          refine pure_ (i := 5) (N := some 31) (v := ?_) (a' := ?_) #[true, false, false, true, false, true, false, false, false, false, false, false, false, false, false, false, false, false, false] rfl rfl (by kernel_rfl) (fun _ _ _ h => h) (Or.inl ⟨by rfl, ?_⟩) ?_ ?_
          rotate_left
          · intro w'
            go_simp
            with_reducible rfl
          rotate_left
          · simp only [Act.put, List.setIfInBounds_toArray, List.set_cons_zero, List.set_cons_succ, i64_w, i32_w]
            rfl
          refine pure_ (i := 8) (N := some 34) (v := ?_) (a' := ?_) #[true, false, false, true, false, true, false, false, true, false, false, false, false, false, false, false, false, false, false] rfl rfl (by kernel_rfl) (fun _ _ _ h => h) (Or.inl ⟨by rfl, ?_⟩) ?_ ?_
          rotate_left
          · intro w'
            go_simp
            with_reducible rfl
          rotate_left
          · simp only [Act.put, List.setIfInBounds_toArray, List.set_cons_zero, List.set_cons_succ, i64_w, i32_w]
            rfl
          refine pure_ (i := 10) (N := some 36) (v := ?_) (a' := ?_) #[true, false, false, true, false, true, false, false, true, false, true, false, false, false, false, false, false, false, false] rfl rfl (by kernel_rfl) (fun _ _ _ h => h) (Or.inl ⟨by rfl, ?_⟩) ?_ ?_
          rotate_left
          · intro w'
            go_simp
            with_reducible rfl
          rotate_left
          · simp only [Act.put, List.setIfInBounds_toArray, List.set_cons_zero, List.set_cons_succ, i64_w, i32_w]
            rfl
          refine take_ (i := 1) (N := some 27) (v := ?_) (a' := ?_) #[true, true, false, true, false, true, false, false, true, false, true, false, false, false, false, false, false, false, false] rfl rfl (by kernel_rfl) (fun _ _ _ h => h) (Or.inl ⟨by rfl, ?_⟩) hHeld ?_ ?_
          rotate_left
          · rintro w' ⟨s0, s1, s2⟩
            go_simp
            with_reducible rfl
          rotate_left
          · simp only [Act.put, List.setIfInBounds_toArray, List.set_cons_zero, List.set_cons_succ, i64_w, i32_w]
            rfl
          refine take_ (i := 2) (N := some 28) (v := ?_) (a' := ?_) #[true, true, true, true, false, true, false, false, true, false, true, false, false, false, false, false, false, false, false] rfl rfl (by kernel_rfl) (fun _ _ _ h => h) (Or.inl ⟨by rfl, ?_⟩) hHeld ?_ ?_
          rotate_left
          · rintro w' ⟨s0, s1, s2⟩
            go_simp
            with_reducible rfl
          rotate_left
          · simp only [Act.put, List.setIfInBounds_toArray, List.set_cons_zero, List.set_cons_succ, i64_w, i32_w]
            rfl
          refine take_ (i := 4) (N := some 30) (v := ?_) (a' := ?_) #[true, true, true, true, true, true, false, false, true, false, true, false, false, false, false, false, false, false, false] rfl rfl (by kernel_rfl) (fun _ _ _ h => h) (Or.inl ⟨by rfl, ?_⟩) hHeld ?_ ?_
          rotate_left
          · rintro w' ⟨s0, s1, s2⟩
            go_simp
            with_reducible rfl
          rotate_left
          · simp only [Act.put, List.setIfInBounds_toArray, List.set_cons_zero, List.set_cons_succ, i64_w, i32_w]
            rfl
          refine take_ (i := 9) (N := some 35) (v := ?_) (a' := ?_) #[true, true, true, true, true, true, false, false, true, true, true, false, false, false, false, false, false, false, false] rfl rfl (by kernel_rfl) (fun _ _ _ h => h) (Or.inl ⟨by rfl, ?_⟩) hHeld ?_ ?_
          rotate_left
          · rintro w' ⟨s0, s1, s2⟩
            go_simp
            with_reducible rfl
          rotate_left
          · simp only [Act.put, List.setIfInBounds_toArray, List.set_cons_zero, List.set_cons_succ, i64_w, i32_w]
            rfl
          refine one_ (i := 6) (N := some 32) #[true, true, true, true, true, true, true, false, true, true, true, false, false, false, false, false, false, false, false] rfl rfl (by kernel_rfl) (by decide) (fun K hK => ?_)
          refine goes_ Try.func53 (by kernel_rfl) rfl #[.pointer (some ⟨b, 0, none⟩), .int .i64 30] (by rfl) rfl rfl (by (try simp only [List.map_toArray, List.map_cons, List.map_nil]); first | done | rfl) ?_
          refine (stb_next b l1.tail.tail 30 _ HI1.out.1 (by decide) (by decide)).mono ?_
          rintro r_ Wb ⟨rfl, hs_, hk_⟩
          rw [← HUv.out]
          refine ⟨_, rfl, ?_⟩
          have HI2 := Aside0.mk (Wi_next HI1.out hs_ hk_)
          have BP2 := Aside0.mk (hk_.2.1.blk BP1.out (by have := blk_lt BP1.out; have h1 := HPb.out; omega) (by simp))
          clear HI1 BP1 hs_ hk_ hHeld
          obtain ⟨hc0, hc1, hc2, hc3, hc4, hc5, hc6, hc7, hfz⟩ := Wi_cells HI2.out
          clear hc0 hc1 hc2 hc3 hc4 hc5 hc7 hfz
          refine hK.out _ _ ⟨hc6, (blk_cell BP2.out 0).trans rfl, (blk_cell BP2.out 1).trans rfl⟩ (fun hHeld => ?_)
          clear hK K hc6
          refine norm_ (a' := ?_) ?_ ?_
          rotate_left
          · show Act.put _ (some 32) _ = _
            simp only [Act.put, List.setIfInBounds_toArray, List.set_cons_zero, List.set_cons_succ, i64_w, i32_w]
            rfl
          refine pure_ (i := 7) (N := some 33) (v := ?_) (a' := ?_) #[true, true, true, true, true, true, true, true, true, true, true, false, false, false, false, false, false, false, false] rfl rfl (by kernel_rfl) (fun _ _ _ h => h) (Or.inl ⟨by rfl, ?_⟩) ?_ ?_
          rotate_left
          · intro w'
            go_simp
            with_reducible rfl
          rotate_left
          · simp only [Act.put, List.setIfInBounds_toArray, List.set_cons_zero, List.set_cons_succ, i64_w, i32_w]
            rfl
          refine one_ (i := 11) (N := some 37) #[true, true, true, true, true, true, true, true, true, true, true, true, false, false, false, false, false, false, false] rfl rfl (by kernel_rfl) (by decide) (fun K hK => ?_)
          refine goes_ Try.func53 (by kernel_rfl) rfl #[.pointer (some ⟨b, 0, none⟩), .int .i64 12] (by rfl) rfl rfl (by (try simp only [List.map_toArray, List.map_cons, List.map_nil]); first | done | rfl) ?_
          refine (stb_next b l1.tail.tail.tail 12 _ HI2.out.1 (by decide) (by decide)).mono ?_
          rintro r_ Wc ⟨rfl, hs_, hk_⟩
          rw [← HVv.out]
          refine ⟨_, rfl, ?_⟩
          have HI3 := Aside0.mk (Wi_next HI2.out hs_ hk_)
          have BP3 := Aside0.mk (hk_.2.1.blk BP2.out (by have := blk_lt BP2.out; have h1 := HPb.out; omega) (by simp))
          clear HI2 BP2 hs_ hk_ hHeld
          obtain ⟨hc0, hc1, hc2, hc3, hc4, hc5, hc6, hc7, hfz⟩ := Wi_cells HI3.out
          clear hc0 hc1 hc2 hc3 hc4 hc5 hc7 hfz
          refine hK.out _ _ ⟨hc6, (blk_cell BP3.out 0).trans rfl, (blk_cell BP3.out 1).trans rfl⟩ (fun hHeld => ?_)
          clear hK K hc6
          refine norm_ (a' := ?_) ?_ ?_
          rotate_left
          · show Act.put _ (some 37) _ = _
            simp only [Act.put, List.setIfInBounds_toArray, List.set_cons_zero, List.set_cons_succ, i64_w, i32_w]
            rfl
          refine pure_ (i := 12) (N := some 38) (v := ?_) (a' := ?_) #[true, true, true, true, true, true, true, true, true, true, true, true, true, false, false, false, false, false, false] rfl rfl (by kernel_rfl) (fun _ _ _ h => h) (Or.inl ⟨by rfl, ?_⟩) ?_ ?_
          rotate_left
          · intro w'
            go_simp
            with_reducible rfl
          rotate_left
          · simp only [Act.put, List.setIfInBounds_toArray, List.set_cons_zero, List.set_cons_succ, i64_w, i32_w]
            rfl
          refine pure_ (i := 13) (N := some 39) (v := ?_) (a' := ?_) #[true, true, true, true, true, true, true, true, true, true, true, true, true, true, false, false, false, false, false] rfl rfl (by kernel_rfl) (fun _ _ _ h => h) (Or.inl ⟨by rfl, ?_⟩) ?_ ?_
          rotate_left
          · intro w'
            go_simp
            with_reducible rfl
          rotate_left
          · simp only [Act.put, List.setIfInBounds_toArray, List.set_cons_zero, List.set_cons_succ, i64_w, i32_w]
            rfl
          refine pure_ (i := 14) (N := some 40) (v := ?_) (a' := ?_) #[true, true, true, true, true, true, true, true, true, true, true, true, true, true, true, false, false, false, false] rfl rfl (by kernel_rfl) (fun _ _ _ h => h) (Or.inl ⟨by rfl, ?_⟩) ?_ ?_
          rotate_left
          · intro w'
            go_simp
            with_reducible rfl
          rotate_left
          · simp only [Act.put, List.setIfInBounds_toArray, List.set_cons_zero, List.set_cons_succ, i64_w, i32_w]
            rfl
          refine one_ (i := 15) (N := some 41) #[true, true, true, true, true, true, true, true, true, true, true, true, true, true, true, true, false, false, false] rfl rfl (by kernel_rfl) (by decide) (fun K hK => ?_)
          refine value_ (v := ?_) (w1 := Wc.alloc (.cells #[.int .i64 X, .int .i64 Y, .int .i64 (X + U), .int .i64 (Y + V)] 42)) (by rfl) rfl ?_ ?_
          rotate_left
          · go_simp
            rfl
          obtain ⟨hc0, hc1, hc2, hc3, hc4, hc5, hc6, hc7, hfz⟩ := Wi_cells (Wi_below HI3.out (below_alloc (Below.refl _ _) (.cells #[.int .i64 X, .int .i64 Y, .int .i64 (X + U), .int .i64 (Y + V)] 42)))
          clear hc0 hc1 hc2 hc3 hc4 hc5 hc7 hfz hHeld
          refine hK.out _ _ ⟨hc6, (blk_cell (blk_alloc BP3.out _) 0).trans rfl, (blk_cell (blk_alloc BP3.out _) 1).trans rfl⟩ (fun hHeld => ?_)
          clear hK K hc6
          refine norm_ (a' := ?_) ?_ ?_
          rotate_left
          · show Act.put _ (some 41) _ = _
            simp only [Act.put, List.setIfInBounds_toArray, List.set_cons_zero, List.set_cons_succ, i64_w, i32_w]
            rfl
          refine one_ (i := 16) (N := some 42) #[true, true, true, true, true, true, true, true, true, true, true, true, true, true, true, true, true, false, false] rfl rfl (by kernel_rfl) (by decide) (fun K hK => ?_)
          refine Kd.R_append_step k42 (w0 := Wc) (b + 1) (by rfl) (.tmp 27) (.tmp 41) 34 42 (.agg #[.int .i64 0, .int .i64 0, .int .i64 0, .int .i64 0]) 32 rfl Try.underlying34 info42w rfl (by decide) (by omega) (.slice AB bx.length cB) bx (⟨⟨X, Y⟩, ⟨X + U, Y + V⟩⟩ : S42) [.int .i64 X, .int .i64 Y, .int .i64 (X + U), .int .i64 (Y + V)] (fun _ => True) (fun _ => False) rfl rfl ?aP (fun _ hk => hk.elim) (fun _ _ => trivial) ?aO ?aB ?aS ?aL ?_
          case aP => exact k42_mkM Wc (b + 1) _ ⟨⟨X, Y⟩, ⟨X + U, Y + V⟩⟩
          case aO => exact HI3.out.2.2.2.2.2
          case aB => exact Below.refl _ _
          case aS => have h1 := blk_lt HI3.out.2.2.1; have h2 := HI3.out.2.2.2.1; omega
          case aL => have := HBL.out; omega
          intro v1 Wd ho hb hg hat
          obtain ⟨bx1, hbx⟩ : ∃ n_, n_ = bx ++ [(⟨⟨X, Y⟩, ⟨X + U, Y + V⟩⟩ : S42)] := ⟨_, rfl⟩
          rw [← hbx] at ho
          have HBX := Aside0.mk hbx
          clear hbx
          obtain ⟨A1, c1, ev⟩ := Kd.R_slice ho
          subst ev
          have b3 := blk_grown HI3.out.2.2.1 hg (Kd.R_ne HI3.out.2.2.2.2.2 HI3.out.2.2.1 (by decide))
          have bp3 := blk_grown BP3.out hg (Kd.R_ne HI3.out.2.2.2.2.2 BP3.out (by decide))
          have HI2 := Aside0.mk (Wi_app HI3.out hb hg hat ho)
          have hd6 : Wd.cell? ⟨g, 6, none⟩ = some (.slice AB bx.length cB) := (blk_cell b3 6).trans rfl
          have hf6 := blk_frozen b3 6
          refine hK.out _ _ ⟨hd6, (blk_cell bp3 0).trans rfl, (blk_cell bp3 1).trans rfl⟩ (fun hHeld => ?_)
          clear hK K ho hb hg hat b3 bp3 HI3 BP3 hHeld
          refine norm_ (a' := ?_) ?_ ?_
          rotate_left
          · show Act.put _ (some 42) _ = _
            simp only [Act.put, List.setIfInBounds_toArray, List.set_cons_zero, List.set_cons_succ, i64_w, i32_w]
            rfl
          refine pure_ (i := 17) (N := some 43) (v := ?_) (a' := ?_) #[true, true, true, true, true, true, true, true, true, true, true, true, true, true, true, true, true, true, false] rfl rfl (by kernel_rfl) (fun _ _ _ h => h) (Or.inl ⟨by rfl, ?_⟩) ?_ ?_
          rotate_left
          · intro w'
            go_simp
            with_reducible rfl
          rotate_left
          · simp only [Act.put, List.setIfInBounds_toArray, List.set_cons_zero, List.set_cons_succ, i64_w, i32_w]
            rfl
          refine last_ (i := 18) (N := none) #[true, true, true, true, true, true, true, true, true, true, true, true, true, true, true, true, true, true, true] rfl rfl (by kernel_rfl) (by decide) (fun K hK => ?_)
          refine skip_ (w1 := ?_) (by rfl) rfl ?_ ?_
          rotate_left
          · go_simp
            rfl
          refine hK.out _ _ ?_
          clear hK K hd6 hf6
          refine done_ (by kernel_rfl) ?_
          go_wp2
          go_roundg m2
          case rel => exact ⟨y + 1, l1.tail.tail.tail.tail, bx1, _, by first | rfl | rw [wy], ⟨by have := HY0.out; omega⟩, ⟨by have := HY.out; omega⟩, ⟨by rw [HBX.out, ← HFB.out, boxesOf, ← HXv.out, ← HYv.out, ← HUv.out, ← HVv.out]⟩, ⟨by rw [HBX.out, List.length_append, List.length_singleton]; have := HBL.out; omega⟩, HI2⟩
          case measure => omega

end Go.Proofs.Ytdmhnjpblpfbfaa.Q
