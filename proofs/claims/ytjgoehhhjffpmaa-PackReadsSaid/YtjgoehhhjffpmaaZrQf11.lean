/- delta.Read reads lists of points: the reader in one block, the last point in another, the lists beside them. Condition: stated at the contract. -/
import Derived.Test.YtjgoehhhjffpmaaZrQf42
namespace Go.Proofs.Ytjgoehhhjffpmaa.Q
open Go.RowKit Go.Proofs.YtjgoehhhjffpmaaW.PrintWords Go.Proofs.YtjgoehhhjffpmaaW.PrintLast Go.Proofs.YtjgoehhhjffpmaaW.PrintMore
attribute [local go_sem] max2_int min2_int max_two min_two max_three min_three max_four min_four
set_option linter.unusedVariables false
set_option linter.unusedSimpArgs false
theorem info44r : (Try.prog.info? 44).map (fun i => (i.zero, i.size, i.bytes)) = some (some (.agg #[(.int .i64 0), (.int .i64 0)]), 2, 16) := by kernel_rfl
theorem info35r : (Try.prog.info? 35).map (fun i => (i.zero, i.size, i.bytes)) = some (some (.slice none 0 0), 1, 24) := by kernel_rfl
/-- Points read one after the other (m of them). -/
def delta_Read.l1 (k : Nat) : Nat → List Int → Int → Int → Int → List S44 → Option (Int × List Int × Int × Int × List S44)
  | 0, b, e, x, y, l => some (e, b, x, y, l)
  | m + 1, b, e, x, y, l => (delta_num.f k b e).bind fun t => (delta_num.f k t.2.1 t.2.2).bind fun u =>
      if u.2.2 = 0 then (if l.length < 8796093022208 then delta_Read.l1 k m u.2.1 0 (wrap64 (x + t.1)) (wrap64 (y + u.1)) (l ++ [(⟨wrap64 (x + t.1), wrap64 (y + u.1)⟩ : S44)]) else none) else some (u.2.2, u.2.1, wrap64 (x + t.1), wrap64 (y + u.1), l)
/-- Lists read one after the other (m of them). -/
def delta_Read.l0 (k : Nat) : Nat → List Int → Int → Int → Int → Int → List (List S44) → Option (Int × List Int × List (List S44))
  | 0, b, e, _, _, _, out => some (e, b, out)
  | m + 1, b, e, x, y, all, out => (delta_many.f k b e (wrap64 (20000 - all))).bind fun t => (delta_Read.l1 k t.1.toNat t.2.1 t.2.2 x y []).bind fun u =>
      if u.1 = 0 then (if out.length < 5864062014805 then delta_Read.l0 k m u.2.1 0 u.2.2.1 u.2.2.2.1 (wrap64 (all + t.1)) (out ++ [u.2.2.2.2]) else none) else some (u.1, u.2.1, [])
/-- What Read comes to. -/
def delta_Read.f0 (k : Nat) (b : List Int) : Option (List (List S44) × List Int × Int) :=
  (delta_many.f k b 0 1000).bind fun t => (delta_Read.l0 k t.1.toNat t.2.1 t.2.2 0 0 0 []).bind fun u =>
    if u.1 = 0 then some (u.2.2, u.2.1, 0) else some ([], [], u.1)
theorem Rd_block {w W : World} {g : Nat} {b : List Int} {e : Int} (h : Rd w W g b e) : ∃ cs, W.heap[g]? = some (.cells cs 69 (0, 0)) := by
  obtain ⟨A, c, h1, _⟩ := h
  exact ⟨_, h1⟩
theorem Rd_B {w W : World} {g : Nat} {b : List Int} {e : Int} (h : Rd w W g b e) : Below w.heap.size w W := by
  obtain ⟨A, c, _, _, _, _, h1⟩ := h
  exact h1
theorem Rd_move {w W W' : World} {g : Nat} {b : List Int} {e : Int} (h : Rd w W g b e) (hB : Below w.heap.size w W') (hs : W'.heap[g]? = W.heap[g]?) : Rd w W' g b e := by
  obtain ⟨A, c, h1, h2, h3, h4, h5⟩ := h
  exact ⟨A, c, hs.trans h1, h2, h3, h4, hB⟩
/-- The reader, the last point and the lists so far. -/
def Ro (w W : World) (g gL : Nat) (b : List Int) (e x y : Int) (vo : Value) (out : List (List S44)) : Prop :=
  Rd w W g b e ∧ W.heap[gL]? = some (.cells #[.int .i64 x, .int .i64 y] 44 (0, 0)) ∧ w.heap.size ≤ gL ∧ Kd.S (Kd.slice 44 k44) 35 W w.heap.size (fun k => k ≠ gL) vo out
/-- The same with the list that is being read. -/
def Ri (w W : World) (g gL : Nat) (b : List Int) (e x y : Int) (vo : Value) (out : List (List S44)) (vl : Value) (l : List S44) : Prop :=
  Rd w W g b e ∧ W.heap[gL]? = some (.cells #[.int .i64 x, .int .i64 y] 44 (0, 0)) ∧ w.heap.size ≤ gL ∧ Kd.S (Kd.slice 44 k44) 35 W w.heap.size (fun k => k ≠ gL ∧ some k ≠ vl.ownBlock) vo out ∧ Kd.R k44 44 W w.heap.size (fun k => k ≠ gL) vl l
section
variable {w W W' : World} {g gL : Nat} {b b' : List Int} {e e' x y : Int} {vo vl : Value} {out : List (List S44)} {l : List S44}
theorem Ro_Ri (h : Ro w W g gL b e x y vo out) : Ri w W g gL b e x y vo out (.slice none 0 0) [] :=
  ⟨h.1, h.2.1, h.2.2.1, Kd.S_mono h.2.2.2 (fun _ hk => ⟨hk, by simp [Value.ownBlock]⟩), Kd.R_nil _ _ _ _ _⟩
theorem Ro_move (h : Ro w W g gL b e x y vo out) (hr : Rd w W' g b' e') (hs : ∀ j, j < W.heap.size → j ≠ g → W'.heap[j]? = W.heap[j]?) : Ro w W' g gL b' e' x y vo out := by
  obtain ⟨h1, h2, h3, h4⟩ := h
  obtain ⟨cs, hg⟩ := Rd_block h1
  have hne : gL ≠ g := blk_ne h2 hg (by decide)
  exact ⟨hr, (hs gL (blk_lt h2) hne).trans h2, h3, Kd.S_mono (Kd.S_step (Kd.S_types h4 hg (by decide)) (fun k hk hlt => hs k hlt hk.2)) (fun _ hk => hk.1)⟩
theorem Ri_move (h : Ri w W g gL b e x y vo out vl l) (hr : Rd w W' g b' e') (hs : ∀ j, j < W.heap.size → j ≠ g → W'.heap[j]? = W.heap[j]?) : Ri w W' g gL b' e' x y vo out vl l := by
  obtain ⟨h1, h2, h3, h4, h5⟩ := h
  obtain ⟨cs, hg⟩ := Rd_block h1
  have hne : gL ≠ g := blk_ne h2 hg (by decide)
  exact ⟨hr, (hs gL (blk_lt h2) hne).trans h2, h3, Kd.S_mono (Kd.S_step (Kd.S_types h4 hg (by decide)) (fun k hk hlt => hs k hlt hk.2)) (fun _ hk => hk.1), Kd.R_mono (Kd.R_step (Kd.R_types h5 hg (by decide)) (fun k hk hlt => hs k hlt hk.2)) (fun _ hk => hk.1)⟩
theorem Ro_many {k : Nat} {n most : Int} (h : Ro w W g gL b e x y vo out) (hn : delta_many.f k b e most = some (n, b', e')) (hlen : b.length < 9000000000000000000) :
    Calls Try.prog 41 #[.pointer (some ⟨g, 0, none⟩), .int .i64 most] W fun r W' => r = .returned (.int .i64 n) ∧ Ro w W' g gL b' e' x y vo out := by
  refine (Rd_many h.1 hn hlen).mono ?_
  rintro r W1 ⟨rfl, q1, q2, q3⟩
  exact ⟨rfl, Ro_move h q1 q3⟩
theorem Ri_num {k : Nat} {n : Int} (h : Ri w W g gL b e x y vo out vl l) (hn : delta_num.f k b e = some (n, b', e')) (hlen : b.length < 9000000000000000000) :
    Calls Try.prog 42 #[.pointer (some ⟨g, 0, none⟩)] W fun r W' => r = .returned (.int .i64 n) ∧ Ri w W' g gL b' e' x y vo out vl l := by
  refine (Rd_num h.1 hn hlen).mono ?_
  rintro r W1 ⟨rfl, q1, q2, q3⟩
  exact ⟨rfl, Ri_move h q1 q3⟩
theorem Ri_drew (h : Ri w W g gL b e x y vo out vl l) : Ri w W.drew g gL b e x y vo out vl l :=
  ⟨Rd_move h.1 (below_drew (Rd_B h.1)) rfl, h.2.1, h.2.2.1, Kd.S_drew h.2.2.2.1, Kd.R_drew h.2.2.2.2⟩
theorem Ri_put (h : Ri w W g gL b e x y vo out vl l) (x' y' : Int) : Ri w ((W.setCell ⟨gL, 0, none⟩ (.int .i64 x')).setCell ⟨gL, 1, none⟩ (.int .i64 y')) g gL b e x' y' vo out vl l := by
  obtain ⟨h1, h2, h3, h4, h5⟩ := h
  obtain ⟨cs, hg⟩ := Rd_block h1
  have hne : gL ≠ g := blk_ne h2 hg (by decide)
  refine ⟨Rd_move h1 (((Rd_B h1).setCell h3 _).setCell h3 _) ((Below.heap_setCell _ ⟨gL, 1, none⟩ _ g hne.symm).trans (Below.heap_setCell _ ⟨gL, 0, none⟩ _ g hne.symm)), blk_put (cs := #[.int .i64 x', .int .i64 y]) (blk_put h2 0 _ rfl) 1 _ rfl, h3, Kd.S_far (p := ⟨gL, 1, none⟩) (Kd.S_far (p := ⟨gL, 0, none⟩) h4 (fun _ hk => hk.1) _) (fun _ hk => hk.1) _, Kd.R_far (p := ⟨gL, 1, none⟩) (Kd.R_far (p := ⟨gL, 0, none⟩) h5 (fun _ hk => hk) _) (fun _ hk => hk) _⟩
theorem Rd_below (h : Rd w W g b e) (hb : Below W.heap.size W W') : Rd w W' g b e := by
  obtain ⟨cs, hg⟩ := Rd_block h
  exact Rd_move h (below_step (Rd_B h) hb) ((blk_below hg hb).trans hg.symm)
theorem Ro_below (h : Ro w W g gL b e x y vo out) (hb : Below W.heap.size W W') : Ro w W' g gL b e x y vo out :=
  ⟨Rd_below h.1 hb, blk_below h.2.1 hb, h.2.2.1, Kd.S_below h.2.2.2 hb⟩
theorem Rd_grown {row : Option Nat} (h : Rd w W g b e) (hB : Below w.heap.size w W') (hg : W.grownBy W' row) (hne : some g ≠ row) : Rd w W' g b e := by
  obtain ⟨cs, hb⟩ := Rd_block h
  exact Rd_move h hB ((blk_grown hb hg hne).trans hb.symm)
theorem Ri_out {vo2 : Value} (h : Ri w W g gL b e x y vo out vl l) (hB : Below w.heap.size w W') (hg : W.grownBy W' vo.ownBlock) (ho : Kd.S (Kd.slice 44 k44) 35 W' w.heap.size (fun k => k ≠ gL) vo2 (out ++ [l])) : Ro w W' g gL b e x y vo2 (out ++ [l]) := by
  obtain ⟨h1, h2, h3, h4, h5⟩ := h
  obtain ⟨cs, hgb⟩ := Rd_block h1
  exact ⟨Rd_grown h1 hB hg (Kd.S_ne h4 hgb (by decide)), blk_grown h2 hg (Kd.S_ne h4 h2 (by decide)), h3, ho⟩
theorem Ri_l {vl2 : Value} {p : S44} (h : Ri w W g gL b e x y vo out vl l) (hB : Below w.heap.size w W') (hg : W.grownBy W' vl.ownBlock) (hat : vl2.ownBlock = vl.ownBlock ∨ ∃ b, vl2.ownBlock = some b ∧ W.heap.size ≤ b) (ho : Kd.R k44 44 W' w.heap.size (fun k => k ≠ gL) vl2 (l ++ [p])) : Ri w W' g gL b e x y vo out vl2 (l ++ [p]) := by
  obtain ⟨h1, h2, h3, h4, h5⟩ := h
  obtain ⟨cs, hgb⟩ := Rd_block h1
  exact ⟨Rd_grown h1 hB hg (Kd.R_ne h5 hgb (by decide)), blk_grown h2 hg (fun e => h5.1 gL e.symm rfl), h3, Kd.S_after (ok := fun k => k ≠ gL) h4 hg hat, ho⟩
end
theorem num_le {k : Nat} {b b' : List Int} {e e' n : Int} (h : delta_num.f k b e = some (n, b', e')) : b'.length ≤ b.length := by
  rw [delta_num.f] at h
  by_cases he : e = 0
  · rw [if_pos he] at h
    obtain ⟨t, ht, h⟩ := Option.bind_eq_some_iff.1 h
    by_cases h1 : t.2.2 = 0
    · rw [if_pos h1] at h
      by_cases h2 : stop b 10 0 + 1 ≤ b.length
      · rw [if_pos h2] at h
        cases h
        rw [List.length_drop]
        exact Nat.sub_le _ _
      · rw [if_neg h2] at h; cases h
    · rw [if_neg h1] at h; cases h; exact Nat.le_refl _
  · rw [if_neg he] at h; cases h; exact Nat.le_refl _
theorem many_le {k : Nat} {b b' : List Int} {e e' n most : Int} (h : delta_many.f k b e most = some (n, b', e')) : b'.length ≤ b.length := by
  rw [delta_many.f] at h
  obtain ⟨⟨n1, b1, e1⟩, ht, h⟩ := Option.bind_eq_some_iff.1 h
  have hl := num_le ht
  by_cases h1 : e1 = 0
  · rw [if_pos h1] at h
    by_cases h2 : n1 < 0 ∨ n1 > most
    · rw [if_pos h2] at h; cases h; exact hl
    · rw [if_neg h2] at h; cases h; exact hl
  · rw [if_neg h1] at h; cases h; exact hl
theorem many_n {k : Nat} {b b' : List Int} {e e' n most : Int} (h : delta_many.f k b e most = some (n, b', e')) : n = 0 ∨ n ≤ most := by
  rw [delta_many.f] at h
  obtain ⟨⟨n1, b1, e1⟩, ht, h⟩ := Option.bind_eq_some_iff.1 h
  by_cases h1 : e1 = 0
  · rw [if_pos h1] at h
    by_cases h2 : n1 < 0 ∨ n1 > most
    · rw [if_pos h2] at h; cases h; exact Or.inl rfl
    · rw [if_neg h2] at h; cases h; exact Or.inr (by omega)
  · rw [if_neg h1] at h; cases h; exact Or.inl rfl
theorem wrap64_top (n : Int) : wrap64 n ≤ 9223372036854775807 := by unfold wrap64; omega
theorem l1_le (k : Nat) : ∀ (m : Nat) (b : List Int) (e x y : Int) (l : List S44) (e' : Int) (b' : List Int) (x' y' : Int) (l' : List S44), delta_Read.l1 k m b e x y l = some (e', b', x', y', l') → b'.length ≤ b.length := by
  intro m
  induction m with
  | zero => intro b e x y l e' b' x' y' l' h; rw [delta_Read.l1] at h; cases h; exact Nat.le_refl _
  | succ m ih =>
    intro b e x y l e' b' x' y' l' h
    rw [delta_Read.l1] at h
    obtain ⟨⟨n1, b1, e1⟩, h1, h⟩ := Option.bind_eq_some_iff.1 h
    obtain ⟨⟨n2, b2, e2⟩, h2, h⟩ := Option.bind_eq_some_iff.1 h
    have q1 := num_le h1
    have q2 := num_le h2
    have q : b2.length ≤ b.length := Nat.le_trans q2 q1
    by_cases c : e2 = 0
    · rw [if_pos c] at h
      by_cases c2 : l.length < 8796093022208
      · rw [if_pos c2] at h; exact Nat.le_trans (ih _ _ _ _ _ _ _ _ _ _ h) q
      · rw [if_neg c2] at h; cases h
    · rw [if_neg c] at h; cases h; exact q
/-- The row is no longer than memory lets it be, and Read's twin gives an answer. -/
def delta_Read.f (k : Nat) (b : List Int) : Option (List (List S44) × List Int × Int) := if b.length < 140737488355328 then delta_Read.f0 k b else none
set_option maxHeartbeats 8000000 in
theorem delta_Read.calls (k : Nat) (A0 : Option Addr) (c0 : Nat) (l0 : List Int) (r1 : List (List (S44))) (r2 : List Int) (r3 : Int) (w : World) (hr0 : Kd.C (Kd.int .u8) w A0 l0.length l0) (hc0 : l0.length ≤ c0) (h : delta_Read.f k l0 = some (r1, r2, r3)) :
    Calls Try.prog 11 #[.slice A0 l0.length c0] w fun e w' => ∃ v0_ v1_ : Value, e = .returned (.tuple #[v0_, v1_, .int .i64 r3]) ∧ Kd.S (Kd.slice 44 k44) 35 w' w.heap.size (fun _ => True) v0_ r1 ∧ Kd.R (Kd.int .u8) 5 w' w.heap.size (fun _ => True) v1_ r2 ∧ Below w.heap.size w w' := by
  have hu44 := Try.underlying44
  rw [delta_Read.f] at h
  by_cases hl : l0.length < 140737488355328
  rotate_left
  · rw [if_neg hl] at h; cases h
  rw [if_pos hl, delta_Read.f0] at h
  obtain ⟨⟨n1, b1, e1⟩, hm, h⟩ := Option.bind_eq_some_iff.1 h
  obtain ⟨⟨eF, bF, outF⟩, hm2, h⟩ := Option.bind_eq_some_iff.1 h
  have HR0 := Aside0.mk hr0
  have HC0 := Aside0.mk hc0
  have HLB := Aside0.mk hl
  have HM := Aside0.mk hm
  have HM2 := Aside0.mk hm2
  have HF := Aside0.mk h
  have HB := Aside0.mk (Below.refl w.heap.size w)
  clear hr0 hc0 hl hm hm2 h
  go_enter Try.func11, Try.ntmps11
  go_wp2_with (first | ((with_reducible refine gate_dst (N := 13) rfl ?_); refine box_event ?hg (N := 13) ?hd (cs := #[.slice A0 l0.length c0, .int .i64 0]) (t := 69) ?hr ?_; (case hd => rfl); (case hg => rfl); (case hr => first | (go_simp; done) | (go_simp; rfl)); intro gR hgR wA hbox hb; have BR := Aside0.mk hbox; have GR := Aside0.mk ((by rw [hgR]; exact below_size (by repeat (first | (with_reducible first | exact HB.out | apply below_alloc | apply pw_below_drewN | apply below_drew1) | exact HB.out))) : w.heap.size ≤ gR); replace HB := Aside0.mk (below_step (by repeat (first | (with_reducible first | exact HB.out | apply below_alloc | apply pw_below_drewN | apply below_drew1) | exact HB.out)) hb); clear hb hbox hgR) | ((with_reducible refine gate_dst (N := 7) rfl ?_); refine box_event ?hg (N := 7) ?hd (cs := #[.int .i64 0, .int .i64 0]) (t := 44) ?hr ?_; (case hd => rfl); (case hg => rfl); (case hr => first | (go_simp; done) | (go_simp; rfl)); intro gL hgL wC hbox hb; have HRO := Aside0.mk (show Ro w wC gR gL l0 0 0 0 (.slice none 0 0) [] from ⟨⟨A0, c0, blk_below BR.out hb, HR0.out, HC0.out, GR.out, below_step HB.out hb⟩, hbox, (by rw [hgL]; exact below_size HB.out), Kd.S_nil _ _ _ _ _⟩); clear HB BR; clear hb hbox hgL) | ((with_reducible refine gate_callee (f := 41) rfl ?_); refine goesL_ (some 15) rfl rfl Try.func41 (by kernel_rfl) rfl #[.pointer (some ⟨gR, 0, none⟩), .int .i64 1000] rfl (by (try simp only [List.map_toArray, List.map_cons, List.map_nil]); first | done | rfl) ?_; (refine (Ro_many HRO.out HM.out (Nat.lt_trans HLB.out (by decide))).mono ?_); rintro r_ wD ⟨rfl, q1⟩; refine ⟨_, rfl, ?_⟩; have HRO2 := Aside0.mk q1; have HLB1 := Aside0.mk (Nat.lt_of_le_of_lt (many_le HM.out) HLB.out); clear HRO q1))
  have HT1 : Aside0 (n1 ≤ 1000) := ⟨by rcases many_n HM.out with q | q <;> omega⟩
  go_loopg [6, 8, 16] n1.toNat (fun kq v6 v8 v16 w' => ∃ (b : List Int) (e x y all : Int) (i : Nat) (out : List (List S44)), v8 = .int .i64 all ∧ v16 = .int .i64 (i : Int) ∧ Aside0 (i + kq = n1.toNat) ∧ Aside0 (delta_Read.l0 k kq b e x y all out = some (eF, bF, outF)) ∧ Aside0 (b.length < 140737488355328) ∧ Aside0 (Ro w w' gR gL b e x y v6 out))
  case atStart => exact ⟨b1, e1, 0, 0, 0, 0, [], rfl, rfl, ⟨Nat.zero_add _⟩, HM2, HLB1, HRO2⟩
  case round =>
    obtain ⟨b, e, x, y, all, i, out, rfl, rfl, HI, HL0, HLb, HRO⟩ := hrel
    clear HM HM2 HLB HLB1 HRO2
    cases gk with
    | zero =>
      have hi : decide ((i : Int) < n1) = false := decide_eq_false (by have := HI.out; omega)
      have hL := HL0.out
      rw [delta_Read.l0] at hL
      cases hL
      obtain ⟨A1, c1, hc0, hc1, hf0, hf1, hC, hcc⟩ := Rd_cells HRO.out.1
      have HCb := Aside0.mk hC
      have HCC := Aside0.mk hcc
      clear hC hcc
      by_cases he : eF = 0
      · subst he
        have hF := HF.out
        simp only [if_true, Option.some.injEq, Prod.mk.injEq] at hF
        obtain ⟨rfl, rfl, rfl⟩ := hF
        clear hc0 hc1 hf0 hf1 HCb HCC HI HL0 HF
        obtain ⟨A1, c1, hc0, hc1, hf0, hf1, _, _⟩ := Rd_cells HRO.out.1
        go_wp2_with (first | ((with_reducible refine gate_dst (N := 77) rfl ?_); refine Kd.R_lit (Kd.int .u8) _ 5 ?hg (N := 77) ?hd (xs := ([] : List Int)) (inner := []) (ok := fun _ => True) (okp := fun _ => True) ?hr ?hp (fun _ hk => hk) trivial (Below.refl _ _) (Nat.le_refl _) (by simp) ?_; (case hd => rfl); (case hg => rfl); (case hr => first | (go_simp; done) | (go_simp; rfl)); (case hp => exact (Reps.none _ _)); intro vn wn ho20 hb hg_ hnew_; have HON := Aside0.mk (Kd.R_lower ho20 (Rd_B HRO.out.1).size); replace HRO := Aside0.mk (Ro_below HRO.out hb); clear hc0 hc1 hf0 hf1; obtain ⟨A1, c1, hc0, hc1, hf0, hf1, hC, hcc⟩ := Rd_cells HRO.out.1; have HCb := Aside0.mk hC; clear hC) | ((with_reducible refine gate_builtin (b := .append) (xs := #[.tmp 77, .tmp 81]) rfl ?_); at_builtin; refine Kd.R_append_rows (Kd.int .u8) (w0 := w) w.heap.size rfl (.tmp 77) (.tmp 81) 22 5 (.int .u8 0) 1 rfl Try.underlying22 info5 rfl (by decide) (by omega) vn ([] : List Int) bF _ _ _ (fun _ => True) (fun _ => False) rfl rfl ?aO ?aR (fun _ _ h => h) (fun _ h => h.elim) ?aF ?aB ?aS ?aL ?_; (case aR => exact HCb.out); (case aB => exact Rd_B HRO.out.1); (case aF => exact fun _ _ => trivial); (case aO => exact HON.out); (case aS => exact (Rd_B HRO.out.1).size); (case aL => have := HLb.out; rw [List.length_nil]; omega); intro vz wz ho hb hg hat; have HOZ := Aside0.mk ho; have HBZ := Aside0.mk hb; have HSZ := Aside0.mk (Kd.S_over' HRO.out.2.2.2 (Kd.R_typed HON.out) (by decide) hg); clear HRO HON HCb hc0 hc1 hf0 hf1; clear ho hb hg hat))
        go_ret3
        exact ⟨_, _, rfl, Kd.S_mono HSZ.out (fun _ _ => trivial), HOZ.out, HBZ.out⟩
      have heb : (eF != 0) = true := bne_iff_ne.mpr he
      have hF := HF.out
      rw [if_neg he] at hF
      simp only [Option.some.injEq, Prod.mk.injEq] at hF
      obtain ⟨rfl, rfl, rfl⟩ := hF
      clear HCb HCC HI HL0 HF he
      go_wp2
      have HBE := Aside0.mk (Rd_B HRO.out.1)
      refine start_ (n := 7) (S := fun w' => w'.cell? ⟨gR, 1, none⟩ = some (.int .i64 eF)) (ds := []) #[false, false, false, false, false, false, false] (by kernel_rfl) rfl rfl hc1 (fun hHeld => ?_)
      have HBE1 := Aside0.mk (below_drew HBE.out)
      clear HRO HBE hc0 hc1 hf0 hf1
      generalize wr.drew = wx1 at HBE1 hHeld ⊢
      refine pure_ (i := 0) (N := some 72) (v := ?_) (a' := ?_) #[true, false, false, false, false, false, false] rfl rfl (by kernel_rfl) (fun _ _ _ h => h) (Or.inl ⟨by rfl, ?_⟩) ?_ ?_
      rotate_left
      · intro w'
        go_simp
        with_reducible rfl
      rotate_left
      · simp only [Act.put, List.setIfInBounds_toArray, List.set_cons_zero, List.set_cons_succ, i64_w, i32_w]
        rfl
      refine pure_ (i := 1) (N := some 73) (v := ?_) (a' := ?_) #[true, true, false, false, false, false, false] rfl rfl (by kernel_rfl) (fun _ _ _ h => h) (Or.inl ⟨by rfl, ?_⟩) ?_ ?_
      rotate_left
      · intro w'
        go_simp
        with_reducible rfl
      rotate_left
      · simp only [Act.put, List.setIfInBounds_toArray, List.set_cons_zero, List.set_cons_succ, i64_w, i32_w]
        rfl
      refine pure_ (i := 2) (N := some 74) (v := ?_) (a' := ?_) #[true, true, true, false, false, false, false] rfl rfl (by kernel_rfl) (fun _ _ _ h => h) (Or.inl ⟨by rfl, ?_⟩) ?_ ?_
      rotate_left
      · intro w'
        go_simp
        with_reducible rfl
      rotate_left
      · simp only [Act.put, List.setIfInBounds_toArray, List.set_cons_zero, List.set_cons_succ, i64_w, i32_w]
        rfl
      refine take_ (i := 3) (N := some 75) (v := ?_) (a' := ?_) #[true, true, true, true, false, false, false] rfl rfl (by kernel_rfl) (fun _ _ _ h => h) (Or.inl ⟨by rfl, ?_⟩) hHeld ?_ ?_
      rotate_left
      · rintro w' s0
        go_simp
        with_reducible rfl
      rotate_left
      · simp only [Act.put, List.setIfInBounds_toArray, List.set_cons_zero, List.set_cons_succ, i64_w, i32_w]
        rfl
      refine pure_ (i := 4) (N := some 2) (v := ?_) (a' := ?_) #[true, true, true, true, true, false, false] rfl rfl (by kernel_rfl) (fun _ _ _ h => h) (Or.inl ⟨by rfl, ?_⟩) ?_ ?_
      rotate_left
      · intro w'
        go_simp
        with_reducible rfl
      rotate_left
      · simp only [Act.put, List.setIfInBounds_toArray, List.set_cons_zero, List.set_cons_succ, i64_w, i32_w]
        rfl
      refine pure_ (i := 5) (N := some 3) (v := ?_) (a' := ?_) #[true, true, true, true, true, true, false] rfl rfl (by kernel_rfl) (fun _ _ _ h => h) (Or.inl ⟨by rfl, ?_⟩) ?_ ?_
      rotate_left
      · intro w'
        go_simp
        with_reducible rfl
      rotate_left
      · simp only [Act.put, List.setIfInBounds_toArray, List.set_cons_zero, List.set_cons_succ, i64_w, i32_w]
        rfl
      refine pure_ (i := 6) (N := some 4) (v := ?_) (a' := ?_) #[true, true, true, true, true, true, true] rfl rfl (by kernel_rfl) (fun _ _ _ h => h) (Or.inl ⟨by rfl, ?_⟩) ?_ ?_
      rotate_left
      · intro w'
        go_simp
        with_reducible rfl
      rotate_left
      · simp only [Act.put, List.setIfInBounds_toArray, List.set_cons_zero, List.set_cons_succ, i64_w, i32_w]
        rfl
      refine done_ (by kernel_rfl) ?_
      go_wp2
      go_ret3
      exact ⟨_, _, rfl, Kd.S_nil _ _ _ _ _, Kd.R_nil _ _ _ _ _, HBE1.out⟩
    | succ m =>
      have hi : decide ((i : Int) < n1) = true := decide_eq_true (by have := HI.out; omega)
      have hL := HL0.out
      rw [delta_Read.l0] at hL
      obtain ⟨⟨n2, b2, e2⟩, hm, hL⟩ := Option.bind_eq_some_iff.1 hL
      obtain ⟨⟨e3, b3, x3, y3, l3⟩, hm2, hL⟩ := Option.bind_eq_some_iff.1 hL
      have HM := Aside0.mk hm
      have HM2 := Aside0.mk hm2
      have HLr := Aside0.mk hL
      clear hm hm2 hL HL0
      have HLb2 := Aside0.mk (Nat.lt_of_le_of_lt (many_le HM.out) HLb.out)
      go_wp2_with (first | ((with_reducible refine gate_callee (f := 41) rfl ?_); refine goesL_ (some 21) rfl rfl Try.func41 (by kernel_rfl) rfl #[.pointer (some ⟨gR, 0, none⟩), .int .i64 (wrap64 (20000 - all))] rfl (by (try simp only [List.map_toArray, List.map_cons, List.map_nil]); first | done | rfl) ?_; (refine (Ro_many HRO.out HM.out (Nat.lt_trans HLb.out (by decide))).mono ?_); rintro r_ wE ⟨rfl, q1⟩; refine ⟨_, rfl, ?_⟩; have HRI := Aside0.mk (Ro_Ri q1); clear HRO q1))
      have HT2 : Aside0 (n2 ≤ 9223372036854775807) := ⟨(many_n HM.out).elim (fun q => by omega) (fun q => Int.le_trans q (wrap64_top _))⟩
      have HLb3 := Aside0.mk (Nat.lt_of_le_of_lt (l1_le _ _ _ _ _ _ _ _ _ _ _ _ HM2.out) HLb2.out)
      go_loopg [9, 26] n2.toNat (fun kq v9 v26 w' => ∃ (b : List Int) (e x y : Int) (i : Nat) (l : List S44), v26 = .int .i64 (i : Int) ∧ Aside0 (i + kq = n2.toNat) ∧ Aside0 (delta_Read.l1 k kq b e x y l = some (e3, b3, x3, y3, l3)) ∧ Aside0 (b.length < 140737488355328) ∧ Aside0 (Ri w w' gR gL b e x y u6 out v9 l))
      case atStart => exact ⟨b2, e2, x, y, 0, [], rfl, ⟨Nat.zero_add _⟩, HM2, HLb2, HRI⟩
      case round =>
        clear HLb HM HM2 HLb2 HRI hi
        obtain ⟨b, e, x1, y1, j, l, rfl, HJ, HL1, HLB, HRI⟩ := hrel
        cases gk with
        | zero =>
          have hi : decide ((j : Int) < n2) = false := decide_eq_false (by have := HJ.out; omega)
          have hL := HL1.out
          rw [delta_Read.l1] at hL
          cases hL
          obtain ⟨A1, c1, hc0, hc1, hf0, hf1, _, _⟩ := Rd_cells HRI.out.1
          by_cases he : e3 = 0
          · subst he
            have hL := HLr.out
            rw [if_pos rfl] at hL
            by_cases hlen : out.length < 5864062014805
            rotate_left
            · rw [if_neg hlen] at hL; cases hL
            rw [if_pos hlen] at hL
            have HLN := Aside0.mk hL
            have LM := Aside0.mk hlen
            clear hL HLr hlen HL1 HJ
            obtain ⟨Al, cl, el⟩ := Kd.R_slice HRI.out.2.2.2.2
            subst el
            go_wp2_with (first | ((with_reducible refine gate_builtin (b := .append) (xs := #[.tmp 62, .tmp 64]) rfl ?_); at_builtin; refine Kd.S_append (Kd.slice 44 k44) (w0 := w) w.heap.size rfl (.tmp 62) (.tmp 64) 23 35 (.slice none 0 0) 24 rfl Try.underlying23 info35r rfl (by decide) (by omega) u6 out l3 [.slice Al l3.length cl] (fun k => k ≠ gL) (fun k_ => some k_ = (.slice Al l3.length cl : Value).ownBlock) rfl rfl ?aP (fun k_ hk_ => (Kd.R_apart' HRI.out.2.2.2.2 (Kd.S_typed HRI.out.2.2.2.1) (by decide)).1 k_ hk_.symm) ?aF ?aO ?aB ?aS ?aL ?_; (case aP => exact Kd.M_row (Kd.R_mono (Kd.R_tight rfl HRI.out.2.2.2.2) (fun _ h_ => h_))); (case aB => exact Rd_B HRI.out.1); (case aF => exact fun k_ hk_ e_ => by have := blk_lt HRI.out.2.1; omega); (case aO => exact Kd.S_mono HRI.out.2.2.2.1 (fun k_ hk => ⟨hk.1, fun e_ => hk.2 e_⟩)); (case aS => exact (Rd_B HRI.out.1).size); (case aL => have := LM.out; omega); intro vo2 wo ho hb hg hat; have HRO := Aside0.mk (Ri_out HRI.out hb hg ho); clear HRI hc0 hc1 hf0 hf1; clear ho hb hg hat))
            have wi : wrap64 ((i : Int) + 1) = ((i + 1 : Nat) : Int) := by have h1 := HT1.out; have h2 := HI.out; rw [wrap64_eq] <;> omega
            go_roundg m
            case rel => exact ⟨b3, 0, x3, y3, _, i + 1, _, rfl, by rw [wi], ⟨by have := HI.out; omega⟩, HLN, HLb3, HRO⟩
            case measure => omega
          have heb : (e3 != 0) = true := bne_iff_ne.mpr he
          have hL := HLr.out
          rw [if_neg he] at hL
          cases hL
          have hF := HF.out
          rw [if_neg he] at hF
          simp only [Option.some.injEq, Prod.mk.injEq] at hF
          obtain ⟨rfl, rfl, rfl⟩ := hF
          clear HF HLr HL1 HJ he
          go_wp2
          have HBE := Aside0.mk (Rd_B HRI.out.1)
          refine start_ (n := 7) (S := fun w' => w'.cell? ⟨gR, 1, none⟩ = some (.int .i64 eF)) (ds := []) #[false, false, false, false, false, false, false] (by kernel_rfl) rfl rfl hc1 (fun hHeld => ?_)
          have HBE1 := Aside0.mk (below_drew HBE.out)
          clear HRI HBE hc0 hc1 hf0 hf1
          generalize wr.drew = wx1 at HBE1 hHeld ⊢
          refine pure_ (i := 0) (N := some 58) (v := ?_) (a' := ?_) #[true, false, false, false, false, false, false] rfl rfl (by kernel_rfl) (fun _ _ _ h => h) (Or.inl ⟨by rfl, ?_⟩) ?_ ?_
          rotate_left
          · intro w'
            go_simp
            with_reducible rfl
          rotate_left
          · simp only [Act.put, List.setIfInBounds_toArray, List.set_cons_zero, List.set_cons_succ, i64_w, i32_w]
            rfl
          refine pure_ (i := 1) (N := some 59) (v := ?_) (a' := ?_) #[true, true, false, false, false, false, false] rfl rfl (by kernel_rfl) (fun _ _ _ h => h) (Or.inl ⟨by rfl, ?_⟩) ?_ ?_
          rotate_left
          · intro w'
            go_simp
            with_reducible rfl
          rotate_left
          · simp only [Act.put, List.setIfInBounds_toArray, List.set_cons_zero, List.set_cons_succ, i64_w, i32_w]
            rfl
          refine pure_ (i := 2) (N := some 60) (v := ?_) (a' := ?_) #[true, true, true, false, false, false, false] rfl rfl (by kernel_rfl) (fun _ _ _ h => h) (Or.inl ⟨by rfl, ?_⟩) ?_ ?_
          rotate_left
          · intro w'
            go_simp
            with_reducible rfl
          rotate_left
          · simp only [Act.put, List.setIfInBounds_toArray, List.set_cons_zero, List.set_cons_succ, i64_w, i32_w]
            rfl
          refine take_ (i := 3) (N := some 61) (v := ?_) (a' := ?_) #[true, true, true, true, false, false, false] rfl rfl (by kernel_rfl) (fun _ _ _ h => h) (Or.inl ⟨by rfl, ?_⟩) hHeld ?_ ?_
          rotate_left
          · rintro w' s0
            go_simp
            with_reducible rfl
          rotate_left
          · simp only [Act.put, List.setIfInBounds_toArray, List.set_cons_zero, List.set_cons_succ, i64_w, i32_w]
            rfl
          refine pure_ (i := 4) (N := some 2) (v := ?_) (a' := ?_) #[true, true, true, true, true, false, false] rfl rfl (by kernel_rfl) (fun _ _ _ h => h) (Or.inl ⟨by rfl, ?_⟩) ?_ ?_
          rotate_left
          · intro w'
            go_simp
            with_reducible rfl
          rotate_left
          · simp only [Act.put, List.setIfInBounds_toArray, List.set_cons_zero, List.set_cons_succ, i64_w, i32_w]
            rfl
          refine pure_ (i := 5) (N := some 3) (v := ?_) (a' := ?_) #[true, true, true, true, true, true, false] rfl rfl (by kernel_rfl) (fun _ _ _ h => h) (Or.inl ⟨by rfl, ?_⟩) ?_ ?_
          rotate_left
          · intro w'
            go_simp
            with_reducible rfl
          rotate_left
          · simp only [Act.put, List.setIfInBounds_toArray, List.set_cons_zero, List.set_cons_succ, i64_w, i32_w]
            rfl
          refine pure_ (i := 6) (N := some 4) (v := ?_) (a' := ?_) #[true, true, true, true, true, true, true] rfl rfl (by kernel_rfl) (fun _ _ _ h => h) (Or.inl ⟨by rfl, ?_⟩) ?_ ?_
          rotate_left
          · intro w'
            go_simp
            with_reducible rfl
          rotate_left
          · simp only [Act.put, List.setIfInBounds_toArray, List.set_cons_zero, List.set_cons_succ, i64_w, i32_w]
            rfl
          refine done_ (by kernel_rfl) ?_
          go_wp2
          go_ret3
          exact ⟨_, _, rfl, Kd.S_nil _ _ _ _ _, Kd.R_nil _ _ _ _ _, HBE1.out⟩
        | succ m1 =>
          have hi : decide ((j : Int) < n2) = true := decide_eq_true (by have := HJ.out; omega)
          have hL := HL1.out
          rw [delta_Read.l1] at hL
          obtain ⟨⟨n3, b4, e4⟩, hm3, hL⟩ := Option.bind_eq_some_iff.1 hL
          obtain ⟨⟨n4, b5, e5⟩, hm4, hL⟩ := Option.bind_eq_some_iff.1 hL
          have HN1 := Aside0.mk hm3
          have HN2 := Aside0.mk hm4
          have HLL := Aside0.mk hL
          clear hm3 hm4 hL HL1
          have HLBa := Aside0.mk (Nat.lt_trans HLB.out (show 140737488355328 < 9000000000000000000 by decide))
          have HLBb := Aside0.mk (Nat.lt_of_le_of_lt (num_le HN1.out) HLBa.out)
          have HLB5 := Aside0.mk (Nat.lt_of_le_of_lt (Nat.le_trans (num_le HN2.out) (num_le HN1.out)) HLB.out)
          have hcl0 : wr.cell? ⟨gL, 0, none⟩ = some (.int .i64 x1) := (blk_cell HRI.out.2.1 0).trans rfl
          have hcl1 : wr.cell? ⟨gL, 1, none⟩ = some (.int .i64 y1) := (blk_cell HRI.out.2.1 1).trans rfl
          have hfl0 := blk_frozen HRI.out.2.1 0
          have hfl1 := blk_frozen HRI.out.2.1 1
          go_upto_region 12 with (fail)
          refine start_ (n := 12) (S := fun w' => w'.cell? ⟨gL, 0, none⟩ = some (.int .i64 x1) ∧ w'.cell? ⟨gL, 1, none⟩ = some (.int .i64 y1)) (ds := [11]) #[false, false, false, false, false, false, false, false, false, false, false, false] (by kernel_rfl) rfl rfl ⟨hcl0, hcl1⟩ (fun hHeld => ?_)
          have HR1 := Aside0.mk (Ri_drew HRI.out)
          clear HRI hcl0 hcl1 hfl0 hfl1
          generalize wr.drew = wr1 at HR1 hHeld ⊢
          refine pure_ (i := 0) (N := some 28) (v := ?_) (a' := ?_) #[true, false, false, false, false, false, false, false, false, false, false, false] rfl rfl (by kernel_rfl) (fun _ _ _ h => h) (Or.inl ⟨by rfl, ?_⟩) ?_ ?_
          rotate_left
          · intro w'
            go_simp
            with_reducible rfl
          rotate_left
          · simp only [Act.put, List.setIfInBounds_toArray, List.set_cons_zero, List.set_cons_succ, i64_w, i32_w]
            rfl
          refine pure_ (i := 2) (N := some 30) (v := ?_) (a' := ?_) #[true, false, true, false, false, false, false, false, false, false, false, false] rfl rfl (by kernel_rfl) (fun _ _ _ h => h) (Or.inl ⟨by rfl, ?_⟩) ?_ ?_
          rotate_left
          · intro w'
            go_simp
            with_reducible rfl
          rotate_left
          · simp only [Act.put, List.setIfInBounds_toArray, List.set_cons_zero, List.set_cons_succ, i64_w, i32_w]
            rfl
          refine pure_ (i := 5) (N := some 33) (v := ?_) (a' := ?_) #[true, false, true, false, false, true, false, false, false, false, false, false] rfl rfl (by kernel_rfl) (fun _ _ _ h => h) (Or.inl ⟨by rfl, ?_⟩) ?_ ?_
          rotate_left
          · intro w'
            go_simp
            with_reducible rfl
          rotate_left
          · simp only [Act.put, List.setIfInBounds_toArray, List.set_cons_zero, List.set_cons_succ, i64_w, i32_w]
            rfl
          refine pure_ (i := 7) (N := some 35) (v := ?_) (a' := ?_) #[true, false, true, false, false, true, false, true, false, false, false, false] rfl rfl (by kernel_rfl) (fun _ _ _ h => h) (Or.inl ⟨by rfl, ?_⟩) ?_ ?_
          rotate_left
          · intro w'
            go_simp
            with_reducible rfl
          rotate_left
          · simp only [Act.put, List.setIfInBounds_toArray, List.set_cons_zero, List.set_cons_succ, i64_w, i32_w]
            rfl
          refine take_ (i := 1) (N := some 29) (v := ?_) (a' := ?_) #[true, true, true, false, false, true, false, true, false, false, false, false] rfl rfl (by kernel_rfl) (fun _ _ _ h => h) (Or.inl ⟨by rfl, ?_⟩) hHeld ?_ ?_
          rotate_left
          · rintro w' ⟨s0, s1⟩
            go_simp
            with_reducible rfl
          rotate_left
          · simp only [Act.put, List.setIfInBounds_toArray, List.set_cons_zero, List.set_cons_succ, i64_w, i32_w]
            rfl
          refine take_ (i := 6) (N := some 34) (v := ?_) (a' := ?_) #[true, true, true, false, false, true, true, true, false, false, false, false] rfl rfl (by kernel_rfl) (fun _ _ _ h => h) (Or.inl ⟨by rfl, ?_⟩) hHeld ?_ ?_
          rotate_left
          · rintro w' ⟨s0, s1⟩
            go_simp
            with_reducible rfl
          rotate_left
          · simp only [Act.put, List.setIfInBounds_toArray, List.set_cons_zero, List.set_cons_succ, i64_w, i32_w]
            rfl
          refine one_ (i := 3) (N := some 31) #[true, true, true, true, false, true, true, true, false, false, false, false] rfl rfl (by kernel_rfl) (by decide) (fun K hK => ?_)
          refine goes_ Try.func42 (by kernel_rfl) rfl #[.pointer (some ⟨gR, 0, none⟩)] (by rfl) rfl rfl (by (try simp only [List.map_toArray, List.map_cons, List.map_nil]); first | done | rfl) ?_
          refine (Ri_num HR1.out HN1.out HLBa.out).mono ?_
          rintro r_ wr2 ⟨rfl, q1⟩
          refine ⟨_, rfl, ?_⟩
          have HR2 := Aside0.mk q1
          clear q1 hHeld
          refine hK.out _ _ ⟨(blk_cell HR2.out.2.1 0).trans rfl, (blk_cell HR2.out.2.1 1).trans rfl⟩ (fun hHeld => ?_)
          clear hK K
          refine norm_ (a' := ?_) ?_ ?_
          rotate_left
          · show Act.put _ (some 31) _ = _
            simp only [Act.put, List.setIfInBounds_toArray, List.set_cons_zero, List.set_cons_succ, i64_w, i32_w]
            rfl
          refine pure_ (i := 4) (N := some 32) (v := ?_) (a' := ?_) #[true, true, true, true, true, true, true, true, false, false, false, false] rfl rfl (by kernel_rfl) (fun _ _ _ h => h) (Or.inl ⟨by rfl, ?_⟩) ?_ ?_
          rotate_left
          · intro w'
            go_simp
            with_reducible rfl
          rotate_left
          · simp only [Act.put, List.setIfInBounds_toArray, List.set_cons_zero, List.set_cons_succ, i64_w, i32_w]
            rfl
          refine one_ (i := 8) (N := some 36) #[true, true, true, true, true, true, true, true, true, false, false, false] rfl rfl (by kernel_rfl) (by decide) (fun K hK => ?_)
          refine goes_ Try.func42 (by kernel_rfl) rfl #[.pointer (some ⟨gR, 0, none⟩)] (by rfl) rfl rfl (by (try simp only [List.map_toArray, List.map_cons, List.map_nil]); first | done | rfl) ?_
          refine (Ri_num HR2.out HN2.out HLBb.out).mono ?_
          rintro r_ wr3 ⟨rfl, q1⟩
          refine ⟨_, rfl, ?_⟩
          have HR3 := Aside0.mk q1
          clear q1 hHeld
          refine hK.out _ _ ⟨(blk_cell HR3.out.2.1 0).trans rfl, (blk_cell HR3.out.2.1 1).trans rfl⟩ (fun hHeld => ?_)
          clear hK K
          refine norm_ (a' := ?_) ?_ ?_
          rotate_left
          · show Act.put _ (some 36) _ = _
            simp only [Act.put, List.setIfInBounds_toArray, List.set_cons_zero, List.set_cons_succ, i64_w, i32_w]
            rfl
          refine pure_ (i := 9) (N := some 37) (v := ?_) (a' := ?_) #[true, true, true, true, true, true, true, true, true, true, false, false] rfl rfl (by kernel_rfl) (fun _ _ _ h => h) (Or.inl ⟨by rfl, ?_⟩) ?_ ?_
          rotate_left
          · intro w'
            go_simp
            with_reducible rfl
          rotate_left
          · simp only [Act.put, List.setIfInBounds_toArray, List.set_cons_zero, List.set_cons_succ, i64_w, i32_w]
            rfl
          refine pure_ (i := 10) (N := some 38) (v := ?_) (a' := ?_) #[true, true, true, true, true, true, true, true, true, true, true, false] rfl rfl (by kernel_rfl) (fun _ _ _ h => h) (Or.inl ⟨by rfl, ?_⟩) ?_ ?_
          rotate_left
          · intro w'
            go_simp
            with_reducible rfl
          rotate_left
          · simp only [Act.put, List.setIfInBounds_toArray, List.set_cons_zero, List.set_cons_succ, i64_w, i32_w]
            rfl
          have hs0 : wr3.cell? ⟨gL, 0, none⟩ = some (.int .i64 x1) := (blk_cell HR3.out.2.1 0).trans rfl
          have hs1 : wr3.cell? ⟨gL, 1, none⟩ = some (.int .i64 y1) := (blk_cell HR3.out.2.1 1).trans rfl
          have hfs0 := blk_frozen HR3.out.2.1 0
          have hfs1 := blk_frozen HR3.out.2.1 1
          refine last_ (i := 11) (N := none) #[true, true, true, true, true, true, true, true, true, true, true, true] rfl rfl (by kernel_rfl) (by decide) (fun K hK => ?_)
          refine skip_ (w1 := ?_) (by rfl) rfl ?_ ?_
          rotate_left
          · go_simp
            rfl
          refine hK.out _ _ ?_
          clear hK K
          refine done_ (by kernel_rfl) ?_
          have HR4 := Aside0.mk (Ri_put HR3.out (wrap64 (x1 + n3)) (wrap64 (y1 + n4)))
          generalize ((wr3.setCell ⟨gL, 0, none⟩ (.int .i64 (wrap64 (x1 + n3)))).setCell ⟨gL, 1, none⟩ (.int .i64 (wrap64 (y1 + n4)))) = wr4 at HR4 ⊢
          clear HR1 HR2 HR3 hs0 hs1 hfs0 hfs1 hHeld
          obtain ⟨A1, c1, hc0, hc1, hf0, hf1, _, _⟩ := Rd_cells HR4.out.1
          have hcl0 : wr4.cell? ⟨gL, 0, none⟩ = some (.int .i64 (wrap64 (x1 + n3))) := (blk_cell HR4.out.2.1 0).trans rfl
          have hcl1 : wr4.cell? ⟨gL, 1, none⟩ = some (.int .i64 (wrap64 (y1 + n4))) := (blk_cell HR4.out.2.1 1).trans rfl
          have hfl0 := blk_frozen HR4.out.2.1 0
          have hfl1 := blk_frozen HR4.out.2.1 1
          by_cases he : e5 = 0
          · subst he
            have hL := HLL.out
            rw [if_pos rfl] at hL
            by_cases hlen : l.length < 8796093022208
            rotate_left
            · rw [if_neg hlen] at hL; cases hL
            rw [if_pos hlen] at hL
            have HLN := Aside0.mk hL
            have LM := Aside0.mk hlen
            clear hL HLL hlen
            go_wp2_with (first | ((with_reducible refine gate_builtin (b := .append) (xs := #[.tmp 48, .tmp 50]) rfl ?_); at_builtin; refine Kd.R_append k44 (w0 := w) w.heap.size rfl (.tmp 48) (.tmp 50) 35 44 (.agg #[(.int .i64 0), (.int .i64 0)]) 16 rfl Try.underlying35 info44r rfl (by decide) (by omega) u9 l (⟨wrap64 (x1 + n3), wrap64 (y1 + n4)⟩ : S44) [.int .i64 (wrap64 (x1 + n3)), .int .i64 (wrap64 (y1 + n4))] (fun k_ => k_ ≠ gL) (fun _ => False) rfl rfl ?aP (fun _ hk => hk.elim) ?aF ?aO ?aB ?aS ?aL ?_; (case aP => exact k44_mkM _ _ _ (⟨wrap64 (x1 + n3), wrap64 (y1 + n4)⟩ : S44)); (case aB => exact Rd_B HR4.out.1); (case aF => exact fun k_ hk_ e_ => by have := blk_lt HR4.out.2.1; omega); (case aO => exact HR4.out.2.2.2.2); (case aS => exact (Rd_B HR4.out.1).size); (case aL => have := LM.out; omega); intro vl2 wo ho hb hg hat; have HRI := Aside0.mk (Ri_l HR4.out hb hg hat ho); clear HR4 hc0 hc1 hf0 hf1 hcl0 hcl1 hfl0 hfl1; clear ho hb hg hat))
            have wj : wrap64 ((j : Int) + 1) = ((j + 1 : Nat) : Int) := by have h1 := HT2.out; have h2 := HJ.out; rw [wrap64_eq] <;> omega
            go_roundg m1
            case rel => exact ⟨b5, 0, _, _, j + 1, _, by rw [wj], ⟨by have := HJ.out; omega⟩, HLN, HLB5, HRI⟩
            case measure => omega
          have heb : (e5 != 0) = true := bne_iff_ne.mpr he
          have hL := HLL.out
          rw [if_neg he] at hL
          cases hL
          have hL := HLr.out
          rw [if_neg he] at hL
          cases hL
          have hF := HF.out
          rw [if_neg he] at hF
          simp only [Option.some.injEq, Prod.mk.injEq] at hF
          obtain ⟨rfl, rfl, rfl⟩ := hF
          clear HF HLr HLL HJ he hcl0 hcl1 hfl0 hfl1
          go_wp2
          have HBE := Aside0.mk (Rd_B HR4.out.1)
          refine start_ (n := 7) (S := fun w' => w'.cell? ⟨gR, 1, none⟩ = some (.int .i64 e5)) (ds := []) #[false, false, false, false, false, false, false] (by kernel_rfl) rfl rfl hc1 (fun hHeld => ?_)
          have HBE1 := Aside0.mk (below_drew HBE.out)
          clear HR4 HBE hc0 hc1 hf0 hf1
          generalize wr4.drew = wx1 at HBE1 hHeld ⊢
          refine pure_ (i := 0) (N := some 44) (v := ?_) (a' := ?_) #[true, false, false, false, false, false, false] rfl rfl (by kernel_rfl) (fun _ _ _ h => h) (Or.inl ⟨by rfl, ?_⟩) ?_ ?_
          rotate_left
          · intro w'
            go_simp
            with_reducible rfl
          rotate_left
          · simp only [Act.put, List.setIfInBounds_toArray, List.set_cons_zero, List.set_cons_succ, i64_w, i32_w]
            rfl
          refine pure_ (i := 1) (N := some 45) (v := ?_) (a' := ?_) #[true, true, false, false, false, false, false] rfl rfl (by kernel_rfl) (fun _ _ _ h => h) (Or.inl ⟨by rfl, ?_⟩) ?_ ?_
          rotate_left
          · intro w'
            go_simp
            with_reducible rfl
          rotate_left
          · simp only [Act.put, List.setIfInBounds_toArray, List.set_cons_zero, List.set_cons_succ, i64_w, i32_w]
            rfl
          refine pure_ (i := 2) (N := some 46) (v := ?_) (a' := ?_) #[true, true, true, false, false, false, false] rfl rfl (by kernel_rfl) (fun _ _ _ h => h) (Or.inl ⟨by rfl, ?_⟩) ?_ ?_
          rotate_left
          · intro w'
            go_simp
            with_reducible rfl
          rotate_left
          · simp only [Act.put, List.setIfInBounds_toArray, List.set_cons_zero, List.set_cons_succ, i64_w, i32_w]
            rfl
          refine take_ (i := 3) (N := some 47) (v := ?_) (a' := ?_) #[true, true, true, true, false, false, false] rfl rfl (by kernel_rfl) (fun _ _ _ h => h) (Or.inl ⟨by rfl, ?_⟩) hHeld ?_ ?_
          rotate_left
          · rintro w' s0
            go_simp
            with_reducible rfl
          rotate_left
          · simp only [Act.put, List.setIfInBounds_toArray, List.set_cons_zero, List.set_cons_succ, i64_w, i32_w]
            rfl
          refine pure_ (i := 4) (N := some 2) (v := ?_) (a' := ?_) #[true, true, true, true, true, false, false] rfl rfl (by kernel_rfl) (fun _ _ _ h => h) (Or.inl ⟨by rfl, ?_⟩) ?_ ?_
          rotate_left
          · intro w'
            go_simp
            with_reducible rfl
          rotate_left
          · simp only [Act.put, List.setIfInBounds_toArray, List.set_cons_zero, List.set_cons_succ, i64_w, i32_w]
            rfl
          refine pure_ (i := 5) (N := some 3) (v := ?_) (a' := ?_) #[true, true, true, true, true, true, false] rfl rfl (by kernel_rfl) (fun _ _ _ h => h) (Or.inl ⟨by rfl, ?_⟩) ?_ ?_
          rotate_left
          · intro w'
            go_simp
            with_reducible rfl
          rotate_left
          · simp only [Act.put, List.setIfInBounds_toArray, List.set_cons_zero, List.set_cons_succ, i64_w, i32_w]
            rfl
          refine pure_ (i := 6) (N := some 4) (v := ?_) (a' := ?_) #[true, true, true, true, true, true, true] rfl rfl (by kernel_rfl) (fun _ _ _ h => h) (Or.inl ⟨by rfl, ?_⟩) ?_ ?_
          rotate_left
          · intro w'
            go_simp
            with_reducible rfl
          rotate_left
          · simp only [Act.put, List.setIfInBounds_toArray, List.set_cons_zero, List.set_cons_succ, i64_w, i32_w]
            rfl
          refine done_ (by kernel_rfl) ?_
          go_wp2
          go_ret3
          exact ⟨_, _, rfl, Kd.S_nil _ _ _ _ _, Kd.R_nil _ _ _ _ _, HBE1.out⟩
end Go.Proofs.Ytjgoehhhjffpmaa.Q

