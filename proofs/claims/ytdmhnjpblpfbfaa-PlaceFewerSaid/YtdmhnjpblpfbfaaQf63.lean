/- The state of place's search, and whether a box fits: (*search).fits. Conditions: stated at each. -/
import Derived.Test.YtdmhnjpblpfbfaaQf61
namespace Go.Proofs.Ytdmhnjpblpfbfaa.Q
open Go.RowKit Go.Proofs.YtdmhnjpblpfbfaaW.PrintWords Go.Proofs.YtdmhnjpblpfbfaaW.PrintLast Go.Proofs.YtdmhnjpblpfbfaaW.PrintMore
attribute [local go_sem] max2_int min2_int max_two min_two max_three min_three max_four min_four
set_option linter.unusedVariables false
set_option linter.unusedSimpArgs false
theorem wrap64_eq (n : Int) (h0 : -9223372036854775808 ≤ n) (h1 : n ≤ 9223372036854775807) : wrap64 n = n := by unfold wrap64; omega
def hasB (a0 a1 a2 a3 x y : Int) : Bool := decide (a0 ≤ x ∧ x ≤ a2 ∧ a1 ≤ y ∧ y ≤ a3)
def meetB (a0 a1 a2 a3 b0 b1 b2 b3 : Int) : Bool := hasB a0 a1 a2 a3 (mx a0 b0) (mx a1 b1) && hasB b0 b1 b2 b3 (mx a0 b0) (mx a1 b1)
theorem has_eq (a0 a1 a2 a3 x y : Int) : box_Has.f a0 a1 a2 a3 x y = some (hasB a0 a1 a2 a3 x y) := by
  unfold box_Has.f hasB
  by_cases h1 : a0 ≤ x <;> by_cases h2 : x ≤ a2 <;> by_cases h3 : a1 ≤ y <;> simp [h1, h2, h3]
theorem meet_eq (a0 a1 a2 a3 b0 b1 b2 b3 : Int) : box_Meet.f a0 a1 a2 a3 b0 b1 b2 b3 = some (meetB a0 a1 a2 a3 b0 b1 b2 b3) := by
  unfold box_Meet.f meetB
  rw [has_eq, Option.bind_some, has_eq]
  cases hasB a0 a1 a2 a3 (mx a0 b0) (mx a1 b1) <;> simp
/-- The i-th label's k-th box meets a box. -/
def hitB (L : List S36) (i k b0 b1 b2 b3 : Int) : Bool := meetB (rd_T42 (rd_T36 L i).f1 k).f0.f0 (rd_T42 (rd_T36 L i).f1 k).f0.f1 (rd_T42 (rd_T36 L i).f1 k).f1.f0 (rd_T42 (rd_T36 L i).f1 k).f1.f1 b0 b1 b2 b3
/-- The box overlaps none of those chosen (from the i-th label on, d of them). -/
def fitB (L : List S36) (now : List Int) (b0 b1 b2 b3 : Int) : Nat → Nat → Bool
  | 0, _ => true
  | d + 1, i => if 0 ≤ rd now (i : Int) ∧ hitB L (i : Int) (rd now (i : Int)) b0 b1 b2 b3 = true then false else fitB L now b0 b1 b2 b3 d (i + 1)
/-- The state of a search in block g: its labels lie in the world w, which stays. -/
def Se (w W : World) (g : Nat) (A : Option Addr) (c : Nat) (L : List S36) (rest now best : List Int) (worth top : Int) : Prop :=
  ∃ vr vn vb, W.heap[g]? = some (.cells #[.slice A L.length c, vr, vn, vb, .int .i64 worth, .int .i64 top] 80 (0, 0)) ∧ Kd.R (Kd.int .i64) 3 W w.heap.size (fun k => some k ≠ vn.ownBlock) vr rest ∧ Kd.R (Kd.int .i64) 3 W w.heap.size (fun _ => True) vn now ∧
    Kd.R (Kd.int .i64) 3 W w.heap.size (fun k => some k ≠ vn.ownBlock) vb best ∧ w.heap.size ≤ g ∧ Below w.heap.size w W
section
variable {w W W' : World} {g c : Nat} {A : Option Addr} {L : List S36} {rest now best : List Int} {worth top : Int}
theorem Se_B (h : Se w W g A c L rest now best worth top) : Below w.heap.size w W := by
  obtain ⟨_, _, _, _, _, _, _, _, h6⟩ := h
  exact h6
theorem Se_lt (h : Se w W g A c L rest now best worth top) : g < W.heap.size := by
  obtain ⟨_, _, _, h1, _⟩ := h
  exact blk_lt h1
theorem Se_below (h : Se w W g A c L rest now best worth top) (hb : Below W.heap.size W W') : Se w W' g A c L rest now best worth top := by
  obtain ⟨vr, vn, vb, h1, h2, h3, h4, h5, h6⟩ := h
  exact ⟨vr, vn, vb, blk_below h1 hb, Kd.R_below h2 hb, Kd.R_below h3 hb, Kd.R_below h4 hb, h5, below_step h6 hb⟩
end
set_option maxHeartbeats 8000000 in
set_option maxRecDepth 100000 in
theorem fits_calls {w W : World} {g c : Nat} {A : Option Addr} {L : List S36} {rest now best : List Int} {worth top : Int} (h : Se w W g A c L rest now best worth top) (hL : Kd.C k36 w A L.length L) (hn : now.length ≤ L.length) (hm : now.length ≤ 1000000)
    (hk : ∀ i, i < now.length → rd now (i : Int) < ((rd_T36 L (i : Int)).f1.length : Int)) (b0 b1 b2 b3 : Int) :
    Calls Try.prog 63 #[.pointer (some ⟨g, 0, none⟩), .agg #[.int .i64 b0, .int .i64 b1, .int .i64 b2, .int .i64 b3]] W fun r W' => r = .returned (.bool (fitB L now b0 b1 b2 b3 now.length 0)) ∧ Below W.heap.size W W' := by
  have hu42 := Try.underlying42
  have hu40 := Try.underlying40
  have hu36 := Try.underlying36
  have HSe := Aside0.mk h
  obtain ⟨vr, vn, vb, hg, _, hrn, _, _, _⟩ := h
  have hcA : W.cell? ⟨g, 0, none⟩ = some (.slice A L.length c) := (blk_cell hg 0).trans rfl
  have hcn : W.cell? ⟨g, 2, none⟩ = some vn := (blk_cell hg 2).trans rfl
  obtain ⟨An, cn, en⟩ := Kd.R_slice hrn
  subst en
  have HN := Aside0.mk (Kd.R_reads' hrn).2.2
  have HL := Aside0.mk hL
  have HK := Aside0.mk hk
  have Hn := Aside0.mk hn
  have Hm := Aside0.mk hm
  have HB := Aside0.mk (Below.refl W.heap.size W)
  clear hg hrn hL hk hn hm
  go_enter Try.func63, Try.ntmps63
  go_wp2_with (first | ((with_reducible refine gate_dst (N := 3) rfl ?_); refine box_event ?hg (N := 3) ?hd (cs := #[.int .i64 b0, .int .i64 b1, .int .i64 b2, .int .i64 b3]) (t := 42) ?hr ?_; (case hd => rfl); (case hg => rfl); (case hr => first | (go_simp; done) | (go_simp; rfl)); intro gB hgB wB hbox hb; have BB := Aside0.mk hbox; replace HB := Aside0.mk (below_step (by repeat (first | (with_reducible first | exact HB.out | apply below_alloc | apply pw_below_drewN | apply below_drew1) | exact HB.out)) hb); have n1_ : wB.cell? ⟨g, 0, none⟩ = some (.slice A L.length c) := (hb.cell (World.block_lt_of_cell? _ _ hcA)).trans hcA; have n2_ : wB.cell? ⟨g, 2, none⟩ = some (.slice An now.length cn) := (hb.cell (World.block_lt_of_cell? _ _ hcn)).trans hcn; clear hcA hcn; have hcA := n1_; have hcn := n2_; clear n1_ n2_ hb hbox hgB))
  go_loopg [12] now.length (fun kq v12 w' => ∃ (x : Int) (i : Nat), v12 = .int .i64 x ∧ Aside0 (x = (i : Int)) ∧ Aside0 (i + kq = now.length) ∧ Aside0 (fitB L now b0 b1 b2 b3 kq i = fitB L now b0 b1 b2 b3 now.length 0) ∧ Aside0 (Below W.heap.size W w') ∧ Aside0 (w'.heap[gB]? = some (.cells #[.int .i64 b0, .int .i64 b1, .int .i64 b2, .int .i64 b3] 42 (0, 0))))
  case atStart => exact ⟨0, 0, rfl, ⟨rfl⟩, ⟨Nat.zero_add _⟩, ⟨rfl⟩, HB, BB⟩
  case round =>
    clear HB BB hcA hcn
    obtain ⟨x, i, rfl, HX, HI, HF, HB, BB⟩ := hrel
    replace HSe := Aside0.mk (Se_below HSe.out HB.out)
    replace HN := Aside0.mk (Kd.C_below HN.out HB.out)
    obtain ⟨_, _, _, hgr, _⟩ := HSe.out
    have hcA : wr.cell? ⟨g, 0, none⟩ = some (.slice A L.length c) := (blk_cell hgr 0).trans rfl
    clear hgr
    cases gk with
    | zero =>
      have hi : decide (x < (now.length : Int)) = false := decide_eq_false (by have := HI.out; have := HX.out; omega)
      go_wp2
      go_ret
      exact ⟨by have hF := HF.out; rw [fitB] at hF; rw [← hF]; rfl, HB.out⟩
    | succ m =>
      have hi : decide (x < (now.length : Int)) = true := decide_eq_true (by have := HI.out; have := HX.out; omega)
      have hlt : i < now.length := by have := HI.out; omega
      have p1 : 0 ≤ x := by have := HX.out; omega
      have q1 : x < (now.length : Int) := by have := HX.out; omega
      obtain ⟨an, en, hxn⟩ := Kd.at_int HN.out x p1 q1
      cases en
      have hkk : Aside0 (rd now x < ((rd_T36 L x).f1.length : Int)) := ⟨by rw [HX.out]; exact HK.out i hlt⟩
      have Hlt := Aside0.mk hlt
      replace p1 := eq_true p1
      replace q1 := eq_true q1
      by_cases ck : 0 ≤ rd now x
      rotate_left
      · have cb : decide (0 ≤ rd now x) = false := decide_eq_false ck
        have HCK := Aside0.mk ck
        clear ck hlt
        go_upto_region 4 with (fail)
        refine start_ (n := 17) (S := fun w' => True) (ds := []) (bA 17 0) (by kernel_rfl) rfl rfl trivial (fun hHeld => ?_)
        have HSe2 := Aside0.mk (Se_below HSe.out (below_drew (Below.refl _ _)))
        have HB2 := Aside0.mk (below_drew HB.out)
        have BB2 := Aside0.mk (blk_drew BB.out)
        clear HSe HB BB hcA
        generalize wr.drew = wr1 at HSe2 HB2 BB2 hHeld ⊢
        refine pure_ (i := 0) (N := some 17) (v := ?_) (a' := ?_) (bA 17 1) rfl rfl (by kernel_rfl) (fun _ _ _ h => h) (Or.inl ⟨by rfl, ?_⟩) ?_ ?_
        rotate_left
        · intro w'
          go_simp
          with_reducible rfl
        rotate_left
        · simp only [Act.put, List.setIfInBounds_toArray, List.set_cons_zero, List.set_cons_succ, i64_w, i32_w]
          rfl
        refine pure_ (i := 1) (N := some 18) (v := ?_) (a' := ?_) (bA 17 3) rfl rfl (by kernel_rfl) (fun _ _ _ h => h) (Or.inl ⟨by rfl, ?_⟩) ?_ ?_
        rotate_left
        · intro w'
          go_simp
          with_reducible rfl
        rotate_left
        · simp only [Act.put, List.setIfInBounds_toArray, List.set_cons_zero, List.set_cons_succ, i64_w, i32_w]
          rfl
        refine pure_ (i := 2) (N := some 19) (v := ?_) (a' := ?_) (bA 17 7) rfl rfl (by kernel_rfl) (fun _ _ _ h => h) (Or.inl ⟨by rfl, ?_⟩) ?_ ?_
        rotate_left
        · intro w'
          go_simp
          with_reducible rfl
        rotate_left
        · simp only [Act.put, List.setIfInBounds_toArray, List.set_cons_zero, List.set_cons_succ, i64_w, i32_w]
          rfl
        refine pure_ (i := 3) (N := some 20) (v := undef) (a' := ?_) (bA 17 15) rfl rfl (by kernel_rfl) (fun _ _ _ h => h) (Or.inr ⟨by rfl, rfl⟩) ?_ ?_
        rotate_left
        · simp only [Act.put, List.setIfInBounds_toArray, List.set_cons_zero, List.set_cons_succ, i64_w, i32_w]
          rfl
        refine pure_ (i := 4) (N := some 21) (v := undef) (a' := ?_) (bA 17 31) rfl rfl (by kernel_rfl) (fun _ _ _ h => h) (Or.inr ⟨by rfl, rfl⟩) ?_ ?_
        rotate_left
        · simp only [Act.put, List.setIfInBounds_toArray, List.set_cons_zero, List.set_cons_succ, i64_w, i32_w]
          rfl
        refine pure_ (i := 5) (N := some 22) (v := undef) (a' := ?_) (bA 17 63) rfl rfl (by kernel_rfl) (fun _ _ _ h => h) (Or.inr ⟨by rfl, rfl⟩) ?_ ?_
        rotate_left
        · simp only [Act.put, List.setIfInBounds_toArray, List.set_cons_zero, List.set_cons_succ, i64_w, i32_w]
          rfl
        refine pure_ (i := 6) (N := some 23) (v := undef) (a' := ?_) (bA 17 127) rfl rfl (by kernel_rfl) (fun _ _ _ h => h) (Or.inr ⟨by rfl, rfl⟩) ?_ ?_
        rotate_left
        · simp only [Act.put, List.setIfInBounds_toArray, List.set_cons_zero, List.set_cons_succ, i64_w, i32_w]
          rfl
        refine pure_ (i := 7) (N := some 24) (v := undef) (a' := ?_) (bA 17 255) rfl rfl (by kernel_rfl) (fun _ _ _ h => h) (Or.inr ⟨by rfl, rfl⟩) ?_ ?_
        rotate_left
        · simp only [Act.put, List.setIfInBounds_toArray, List.set_cons_zero, List.set_cons_succ, i64_w, i32_w]
          rfl
        refine pure_ (i := 8) (N := some 25) (v := undef) (a' := ?_) (bA 17 511) rfl rfl (by kernel_rfl) (fun _ _ _ h => h) (Or.inr ⟨by rfl, rfl⟩) ?_ ?_
        rotate_left
        · simp only [Act.put, List.setIfInBounds_toArray, List.set_cons_zero, List.set_cons_succ, i64_w, i32_w]
          rfl
        refine pure_ (i := 9) (N := some 26) (v := undef) (a' := ?_) (bA 17 1023) rfl rfl (by kernel_rfl) (fun _ _ _ h => h) (Or.inr ⟨by rfl, rfl⟩) ?_ ?_
        rotate_left
        · simp only [Act.put, List.setIfInBounds_toArray, List.set_cons_zero, List.set_cons_succ, i64_w, i32_w]
          rfl
        refine pure_ (i := 10) (N := some 27) (v := undef) (a' := ?_) (bA 17 2047) rfl rfl (by kernel_rfl) (fun _ _ _ h => h) (Or.inr ⟨by rfl, rfl⟩) ?_ ?_
        rotate_left
        · simp only [Act.put, List.setIfInBounds_toArray, List.set_cons_zero, List.set_cons_succ, i64_w, i32_w]
          rfl
        refine pure_ (i := 11) (N := some 28) (v := undef) (a' := ?_) (bA 17 4095) rfl rfl (by kernel_rfl) (fun _ _ _ h => h) (Or.inr ⟨by rfl, rfl⟩) ?_ ?_
        rotate_left
        · simp only [Act.put, List.setIfInBounds_toArray, List.set_cons_zero, List.set_cons_succ, i64_w, i32_w]
          rfl
        refine pure_ (i := 12) (N := some 29) (v := undef) (a' := ?_) (bA 17 8191) rfl rfl (by kernel_rfl) (fun _ _ _ h => h) (Or.inr ⟨by rfl, rfl⟩) ?_ ?_
        rotate_left
        · simp only [Act.put, List.setIfInBounds_toArray, List.set_cons_zero, List.set_cons_succ, i64_w, i32_w]
          rfl
        refine pure_ (i := 13) (N := some 30) (v := undef) (a' := ?_) (bA 17 16383) rfl rfl (by kernel_rfl) (fun _ _ _ h => h) (Or.inr ⟨by rfl, rfl⟩) ?_ ?_
        rotate_left
        · simp only [Act.put, List.setIfInBounds_toArray, List.set_cons_zero, List.set_cons_succ, i64_w, i32_w]
          rfl
        refine pure_ (i := 14) (N := some 31) (v := undef) (a' := ?_) (bA 17 32767) rfl rfl (by kernel_rfl) (fun _ _ _ h => h) (Or.inr ⟨by rfl, rfl⟩) ?_ ?_
        rotate_left
        · simp only [Act.put, List.setIfInBounds_toArray, List.set_cons_zero, List.set_cons_succ, i64_w, i32_w]
          rfl
        refine pure_ (i := 15) (N := some 32) (v := undef) (a' := ?_) (bA 17 65535) rfl rfl (by kernel_rfl) (fun _ _ _ h => h) (Or.inr ⟨by rfl, rfl⟩) ?_ ?_
        rotate_left
        · simp only [Act.put, List.setIfInBounds_toArray, List.set_cons_zero, List.set_cons_succ, i64_w, i32_w]
          rfl
        refine pure_ (i := 16) (N := some 33) (v := ?_) (a' := ?_) (bA 17 131071) rfl rfl (by kernel_rfl) (fun _ _ _ h => h) (Or.inl ⟨by rfl, ?_⟩) ?_ ?_
        rotate_left
        · intro w'
          go_simp
          with_reducible rfl
        rotate_left
        · simp only [Act.put, List.setIfInBounds_toArray, List.set_cons_zero, List.set_cons_succ, i64_w, i32_w]
          rfl
        refine done_ (by kernel_rfl) ?_
        have w1 : wrap64 (x + 1) = x + 1 := by have h1 := HX.out; have h2 := HI.out; have h3 := Hm.out; rw [wrap64_eq] <;> omega
        go_wp2
        go_roundg m
        case rel => exact ⟨x + 1, i + 1, by first | rfl | rw [w1], ⟨by have := HX.out; omega⟩, ⟨by have := HI.out; omega⟩, ⟨by rw [← HF.out, fitB, if_neg (fun hh => by have h1 := HCK.out; have h2 := hh.1; rw [← HX.out] at h2; omega)]⟩, HB2, BB2⟩
        case measure => omega
      have cb : decide (0 ≤ rd now x) = true := decide_eq_true ck
      have HCK := Aside0.mk ck
      clear ck hlt
      have p2 : 0 ≤ x := by have := HX.out; omega
      have q2 : x < (L.length : Int) := by have h1 := Hlt.out; have h2 := Hn.out; have := HX.out; omega
      have HLr := Aside0.mk (Kd.C_below HL.out (Se_B HSe.out))
      obtain ⟨ad, A4, c4, A6, c6, ea, hx0, hx1, hx2, hx3, hx4, hx5, hx6, hx7, l4, g4, l6, g6⟩ := at_T36 HLr.out x p2 q2
      cases ea
      obtain ⟨ae, ee, hy0, hy1, hy2, hy3⟩ := at_T42 g6 (rd now x) HCK.out hkk.out
      cases ee
      have p3 := HCK.out
      have q3 := hkk.out
      have hb0 : wr.cell? ⟨gB, 0, none⟩ = some (.int .i64 b0) := (blk_cell BB.out 0).trans rfl
      have hb1 : wr.cell? ⟨gB, 1, none⟩ = some (.int .i64 b1) := (blk_cell BB.out 1).trans rfl
      have hb2 : wr.cell? ⟨gB, 2, none⟩ = some (.int .i64 b2) := (blk_cell BB.out 2).trans rfl
      have hb3 : wr.cell? ⟨gB, 3, none⟩ = some (.int .i64 b3) := (blk_cell BB.out 3).trans rfl
      clear hx0 hx1 hx2 hx3 hx4 hx5 hx7 l4 g4 l6 g6
      replace p2 := eq_true p2
      replace q2 := eq_true q2
      replace p3 := eq_true p3
      replace q3 := eq_true q3
      obtain ⟨qh, hqh⟩ : ∃ qh, qh = hitB L x (rd now x) b0 b1 b2 b3 := ⟨_, rfl⟩
      have HQ := Aside0.mk hqh
      clear hqh
      go_upto_region 4 with (fail)
      refine start_ (n := 17) (S := fun w' => w'.cell? ⟨g, 0, none⟩ = some (.slice (some ad) L.length c) ∧ w'.cell? ⟨(ad.add (x.toNat * 8)).block, (ad.add (x.toNat * 8)).off + 6, none⟩ = some (.slice (some ae) (rd_T36 L x).f1.length c6) ∧ w'.cell? (ae.add ((rd now x).toNat * 4)) = some (.int .i64 (rd_T42 (rd_T36 L x).f1 (rd now x)).f0.f0) ∧ w'.cell? ⟨(ae.add ((rd now x).toNat * 4)).block, (ae.add ((rd now x).toNat * 4)).off + 1, none⟩ = some (.int .i64 (rd_T42 (rd_T36 L x).f1 (rd now x)).f0.f1) ∧ w'.cell? ⟨(ae.add ((rd now x).toNat * 4)).block, (ae.add ((rd now x).toNat * 4)).off + 2, none⟩ = some (.int .i64 (rd_T42 (rd_T36 L x).f1 (rd now x)).f1.f0) ∧ w'.cell? ⟨(ae.add ((rd now x).toNat * 4)).block, (ae.add ((rd now x).toNat * 4)).off + 3, none⟩ = some (.int .i64 (rd_T42 (rd_T36 L x).f1 (rd now x)).f1.f1) ∧ w'.cell? ⟨gB, 0, none⟩ = some (.int .i64 b0) ∧ w'.cell? ⟨gB, 1, none⟩ = some (.int .i64 b1) ∧ w'.cell? ⟨gB, 2, none⟩ = some (.int .i64 b2) ∧ w'.cell? ⟨gB, 3, none⟩ = some (.int .i64 b3)) (ds := [15]) (bA 17 0) (by kernel_rfl) rfl rfl ⟨hcA, hx6, hy0, hy1, hy2, hy3, hb0, hb1, hb2, hb3⟩ (fun hHeld => ?_)
      have HSe2 := Aside0.mk (Se_below HSe.out (below_drew (Below.refl _ _)))
      have HB2 := Aside0.mk (below_drew HB.out)
      have BB2 := Aside0.mk (blk_drew BB.out)
      clear HSe HB BB hcA hx6 hy0 hy1 hy2 hy3 hb0 hb1 hb2 hb3
      generalize wr.drew = wr1 at HSe2 HB2 BB2 hHeld ⊢
      refine pure_ (i := 0) (N := some 17) (v := ?_) (a' := ?_) (bA 17 1) rfl rfl (by kernel_rfl) (fun _ _ _ h => h) (Or.inl ⟨by rfl, ?_⟩) ?_ ?_
      rotate_left
      · intro w'
        go_simp
        with_reducible rfl
      rotate_left
      · simp only [Act.put, List.setIfInBounds_toArray, List.set_cons_zero, List.set_cons_succ, i64_w, i32_w]
        rfl
      refine pure_ (i := 1) (N := some 18) (v := ?_) (a' := ?_) (bA 17 3) rfl rfl (by kernel_rfl) (fun _ _ _ h => h) (Or.inl ⟨by rfl, ?_⟩) ?_ ?_
      rotate_left
      · intro w'
        go_simp
        with_reducible rfl
      rotate_left
      · simp only [Act.put, List.setIfInBounds_toArray, List.set_cons_zero, List.set_cons_succ, i64_w, i32_w]
        rfl
      refine pure_ (i := 2) (N := some 19) (v := ?_) (a' := ?_) (bA 17 7) rfl rfl (by kernel_rfl) (fun _ _ _ h => h) (Or.inl ⟨by rfl, ?_⟩) ?_ ?_
      rotate_left
      · intro w'
        go_simp
        with_reducible rfl
      rotate_left
      · simp only [Act.put, List.setIfInBounds_toArray, List.set_cons_zero, List.set_cons_succ, i64_w, i32_w]
        rfl
      refine pure_ (i := 3) (N := some 20) (v := ?_) (a' := ?_) (bA 17 15) rfl rfl (by kernel_rfl) (fun _ _ _ h => h) (Or.inl ⟨by rfl, ?_⟩) ?_ ?_
      rotate_left
      · intro w'
        go_simp
        with_reducible rfl
      rotate_left
      · simp only [Act.put, List.setIfInBounds_toArray, List.set_cons_zero, List.set_cons_succ, i64_w, i32_w]
        rfl
      refine pure_ (i := 7) (N := some 24) (v := ?_) (a' := ?_) (bA 17 143) rfl rfl (by kernel_rfl) (fun _ _ _ h => h) (Or.inl ⟨by rfl, ?_⟩) ?_ ?_
      rotate_left
      · intro w'
        go_simp
        with_reducible rfl
      rotate_left
      · simp only [Act.put, List.setIfInBounds_toArray, List.set_cons_zero, List.set_cons_succ, i64_w, i32_w]
        rfl
      refine pure_ (i := 11) (N := some 28) (v := ?_) (a' := ?_) (bA 17 2191) rfl rfl (by kernel_rfl) (fun _ _ _ h => h) (Or.inl ⟨by rfl, ?_⟩) ?_ ?_
      rotate_left
      · intro w'
        go_simp
        with_reducible rfl
      rotate_left
      · simp only [Act.put, List.setIfInBounds_toArray, List.set_cons_zero, List.set_cons_succ, i64_w, i32_w]
        rfl
      refine pure_ (i := 4) (N := some 21) (v := ?_) (a' := ?_) (bA 17 2207) rfl rfl (by kernel_rfl) (fun _ _ _ h => h) (Or.inl ⟨by rfl, ?_⟩) ?_ ?_
      rotate_left
      · intro w'
        go_simp
        with_reducible rfl
      rotate_left
      · simp only [Act.put, List.setIfInBounds_toArray, List.set_cons_zero, List.set_cons_succ, i64_w, i32_w]
        rfl
      refine pure_ (i := 5) (N := some 22) (v := ?_) (a' := ?_) (bA 17 2239) rfl rfl (by kernel_rfl) (fun _ _ _ h => h) (Or.inl ⟨by rfl, ?_⟩) ?_ ?_
      rotate_left
      · intro w'
        go_simp
        with_reducible rfl
      rotate_left
      · simp only [Act.put, List.setIfInBounds_toArray, List.set_cons_zero, List.set_cons_succ, i64_w, i32_w]
        rfl
      refine take_ (i := 14) (N := some 31) (v := ?_) (a' := ?_) (bA 17 18623) rfl rfl (by kernel_rfl) (fun _ _ _ h => h) (Or.inl ⟨by rfl, ?_⟩) hHeld ?_ ?_
      rotate_left
      · rintro w' ⟨s0, s1, s2, s3, s4, s5, s6, s7, s8, s9⟩
        go_simp
        with_reducible rfl
      rotate_left
      · simp only [Act.put, List.setIfInBounds_toArray, List.set_cons_zero, List.set_cons_succ, i64_w, i32_w]
        rfl
      refine take_ (i := 6) (N := some 23) (v := ?_) (a' := ?_) (bA 17 18687) rfl rfl (by kernel_rfl) (fun _ _ _ h => h) (Or.inl ⟨by rfl, ?_⟩) hHeld ?_ ?_
      rotate_left
      · rintro w' ⟨s0, s1, s2, s3, s4, s5, s6, s7, s8, s9⟩
        go_simp
        with_reducible rfl
      rotate_left
      · simp only [Act.put, List.setIfInBounds_toArray, List.set_cons_zero, List.set_cons_succ, i64_w, i32_w]
        rfl
      refine pure_ (i := 8) (N := some 25) (v := ?_) (a' := ?_) (bA 17 18943) rfl rfl (by kernel_rfl) (fun _ _ _ h => h) (Or.inl ⟨by rfl, ?_⟩) ?_ ?_
      rotate_left
      · intro w'
        go_simp
        with_reducible rfl
      rotate_left
      · simp only [Act.put, List.setIfInBounds_toArray, List.set_cons_zero, List.set_cons_succ, i64_w, i32_w]
        rfl
      refine pure_ (i := 9) (N := some 26) (v := ?_) (a' := ?_) (bA 17 19455) rfl rfl (by kernel_rfl) (fun _ _ _ h => h) (Or.inl ⟨by rfl, ?_⟩) ?_ ?_
      rotate_left
      · intro w'
        go_simp
        with_reducible rfl
      rotate_left
      · simp only [Act.put, List.setIfInBounds_toArray, List.set_cons_zero, List.set_cons_succ, i64_w, i32_w]
        rfl
      refine take_ (i := 10) (N := some 27) (v := ?_) (a' := ?_) (bA 17 20479) rfl rfl (by kernel_rfl) (fun _ _ _ h => h) (Or.inl ⟨by rfl, ?_⟩) hHeld ?_ ?_
      rotate_left
      · rintro w' ⟨s0, s1, s2, s3, s4, s5, s6, s7, s8, s9⟩
        go_simp
        with_reducible rfl
      rotate_left
      · simp only [Act.put, List.setIfInBounds_toArray, List.set_cons_zero, List.set_cons_succ, i64_w, i32_w]
        rfl
      refine pure_ (i := 12) (N := some 29) (v := ?_) (a' := ?_) (bA 17 24575) rfl rfl (by kernel_rfl) (fun _ _ _ h => h) (Or.inl ⟨by rfl, ?_⟩) ?_ ?_
      rotate_left
      · intro w'
        go_simp
        with_reducible rfl
      rotate_left
      · simp only [Act.put, List.setIfInBounds_toArray, List.set_cons_zero, List.set_cons_succ, i64_w, i32_w]
        rfl
      refine take_ (i := 13) (N := some 30) (v := ?_) (a' := ?_) (bA 17 32767) rfl rfl (by kernel_rfl) (fun _ _ _ h => h) (Or.inl ⟨by rfl, ?_⟩) hHeld ?_ ?_
      rotate_left
      · rintro w' ⟨s0, s1, s2, s3, s4, s5, s6, s7, s8, s9⟩
        go_simp
        with_reducible rfl
      rotate_left
      · simp only [Act.put, List.setIfInBounds_toArray, List.set_cons_zero, List.set_cons_succ, i64_w, i32_w]
        rfl
      refine last_ (i := 15) (N := some 32) (bA 17 65535) rfl rfl (by kernel_rfl) (by decide) (fun K hK => ?_)
      refine goes_ Try.func61 (by kernel_rfl) rfl #[.agg #[.int .i64 (rd_T42 (rd_T36 L x).f1 (rd now x)).f0.f0, .int .i64 (rd_T42 (rd_T36 L x).f1 (rd now x)).f0.f1, .int .i64 (rd_T42 (rd_T36 L x).f1 (rd now x)).f1.f0, .int .i64 (rd_T42 (rd_T36 L x).f1 (rd now x)).f1.f1], .agg #[.int .i64 b0, .int .i64 b1, .int .i64 b2, .int .i64 b3]] (by rfl) rfl rfl (by (try simp only [List.map_toArray, List.map_cons, List.map_nil]); first | done | rfl) ?_
      refine (box_Meet.calls _ _ _ _ _ _ _ _ qh _ (by rw [HQ.out]; exact meet_eq _ _ _ _ _ _ _ _)).mono ?_
      rintro e wr2 ⟨rfl, hb⟩
      refine ⟨_, rfl, ?_⟩
      have HSe3 := Aside0.mk (Se_below HSe2.out hb)
      have HB3 := Aside0.mk (below_step HB2.out hb)
      have BB3 := Aside0.mk (blk_below BB2.out hb)
      clear HSe2 HB2 BB2 hb hHeld
      refine hK.out _ _ ?_
      clear hK K
      refine norm_ (a' := ?_) ?_ ?_
      rotate_left
      · show Act.put _ (some 32) _ = _
        simp only [Act.put, List.setIfInBounds_toArray, List.set_cons_zero, List.set_cons_succ, i64_w, i32_w]
        rfl
      refine pure_ (i := 16) (N := some 33) (v := ?_) (a' := ?_) (bA 17 131071) rfl rfl (by kernel_rfl) (fun _ _ _ h => h) (Or.inl ⟨by rfl, ?_⟩) ?_ ?_
      rotate_left
      · intro w'
        go_simp
        with_reducible rfl
      rotate_left
      · simp only [Act.put, List.setIfInBounds_toArray, List.set_cons_zero, List.set_cons_succ, i64_w, i32_w]
        rfl
      refine done_ (by kernel_rfl) ?_
      have w1 : wrap64 (x + 1) = x + 1 := by have h1 := HX.out; have h2 := HI.out; have h3 := Hm.out; rw [wrap64_eq] <;> omega
      cases qh with
      | true =>
        go_wp2
        go_ret
        refine ⟨?_, HB3.out⟩
        rw [← HF.out, fitB, if_pos ⟨by rw [← HX.out]; exact HCK.out, by rw [← HX.out]; exact HQ.out.symm⟩]
        rfl
      | false =>
        go_wp2
        go_roundg m
        case rel => exact ⟨x + 1, i + 1, by first | rfl | rw [w1], ⟨by have := HX.out; omega⟩, ⟨by have := HI.out; omega⟩, ⟨by rw [← HF.out, fitB, if_neg (fun hh => by have h2 := hh.2; rw [← HX.out, ← HQ.out] at h2; cases h2)]⟩, HB3, BB3⟩
        case measure => omega
end Go.Proofs.Ytdmhnjpblpfbfaa.Q
