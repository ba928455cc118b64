/- (*delta.reader).num reads a number off the row that the reader holds. Conditions: stated at the contract. -/
import Derived.Test.YtjgoehhhjffpmaaZrQf18
namespace Go.Proofs.Ytjgoehhhjffpmaa.Q
open Go.RowKit Go.Proofs.YtjgoehhhjffpmaaW.PrintWords Go.Proofs.YtjgoehhhjffpmaaW.PrintLast Go.Proofs.YtjgoehhhjffpmaaW.PrintMore
attribute [local go_sem] max2_int min2_int max_two min_two max_three min_three max_four min_four
set_option linter.unusedVariables false
set_option linter.unusedSimpArgs false
theorem wrap64_eq (n : Int) (h0 : -9223372036854775808 ≤ n) (h1 : n ≤ 9223372036854775807) : wrap64 n = n := by unfold wrap64; omega
/-- How many bytes from j on go on (at most f). -/
def stop (b : List Int) : Nat → Nat → Nat
  | 0, j => j
  | f + 1, j => if (j : Int) < (b.length : Int) ∧ (j : Int) < 9 ∧ rd b (j : Int) > 127 then stop b f (j + 1) else j
theorem stop_le (b : List Int) : ∀ f j, j ≤ 9 → stop b f j ≤ 9 := by
  intro f
  induction f with
  | zero => intro j h; exact h
  | succ f ih =>
    intro j h
    rw [stop]
    by_cases c : (j : Int) < (b.length : Int) ∧ (j : Int) < 9 ∧ rd b (j : Int) > 127
    · rw [if_pos c]; exact ih (j + 1) (by omega)
    · rw [if_neg c]; exact h
/-- What num comes to: the number, the row that is left, the fault. -/
def delta_num.f (k : Nat) (b : List Int) (e : Int) : Option (Int × List Int × Int) := if e = 0 then ((delta_Take.f k (b.take (min (stop b 10 0 + 1) b.length))).bind fun t => if t.2.2 = 0 then (if stop b 10 0 + 1 ≤ b.length then some (t.1, b.drop (stop b 10 0 + 1), 0) else none) else some (t.1, b, t.2.2)) else some (0, b, e)
/-- A reader in block g: what it has left is a row of the world w, which stays. -/
def Rd (w W : World) (g : Nat) (b : List Int) (e : Int) : Prop :=
  ∃ A c, W.heap[g]? = some (.cells #[.slice A b.length c, .int .i64 e] 69 (0, 0)) ∧ Kd.C (Kd.int .u8) w A b.length b ∧ b.length ≤ c ∧ w.heap.size ≤ g ∧ Below w.heap.size w W
set_option maxHeartbeats 4000000 in
theorem num_stays {w W : World} {g : Nat} {b : List Int} {e : Int} (h : Rd w W g b e) (he : e ≠ 0) :
    Calls Try.prog 42 #[.pointer (some ⟨g, 0, none⟩)] W fun r W' => r = .returned (.int .i64 0) ∧ Rd w W' g b e ∧ W.heap.size ≤ W'.heap.size ∧ (∀ j, j < W.heap.size → j ≠ g → W'.heap[j]? = W.heap[j]?) := by
  have HRd := Aside0.mk h
  obtain ⟨A, c, hb, hC, hcc, hg, hB⟩ := h
  have hc1 : W.cell? ⟨g, 1, none⟩ = some (.int .i64 e) := (blk_cell hb 1).trans rfl
  have e1 : (e == 0) = false := beq_eq_false_iff_ne.mpr he
  have e2 : (e != 0) = true := bne_iff_ne.mpr he
  clear hb hC hcc hg hB
  go_enter Try.func42, Try.ntmps42
  go_wp2
  go_ret
  exact ⟨rfl, HRd.out, Nat.le_refl _, fun _ _ _ => rfl⟩
set_option maxHeartbeats 8000000 in
theorem num_reads {w W : World} {g : Nat} {b : List Int} {k : Nat} {n : Int} {rest : List Int} {e' : Int} (h : Rd w W g b 0) (hT : delta_Take.f k (b.take (min (stop b 10 0 + 1) b.length)) = some (n, rest, e')) (hlen : b.length < 9000000000000000000) (h0 : e' = 0 → stop b 10 0 + 1 ≤ b.length) :
    Calls Try.prog 42 #[.pointer (some ⟨g, 0, none⟩)] W fun r W' => r = .returned (.int .i64 n) ∧ Rd w W' g (if e' = 0 then b.drop (stop b 10 0 + 1) else b) e' ∧ W.heap.size ≤ W'.heap.size ∧ (∀ j, j < W.heap.size → j ≠ g → W'.heap[j]? = W.heap[j]?) := by
  obtain ⟨A, c, hb, hC, hcc, hg, hB⟩ := h
  have hc0 : W.cell? ⟨g, 0, none⟩ = some (.slice A b.length c) := (blk_cell hb 0).trans rfl
  have hc1 : W.cell? ⟨g, 1, none⟩ = some (.int .i64 0) := (blk_cell hb 1).trans rfl
  have hf0 := blk_frozen hb 0
  have hf1 := blk_frozen hb 1
  have HBK := Aside0.mk hb
  have HB := Aside0.mk hB
  have HC := Aside0.mk hC
  have HT := Aside0.mk hT
  have HCW := Aside0.mk (Kd.C_below hC hB)
  have HL := Aside0.mk hlen
  have H0 := Aside0.mk h0
  clear hb hB hC hT hlen h0
  go_enter Try.func42, Try.ntmps42
  go_wp2
  go_loopg [3] 10 (fun kq v3 w' => ∃ (x : Int) (j : Nat), v3 = .int .i64 x ∧ Aside0 (x = (j : Int)) ∧ Aside0 (j + kq = 10) ∧ Aside0 (stop b kq j = stop b 10 0) ∧ Aside0 (w' = W))
  case atStart => exact ⟨0, 0, rfl, ⟨rfl⟩, ⟨rfl⟩, ⟨rfl⟩, ⟨rfl⟩⟩
  case round =>
    obtain ⟨x, j, rfl, HX, HJ, HS, HW⟩ := hrel
    obtain rfl := HW.out
    clear HW
    have hx0 : 0 ≤ x := by have := HX.out; omega
    have HX0 := Aside0.mk hx0
    clear hx0
    go_upto_region 4 with (fail)
    go_cut [32] (fun v32 wc => v32 = .bool (decide (x < (b.length : Int) ∧ x < 9 ∧ rd b x > 127)) ∧ Aside0 (wc = wr))
    case first =>
      by_cases d1 : x < (b.length : Int)
      · have d1b : decide (x < (b.length : Int)) = true := decide_eq_true d1
        by_cases d2 : x < 9
        · have d2b : decide (x < 9) = true := decide_eq_true d2
          have p1 := HX0.out
          obtain ⟨ad, ea, hx⟩ := Kd.at_int HCW.out x p1 d1
          cases ea
          replace p1 := eq_true p1
          have d1t := eq_true d1
          go_wp2
          go_meet
          case rel => exact ⟨congrArg Value.bool (decide_eq_decide.mpr ⟨fun h => ⟨d1, d2, h⟩, fun h => h.2.2⟩), ⟨rfl⟩⟩
        · have d2b : decide (x < 9) = false := decide_eq_false d2
          go_wp2
          go_meet
          case rel => exact ⟨congrArg Value.bool (decide_eq_false (fun h => absurd h.2.1 (by omega))).symm, ⟨rfl⟩⟩
      · have d1b : decide (x < (b.length : Int)) = false := decide_eq_false d1
        go_wp2
        go_meet
        case rel => exact ⟨congrArg Value.bool (decide_eq_false (fun h => absurd h.1 (by omega))).symm, ⟨rfl⟩⟩
    case rest =>
      obtain ⟨rfl, HW⟩ := hcut
      obtain rfl := HW.out
      clear HW
      have xj := HX.out
      have kj := HJ.out
      by_cases cnd : (x < (b.length : Int) ∧ x < 9 ∧ rd b x > 127)
      · rw [decide_eq_true cnd]
        have j1 : wrap64 (x + 1) = x + 1 := by have h1 := cnd.2.1; have h0 := HX0.out; clear xj kj cnd; exact wrap64_eq _ (by omega) (by omega)
        have hs : ∃ gk', gk = gk' + 1 ∧ stop b gk' (j + 1) = stop b 10 0 := by
          cases gk with
          | zero => have := cnd.2.1; omega
          | succ gk' => refine ⟨gk', rfl, ?_⟩; rw [← HS.out, stop, if_pos (by rw [← xj]; exact cnd)]
        have HS2 := Aside0.mk hs
        have HC2 := Aside0.mk cnd
        clear hs cnd
        clear xj kj
        go_wp2
        have qx := HX.out
        obtain ⟨gk', rfl, q2⟩ := HS2.out
        go_roundg gk'
        case rel => exact ⟨x + 1, j + 1, by rw [j1], ⟨by omega⟩, ⟨by have := HJ.out; omega⟩, ⟨q2⟩, ⟨rfl⟩⟩
        case measure => omega
      · rw [decide_eq_false cnd]
        have hs : stop b 10 0 = j := by
          rw [← HS.out]
          cases gk with
          | zero => rfl
          | succ gk' => rw [stop, if_neg (by rw [← xj]; exact cnd)]
        have hj9 : j ≤ 9 := hs ▸ stop_le b 10 0 (by omega)
        obtain ⟨y, hy⟩ : ∃ y : Int, y = x + 1 := ⟨_, rfl⟩
        obtain ⟨z, hz⟩ : ∃ z : Int, z = if (b.length : Int) < y then (b.length : Int) else y := ⟨_, rfl⟩
        have j1 : wrap64 (x + 1) = y := by rw [hy]; clear hz; exact wrap64_eq _ (by omega) (by omega)
        have j2 : (if (b.length : Int) < y then (b.length : Int) else y) = z := hz.symm
        have hzn : z.toNat = min (stop b 10 0 + 1) b.length := by rw [hs]; omega
        have hz0 : 0 ≤ z := by omega
        have hz1 : z ≤ (b.length : Int) := by omega
        have hyn : y.toNat = stop b 10 0 + 1 := by rw [hs]; omega
        have hy0 : 0 ≤ y := by omega
        have HYN := Aside0.mk hyn
        have HY0 := Aside0.mk hy0
        have HT2 : Aside0 (delta_Take.f k (b.take z.toNat) = some (n, rest, e')) := ⟨by rw [hzn]; exact HT.out⟩
        obtain ⟨i0, hi0, _, hsz0, _⟩ := info_parts info5
        obtain ⟨hcut, hA1, hCc⟩ := print_take_of (P := Try.prog) (Value.int .u8) 0 22 5 .i64 Try.underlying22 hi0 hsz0 A c b z hz0 hz1 hcc
        have hCt := Aside0.mk (Kd.C_of_reads (h1 := fun _ => rfl) (hA1 _ (Kd.reads_of_C HC.out)))
        have HCc := Aside0.mk hCc
        clear hA1 hi0 hsz0 xj kj hs hj9 hy hz hzn hz0 hz1 hyn hy0 hCc HT cnd HX HJ HS HX0
        go_wp2_with (fail)
        refine start_ (n := 21) (S := fun w' => w'.cell? ⟨g, 0, none⟩ = some (.slice A b.length c)) (ds := []) #[false, false, false, false, false, false, false, false, false, false, false, false, false, false, false, false, false, false, false, false, false] (by kernel_rfl) rfl rfl hc0 (fun hHeld => ?_)
        have HB1 := Aside0.mk (below_drew HB.out)
        have HBK1 : Aside0 (wc.drew.heap[g]? = some (.cells #[.slice A b.length c, .int .i64 0] 69 (0, 0))) := ⟨HBK.out⟩
        have hsz1 : wc.drew.heap.size = wc.heap.size := rfl
        have hsame1 : Aside0 (∀ j, j < wc.heap.size → wc.drew.heap[j]? = wc.heap[j]?) := ⟨fun _ _ => rfl⟩
        clear hc0 hc1 hf0 hf1
        generalize wc.drew = w1 at HB1 HBK1 hHeld hsz1 hsame1 ⊢
        refine pure_ (i := 0) (N := some 36) (v := ?_) (a' := ?_) #[true, false, false, false, false, false, false, false, false, false, false, false, false, false, false, false, false, false, false, false, false] rfl rfl (by kernel_rfl) (fun _ _ _ h => h) (Or.inl ⟨by rfl, ?_⟩) ?_ ?_
        rotate_left
        · intro w'
          go_simp
          with_reducible rfl
        rotate_left
        · simp only [Act.put, List.setIfInBounds_toArray, List.set_cons_zero, List.set_cons_succ, i64_w, i32_w]
          rfl
        refine pure_ (i := 4) (N := some 40) (v := ?_) (a' := ?_) #[true, false, false, false, true, false, false, false, false, false, false, false, false, false, false, false, false, false, false, false, false] rfl rfl (by kernel_rfl) (fun _ _ _ h => h) (Or.inl ⟨by rfl, ?_⟩) ?_ ?_
        rotate_left
        · intro w'
          go_simp
          with_reducible rfl
        rotate_left
        · simp only [Act.put, List.setIfInBounds_toArray, List.set_cons_zero, List.set_cons_succ, i64_w, i32_w]
          rfl
        refine pure_ (i := 6) (N := some 42) (v := ?_) (a' := ?_) #[true, false, false, false, true, false, true, false, false, false, false, false, false, false, false, false, false, false, false, false, false] rfl rfl (by kernel_rfl) (fun _ _ _ h => h) (Or.inl ⟨by rfl, ?_⟩) ?_ ?_
        rotate_left
        · intro w'
          go_simp
          with_reducible rfl
        rotate_left
        · simp only [Act.put, List.setIfInBounds_toArray, List.set_cons_zero, List.set_cons_succ, i64_w, i32_w]
          rfl
        refine pure_ (i := 1) (N := some 37) (v := ?_) (a' := ?_) #[true, true, false, false, true, false, true, false, false, false, false, false, false, false, false, false, false, false, false, false, false] rfl rfl (by kernel_rfl) (fun _ _ _ h => h) (Or.inl ⟨by rfl, ?_⟩) ?_ ?_
        rotate_left
        · intro w'
          go_simp
          with_reducible rfl
        rotate_left
        · simp only [Act.put, List.setIfInBounds_toArray, List.set_cons_zero, List.set_cons_succ, i64_w, i32_w]
          rfl
        refine pure_ (i := 5) (N := some 41) (v := ?_) (a' := ?_) #[true, true, false, false, true, true, true, false, false, false, false, false, false, false, false, false, false, false, false, false, false] rfl rfl (by kernel_rfl) (fun _ _ _ h => h) (Or.inl ⟨by rfl, ?_⟩) ?_ ?_
        rotate_left
        · intro w'
          go_simp
          with_reducible rfl
        rotate_left
        · simp only [Act.put, List.setIfInBounds_toArray, List.set_cons_zero, List.set_cons_succ, i64_w, i32_w]
          rfl
        refine pure_ (i := 7) (N := some 43) (v := ?_) (a' := ?_) #[true, true, false, false, true, true, true, true, false, false, false, false, false, false, false, false, false, false, false, false, false] rfl rfl (by kernel_rfl) (fun _ _ _ h => h) (Or.inl ⟨by rfl, ?_⟩) ?_ ?_
        rotate_left
        · intro w'
          go_simp
          with_reducible rfl
        rotate_left
        · simp only [Act.put, List.setIfInBounds_toArray, List.set_cons_zero, List.set_cons_succ, i64_w, i32_w]
          rfl
        refine pure_ (i := 2) (N := some 38) (v := ?_) (a' := ?_) #[true, true, true, false, true, true, true, true, false, false, false, false, false, false, false, false, false, false, false, false, false] rfl rfl (by kernel_rfl) (fun _ _ _ h => h) (Or.inl ⟨by rfl, ?_⟩) ?_ ?_
        rotate_left
        · intro w'
          go_simp
          with_reducible rfl
        rotate_left
        · simp only [Act.put, List.setIfInBounds_toArray, List.set_cons_zero, List.set_cons_succ, i64_w, i32_w]
          rfl
        refine pure_ (i := 8) (N := some 44) (v := ?_) (a' := ?_) #[true, true, true, false, true, true, true, true, true, false, false, false, false, false, false, false, false, false, false, false, false] rfl rfl (by kernel_rfl) (fun _ _ _ h => h) (Or.inl ⟨by rfl, ?_⟩) ?_ ?_
        rotate_left
        · intro w'
          go_simp
          with_reducible rfl
        rotate_left
        · simp only [Act.put, List.setIfInBounds_toArray, List.set_cons_zero, List.set_cons_succ, i64_w, i32_w]
          rfl
        refine take_ (i := 3) (N := some 39) (v := ?_) (a' := ?_) #[true, true, true, true, true, true, true, true, true, false, false, false, false, false, false, false, false, false, false, false, false] rfl rfl (by kernel_rfl) (fun _ _ _ h => h) (Or.inl ⟨by rfl, ?_⟩) hHeld ?_ ?_
        rotate_left
        · rintro w' s0
          go_simp
          with_reducible rfl
        rotate_left
        · simp only [Act.put, List.setIfInBounds_toArray, List.set_cons_zero, List.set_cons_succ, i64_w, i32_w]
          rfl
        refine take_ (i := 9) (N := some 45) (v := ?_) (a' := ?_) #[true, true, true, true, true, true, true, true, true, true, false, false, false, false, false, false, false, false, false, false, false] rfl rfl (by kernel_rfl) (fun _ _ _ h => h) (Or.inl ⟨by rfl, ?_⟩) hHeld ?_ ?_
        rotate_left
        · rintro w' s0
          go_simp
          with_reducible rfl
        rotate_left
        · simp only [Act.put, List.setIfInBounds_toArray, List.set_cons_zero, List.set_cons_succ, i64_w, i32_w]
          rfl
        refine pure_ (i := 10) (N := some 46) (v := ?_) (a' := ?_) #[true, true, true, true, true, true, true, true, true, true, true, false, false, false, false, false, false, false, false, false, false] rfl rfl (by kernel_rfl) (fun _ _ _ h => h) (Or.inl ⟨by rfl, ?_⟩) ?_ ?_
        rotate_left
        · intro w'
          go_simp
          with_reducible rfl
        rotate_left
        · simp only [Act.put, List.setIfInBounds_toArray, List.set_cons_zero, List.set_cons_succ, i64_w, i32_w]
          rfl
        refine pure_ (i := 11) (N := some 47) (v := ?_) (a' := ?_) #[true, true, true, true, true, true, true, true, true, true, true, true, false, false, false, false, false, false, false, false, false] rfl rfl (by kernel_rfl) (fun _ _ _ h => h) (Or.inl ⟨by rfl, ?_⟩) ?_ ?_
        rotate_left
        · intro w'
          go_simp
          with_reducible rfl
        rotate_left
        · simp only [Act.put, List.setIfInBounds_toArray, List.set_cons_zero, List.set_cons_succ, i64_w, i32_w]
          rfl
        refine pure_ (i := 12) (N := some 48) (v := ?_) (a' := ?_) #[true, true, true, true, true, true, true, true, true, true, true, true, true, false, false, false, false, false, false, false, false] rfl rfl (by kernel_rfl) (fun _ _ _ h => h) (Or.inl ⟨by rfl, ?_⟩) ?_ ?_
        rotate_left
        · intro w'
          go_simp
          with_reducible rfl
        rotate_left
        · simp only [Act.put, List.setIfInBounds_toArray, List.set_cons_zero, List.set_cons_succ, i64_w, i32_w]
          rfl
        refine one_ (i := 13) (N := some 49) #[true, true, true, true, true, true, true, true, true, true, true, true, true, true, false, false, false, false, false, false, false] rfl rfl (by kernel_rfl) (by decide) (fun K hK => ?_)
        refine goes_ Try.func18 (by kernel_rfl) rfl #[.slice A (b.take z.toNat).length c] (by rfl) rfl rfl (by (try simp only [List.map_toArray, List.map_cons, List.map_nil]); first | done | rfl | (simp only [List.length_take]; rfl)) ?_
        refine (delta_Take.calls k A c (b.take z.toNat) n rest e' w1 (Kd.C_below hCt.out HB1.out) HCc.out HT2.out).mono ?_
        rintro r w2 ⟨vr, rfl, hor, hb2⟩
        refine ⟨_, rfl, ?_⟩
        have HBK2 := Aside0.mk (blk_below HBK1.out hb2)
        have HB2 := Aside0.mk (below_step HB1.out hb2)
        have s12 := hb2.size
        have hsame2 : Aside0 (∀ j, j < wc.heap.size → w2.heap[j]? = wc.heap[j]?) := ⟨fun j h1 => (hb2.block j (by rw [hsz1]; exact h1)).trans (hsame1.out j h1)⟩
        obtain ⟨Ar, cr, er⟩ := Kd.R_slice hor
        subst er
        clear hb2 hor HB1 HBK1 hsame1 hHeld
        refine hK.out _ _ ((blk_cell HBK2.out 0).trans rfl) (fun hHeld => ?_)
        clear hK K
        refine norm_ (a' := ?_) ?_ ?_
        rotate_left
        · show Act.put _ (some 49) _ = _
          simp only [Act.put, List.setIfInBounds_toArray, List.set_cons_zero, List.set_cons_succ, i64_w, i32_w]
          rfl
        refine pure_ (i := 14) (N := some 35) (v := ?_) (a' := ?_) #[true, true, true, true, true, true, true, true, true, true, true, true, true, true, true, false, false, false, false, false, false] rfl rfl (by kernel_rfl) (fun _ _ _ h => h) (Or.inl ⟨by rfl, ?_⟩) ?_ ?_
        rotate_left
        · intro w'
          go_simp
          with_reducible rfl
        rotate_left
        · simp only [Act.put, List.setIfInBounds_toArray, List.set_cons_zero, List.set_cons_succ, i64_w, i32_w]
          rfl
        refine pure_ (i := 15) (N := some 50) (v := ?_) (a' := ?_) #[true, true, true, true, true, true, true, true, true, true, true, true, true, true, true, true, false, false, false, false, false] rfl rfl (by kernel_rfl) (fun _ _ _ h => h) (Or.inl ⟨by rfl, ?_⟩) ?_ ?_
        rotate_left
        · intro w'
          go_simp
          with_reducible rfl
        rotate_left
        · simp only [Act.put, List.setIfInBounds_toArray, List.set_cons_zero, List.set_cons_succ, i64_w, i32_w]
          rfl
        refine pure_ (i := 16) (N := some 51) (v := ?_) (a' := ?_) #[true, true, true, true, true, true, true, true, true, true, true, true, true, true, true, true, true, false, false, false, false] rfl rfl (by kernel_rfl) (fun _ _ _ h => h) (Or.inl ⟨by rfl, ?_⟩) ?_ ?_
        rotate_left
        · intro w'
          go_simp
          with_reducible rfl
        rotate_left
        · simp only [Act.put, List.setIfInBounds_toArray, List.set_cons_zero, List.set_cons_succ, i64_w, i32_w]
          rfl
        refine pure_ (i := 17) (N := some 52) (v := ?_) (a' := ?_) #[true, true, true, true, true, true, true, true, true, true, true, true, true, true, true, true, true, true, false, false, false] rfl rfl (by kernel_rfl) (fun _ _ _ h => h) (Or.inl ⟨by rfl, ?_⟩) ?_ ?_
        rotate_left
        · intro w'
          go_simp
          with_reducible rfl
        rotate_left
        · simp only [Act.put, List.setIfInBounds_toArray, List.set_cons_zero, List.set_cons_succ, i64_w, i32_w]
          rfl
        refine pure_ (i := 18) (N := some 4) (v := ?_) (a' := ?_) #[true, true, true, true, true, true, true, true, true, true, true, true, true, true, true, true, true, true, true, false, false] rfl rfl (by kernel_rfl) (fun _ _ _ h => h) (Or.inl ⟨by rfl, ?_⟩) ?_ ?_
        rotate_left
        · intro w'
          go_simp
          with_reducible rfl
        rotate_left
        · simp only [Act.put, List.setIfInBounds_toArray, List.set_cons_zero, List.set_cons_succ, i64_w, i32_w]
          rfl
        refine pure_ (i := 19) (N := some 5) (v := ?_) (a' := ?_) #[true, true, true, true, true, true, true, true, true, true, true, true, true, true, true, true, true, true, true, true, false] rfl rfl (by kernel_rfl) (fun _ _ _ h => h) (Or.inl ⟨by rfl, ?_⟩) ?_ ?_
        rotate_left
        · intro w'
          go_simp
          with_reducible rfl
        rotate_left
        · simp only [Act.put, List.setIfInBounds_toArray, List.set_cons_zero, List.set_cons_succ, i64_w, i32_w]
          rfl
        refine pure_ (i := 20) (N := some 6) (v := ?_) (a' := ?_) #[true, true, true, true, true, true, true, true, true, true, true, true, true, true, true, true, true, true, true, true, true] rfl rfl (by kernel_rfl) (fun _ _ _ h => h) (Or.inl ⟨by rfl, ?_⟩) ?_ ?_
        rotate_left
        · intro w'
          go_simp
          with_reducible rfl
        rotate_left
        · simp only [Act.put, List.setIfInBounds_toArray, List.set_cons_zero, List.set_cons_succ, i64_w, i32_w]
          rfl
        refine done_ (by kernel_rfl) ?_
        have hc0 : w2.cell? ⟨g, 0, none⟩ = some (.slice A b.length c) := (blk_cell HBK2.out 0).trans rfl
        have hc1 : w2.cell? ⟨g, 1, none⟩ = some (.int .i64 0) := (blk_cell HBK2.out 1).trans rfl
        have hf0 := blk_frozen HBK2.out 0
        have hf1 := blk_frozen HBK2.out 1
        have sz2 : wc.heap.size ≤ w2.heap.size := by rw [← hsz1]; exact s12
        by_cases ce : e' = 0
        · subst ce
          have hy1 : y ≤ (b.length : Int) := by have h1 := H0.out rfl; have h2 := HYN.out; have h3 := HY0.out; omega
          obtain ⟨i0, hi0, _, hsz0, _⟩ := info_parts info5
          obtain ⟨A', hcut, hA1, hCd⟩ := print_drop_of (P := Try.prog) (Value.int .u8) 0 22 5 .i64 Try.underlying22 hi0 hsz0 A c b y HY0.out hy1 hcc
          have hCt2 := Aside0.mk (Kd.C_of_reads (h1 := fun _ => rfl) (hA1 _ (Kd.reads_of_C HC.out)))
          have HCd := Aside0.mk hCd
          clear hA1 hi0 hsz0 hCd hy1 hCt HCc HT2 H0
          go_wp2
          go_ret
          have eb : b.drop (stop b 10 0 + 1) = b.drop y.toNat := by rw [HYN.out]
          refine ⟨rfl, ?_, by show wc.heap.size ≤ ((w2.setCell _ _).setCell _ _).heap.size; simp [World.setCell]; exact sz2, fun j h1 h2 => ?_⟩
          · rw [eb]
            refine ⟨A', c - y.toNat, ?_, hCt2.out, HCd.out, hg, (HB2.out.setCell hg _).setCell hg _⟩
            rw [show (b.drop y.toNat).length = b.length - y.toNat from List.length_drop]
            exact blk_put (cs := #[.slice A b.length c, .int .i64 0]) (blk_put HBK2.out 1 _ rfl) 0 _ rfl
          · exact (Below.heap_setCell _ ⟨g, 0, none⟩ _ j h2).trans ((Below.heap_setCell w2 ⟨g, 1, none⟩ _ j h2).trans (hsame2.out j h1))
        · have HCE := Aside0.mk ce
          have ceb : (e' == 0) = false := beq_eq_false_iff_ne.mpr ce
          clear ce hCt HCc HT2 H0
          go_wp2
          · exact absurd (by assumption) HCE.out
          go_ret
          refine ⟨rfl, ⟨A, c, blk_put HBK2.out 1 _ rfl, HC.out, hcc, hg, HB2.out.setCell hg _⟩, by simp [World.setCell]; exact sz2, fun j h1 h2 => (Below.heap_setCell w2 ⟨g, 1, none⟩ _ j h2).trans (hsame2.out j h1)⟩
theorem Rd_num {w W : World} {g : Nat} {b : List Int} {e : Int} {k : Nat} {n : Int} {b' : List Int} {e' : Int} (h : Rd w W g b e) (hn : delta_num.f k b e = some (n, b', e')) (hlen : b.length < 9000000000000000000) :
    Calls Try.prog 42 #[.pointer (some ⟨g, 0, none⟩)] W fun r W' => r = .returned (.int .i64 n) ∧ Rd w W' g b' e' ∧ W.heap.size ≤ W'.heap.size ∧ (∀ j, j < W.heap.size → j ≠ g → W'.heap[j]? = W.heap[j]?) := by
  by_cases he : e = 0
  · subst he
    rw [delta_num.f, if_pos rfl] at hn
    obtain ⟨t, ht, hn⟩ := Option.bind_eq_some_iff.1 hn
    obtain ⟨n1, rest, e1⟩ := t
    by_cases h1 : e1 = 0
    · rw [if_pos h1] at hn
      by_cases h2 : stop b 10 0 + 1 ≤ b.length
      · rw [if_pos h2] at hn
        cases hn
        refine (num_reads h ht hlen (fun _ => h2)).mono ?_
        rintro r W' ⟨rfl, q1, q2⟩
        rw [if_pos h1, h1] at q1
        exact ⟨rfl, q1, q2⟩
      · rw [if_neg h2] at hn; cases hn
    · rw [if_neg h1] at hn
      cases hn
      refine (num_reads h ht hlen (fun q => absurd q h1)).mono ?_
      rintro r W' ⟨rfl, q1, q2⟩
      rw [if_neg h1] at q1
      exact ⟨rfl, q1, q2⟩
  · rw [delta_num.f, if_neg he] at hn
    cases hn
    exact num_stays h he
/-- What many comes to. -/
def delta_many.f (k : Nat) (b : List Int) (e most : Int) : Option (Int × List Int × Int) := (delta_num.f k b e).bind fun t => if t.2.2 = 0 then (if t.1 < 0 ∨ t.1 > most then some (0, t.2.1, 2) else some (t.1, t.2.1, 0)) else some (0, t.2.1, t.2.2)
theorem Rd_cells {w W : World} {g : Nat} {b : List Int} {e : Int} (h : Rd w W g b e) : ∃ A c, W.cell? ⟨g, 0, none⟩ = some (.slice A b.length c) ∧ W.cell? ⟨g, 1, none⟩ = some (.int .i64 e) ∧ W.frozen? ⟨g, 0, none⟩ = false ∧ W.frozen? ⟨g, 1, none⟩ = false ∧ Kd.C (Kd.int .u8) W A b.length b ∧ b.length ≤ c := by
  obtain ⟨A, c, h1, h2, h3, h4, h5⟩ := h
  exact ⟨A, c, (blk_cell h1 0).trans rfl, (blk_cell h1 1).trans rfl, blk_frozen h1 0, blk_frozen h1 1, Kd.C_below h2 h5, h3⟩
theorem Rd_put {w W : World} {g : Nat} {b : List Int} {e : Int} (h : Rd w W g b e) (e' : Int) : Rd w (W.setCell ⟨g, 1, none⟩ (.int .i64 e')) g b e' := by
  obtain ⟨A, c, h1, h2, h3, h4, h5⟩ := h
  exact ⟨A, c, blk_put h1 1 _ rfl, h2, h3, h4, h5.setCell h4 _⟩
set_option maxHeartbeats 4000000 in
theorem Rd_many {w W : World} {g : Nat} {b : List Int} {e most : Int} {k : Nat} {n : Int} {b' : List Int} {e' : Int} (h : Rd w W g b e) (hn : delta_many.f k b e most = some (n, b', e')) (hlen : b.length < 9000000000000000000) :
    Calls Try.prog 41 #[.pointer (some ⟨g, 0, none⟩), .int .i64 most] W fun r W' => r = .returned (.int .i64 n) ∧ Rd w W' g b' e' ∧ W.heap.size ≤ W'.heap.size ∧ (∀ j, j < W.heap.size → j ≠ g → W'.heap[j]? = W.heap[j]?) := by
  rw [delta_many.f] at hn
  obtain ⟨⟨n1, b1, e1⟩, hm, hn⟩ := Option.bind_eq_some_iff.1 hn
  have HM := Aside0.mk hm
  have HR := Aside0.mk h
  have HL := Aside0.mk hlen
  clear hm h hlen
  by_cases he : e1 = 0
  · rw [if_pos he] at hn
    by_cases hq : n1 < 0 ∨ n1 > most
    · rw [if_pos hq] at hn
      cases hn
      subst he
      have HQ := Aside0.mk hq
      clear hq
      go_enter Try.func41, Try.ntmps41
      go_wp2_with ((with_reducible refine gate_callee (f := 42) rfl ?_); refine goesL_ (some 7) rfl rfl Try.func42 (by kernel_rfl) rfl #[.pointer (some ⟨g, 0, none⟩)] rfl (by (try simp only [List.map_toArray, List.map_cons, List.map_nil]); first | done | rfl) ?_; (refine (Rd_num HR.out HM.out HL.out).mono ?_); rintro r W1 ⟨rfl, q1, q2, q3⟩; refine ⟨_, rfl, ?_⟩; have HR1 := Aside0.mk q1; have HS1 := Aside0.mk q2; have HE1 := Aside0.mk q3; clear HR HM q1 q2 q3; obtain ⟨A1, c1, hc0, hc1, hf0, hf1, _, _⟩ := Rd_cells HR1.out)
      all_goals first | (exfalso; have hQ := HQ.out; omega) | (go_ret; exact ⟨rfl, HR1.out, HS1.out, HE1.out⟩) | (go_ret; exact ⟨rfl, Rd_put HR1.out 2, by simp [World.setCell]; exact HS1.out, fun j h1 h2 => (Below.heap_setCell _ ⟨g, 1, none⟩ _ j h2).trans (HE1.out j h1 h2)⟩)
    · rw [if_neg hq] at hn
      cases hn
      subst he
      have HQ := Aside0.mk hq
      clear hq
      go_enter Try.func41, Try.ntmps41
      go_wp2_with ((with_reducible refine gate_callee (f := 42) rfl ?_); refine goesL_ (some 7) rfl rfl Try.func42 (by kernel_rfl) rfl #[.pointer (some ⟨g, 0, none⟩)] rfl (by (try simp only [List.map_toArray, List.map_cons, List.map_nil]); first | done | rfl) ?_; (refine (Rd_num HR.out HM.out HL.out).mono ?_); rintro r W1 ⟨rfl, q1, q2, q3⟩; refine ⟨_, rfl, ?_⟩; have HR1 := Aside0.mk q1; have HS1 := Aside0.mk q2; have HE1 := Aside0.mk q3; clear HR HM q1 q2 q3; obtain ⟨A1, c1, hc0, hc1, hf0, hf1, _, _⟩ := Rd_cells HR1.out)
      all_goals first | (exfalso; have hQ := HQ.out; omega) | (go_ret; exact ⟨rfl, HR1.out, HS1.out, HE1.out⟩) | (go_ret; exact ⟨rfl, Rd_put HR1.out 2, by simp [World.setCell]; exact HS1.out, fun j h1 h2 => (Below.heap_setCell _ ⟨g, 1, none⟩ _ j h2).trans (HE1.out j h1 h2)⟩)
  · rw [if_neg he] at hn
    cases hn
    have HQ := Aside0.mk he
    clear he
    go_enter Try.func41, Try.ntmps41
    go_wp2_with ((with_reducible refine gate_callee (f := 42) rfl ?_); refine goesL_ (some 7) rfl rfl Try.func42 (by kernel_rfl) rfl #[.pointer (some ⟨g, 0, none⟩)] rfl (by (try simp only [List.map_toArray, List.map_cons, List.map_nil]); first | done | rfl) ?_; (refine (Rd_num HR.out HM.out HL.out).mono ?_); rintro r W1 ⟨rfl, q1, q2, q3⟩; refine ⟨_, rfl, ?_⟩; have HR1 := Aside0.mk q1; have HS1 := Aside0.mk q2; have HE1 := Aside0.mk q3; clear HR HM q1 q2 q3; obtain ⟨A1, c1, hc0, hc1, hf0, hf1, _, _⟩ := Rd_cells HR1.out)
    all_goals first | (exfalso; have hQ := HQ.out; omega) | (go_ret; exact ⟨rfl, HR1.out, HS1.out, HE1.out⟩) | (go_ret; exact ⟨rfl, Rd_put HR1.out 2, by simp [World.setCell]; exact HS1.out, fun j h1 h2 => (Below.heap_setCell _ ⟨g, 1, none⟩ _ j h2).trans (HE1.out j h1 h2)⟩)
end Go.Proofs.Ytjgoehhhjffpmaa.Q

