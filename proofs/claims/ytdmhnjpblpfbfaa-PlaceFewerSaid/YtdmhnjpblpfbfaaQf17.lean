/- place.Best: the search from nothing, over sums of weights. Condition: its twin gives an answer. -/
import Derived.Test.YtdmhnjpblpfbfaaQf26
import Derived.Test.YtdmhnjpblpfbfaaQf54
namespace Go.Proofs.Ytdmhnjpblpfbfaa.Q
open Go.RowKit Go.Proofs.YtdmhnjpblpfbfaaW.PrintWords Go.Proofs.YtdmhnjpblpfbfaaW.PrintLast Go.Proofs.YtdmhnjpblpfbfaaW.PrintMore
attribute [local go_sem] max2_int min2_int max_two min_two max_three min_three max_four min_four
set_option linter.unusedVariables false
set_option linter.unusedSimpArgs false
/-- The weights of d labels from the n-th on. -/
def sumsW (L : List S36) : Nat → Nat → Int
  | 0, _ => 0
  | d + 1, n => (rd_T36 L (n : Int)).f2 + sumsW L d (n + 1)
/-- The sums from the j-th label on. -/
def restG (L : List S36) (j : Nat) : List Int := (List.range (L.length + 1)).map fun i => if i < j then 0 else sumsW L (L.length - i) i
theorem restG_len (L : List S36) (j : Nat) : (restG L j).length = L.length + 1 := by unfold restG; simp
theorem restG_get (L : List S36) (j i : Nat) (h : i < (restG L j).length) : (restG L j)[i] = if i < j then 0 else sumsW L (L.length - i) i := by
  simp [restG]
theorem restG_rd (L : List S36) (j i : Nat) (h : i ≤ L.length) : rd (restG L j) (i : Int) = if i < j then 0 else sumsW L (L.length - i) i := by
  have hi : i < (restG L j).length := by rw [restG_len]; omega
  unfold rd
  rw [Int.toNat_natCast, List.getD_eq_getElem?_getD, List.getElem?_eq_getElem hi, Option.getD_some, restG_get]
theorem restG_top (L : List S36) : List.replicate (L.length + 1) 0 = restG L L.length := by
  apply List.ext_getElem
  · rw [restG_len]; simp
  · intro i h1 h2
    have hi : i ≤ L.length := by simp at h1; omega
    rw [restG_get, List.getElem_replicate]
    by_cases c : i < L.length
    · rw [if_pos c]
    · rw [if_neg c, show L.length - i = 0 by omega]; rfl
theorem restG_step (L : List S36) (m : Nat) (h : m < L.length) : (restG L (m + 1)).set m (rd (restG L (m + 1)) ((m + 1 : Nat) : Int) + (rd_T36 L (m : Int)).f2) = restG L m := by
  rw [restG_rd L (m + 1) (m + 1) (by omega), if_neg (by omega)]
  apply List.ext_getElem
  · rw [List.length_set, restG_len, restG_len]
  · intro i h1 h2
    rw [List.getElem_set, restG_get, restG_get]
    by_cases c : m = i
    · subst c
      rw [if_pos rfl, if_neg (by omega), show L.length - m = (L.length - (m + 1)) + 1 by omega, sumsW]; omega
    · rw [if_neg c]
      by_cases c2 : i < m
      · rw [if_pos c2, if_pos (by omega)]
      · rw [if_neg c2, if_neg (by omega)]
/-- What Check asks of the labels. -/
structure Chk (L : List S36) : Prop where
  many : L.length ≤ 10
  boxes : ∀ i, i < L.length → (rd_T36 L (i : Int)).f1.length ≤ 5
  w0 : ∀ i, i < L.length → 0 ≤ (rd_T36 L (i : Int)).f2
  w1 : ∀ i, i < L.length → (rd_T36 L (i : Int)).f2 ≤ 1000
def ChkF (L : List S36) (i : Nat) : Prop := ∀ j, i ≤ j → j < L.length → (rd_T36 L (j : Int)).f1.length ≤ 5 ∧ 0 ≤ (rd_T36 L (j : Int)).f2 ∧ (rd_T36 L (j : Int)).f2 ≤ 1000
theorem check_l (L : List S36) (hL : L.length ≤ 10) : ∀ k, (∀ i : Nat, place_Check.l0 k L (L.length : Int) (i : Int) = some 0 → ChkF L i) ∧
    (∀ (i : Nat) (B : List S42) (q : Int), i < L.length → place_Check.l1 k L (L.length : Int) (i : Int) B (B.length : Int) q = some 0 → ChkF L (i + 1))
  | 0 => ⟨fun _ h => by simp [place_Check.l0] at h, fun _ _ _ _ h => by simp [place_Check.l1] at h⟩
  | k + 1 => by
    obtain ⟨ih0, ih1⟩ := check_l L hL k
    refine ⟨?_, ?_⟩
    · intro i h
      rw [place_Check.l0] at h
      by_cases c1 : (i : Int) < (L.length : Int)
      · rw [if_pos c1, if_pos (Int.natCast_nonneg _), if_pos c1] at h
        by_cases c2 : ((rd_T36 L (i : Int)).f1.length : Int) > 5
        · rw [if_pos c2] at h; simp at h
        · rw [if_neg c2] at h
          have hj : ∀ b a0 a1 a2 a3 a4 a5 a6, place_Check.j1 k L (L.length : Int) (i : Int) b a0 a1 a2 a3 a4 a5 (rd_T36 L (i : Int)).f1 a6 = some 0 → b = false ∧ ChkF L (i + 1) := by
            intro b a0 a1 a2 a3 a4 a5 a6 hb
            cases k with
            | zero => simp [place_Check.j1] at hb
            | succ k =>
              rw [place_Check.j1] at hb
              cases b with
              | true => simp at hb
              | false =>
                rw [if_neg (by simp)] at hb
                refine ⟨rfl, ?_⟩
                have hm := (check_l L hL k).2 i (rd_T36 L (i : Int)).f1 0 (by omega) hb
                exact hm
          by_cases c3 : (rd_T36 L (i : Int)).f2 < 0
          · rw [if_pos c3] at h
            exact absurd (hj _ _ _ _ _ _ _ _ h).1 (by simp)
          · rw [if_neg c3] at h
            obtain ⟨hb, hn⟩ := hj _ _ _ _ _ _ _ _ h
            have hb := of_decide_eq_false hb
            intro j h1 h2
            by_cases cj : j = i
            · subst cj; exact ⟨by omega, by omega, by omega⟩
            · exact hn j (by omega) h2
      · intro j h1 h2; omega
    · intro i B q hi h
      rw [place_Check.l1] at h
      by_cases c1 : q < (B.length : Int)
      · rw [if_pos c1] at h
        by_cases c2 : 0 ≤ q
        · rw [if_pos c2, if_pos c1] at h
          obtain ⟨t, _, h⟩ := Option.bind_eq_some_iff.mp h
          by_cases ct : t = true
          · rw [if_pos ct] at h; exact ih1 i B _ hi h
          · rw [if_neg ct] at h; simp at h
        · rw [if_neg c2] at h; simp at h
      · rw [if_neg c1, wrap64_eq _ (by omega) (by omega)] at h
        exact ih0 (i + 1) (by rw [Int.natCast_add]; exact h)
theorem check_ok {L : List S36} {k : Nat} (h : place_Check.f k L = some 0) : Chk L := by
  unfold place_Check.f at h
  by_cases c : (L.length : Int) > 10
  · rw [if_pos c] at h; simp at h
  · rw [if_neg c] at h
    have hc := (check_l L (by omega) k).1 0 h
    exact ⟨by omega, fun i hi => (hc i (by omega) hi).1, fun i hi => (hc i (by omega) hi).2.1, fun i hi => (hc i (by omega) hi).2.2⟩
theorem sumsW_bd {L : List S36} (h : Chk L) : ∀ d n, n + d ≤ L.length → 0 ≤ sumsW L d n ∧ sumsW L d n ≤ 1000 * (d : Int)
  | 0, _, _ => ⟨Int.le_refl _, by simp [sumsW]⟩
  | d + 1, n, hd => by
    have ih := sumsW_bd h d (n + 1) (by omega)
    have h0 := h.w0 n (by omega)
    have h1 := h.w1 n (by omega)
    rw [sumsW]
    exact ⟨by omega, by rw [Int.natCast_add]; omega⟩
theorem rest_wrap {L : List S36} {x : Int} {m : Nat} (h : Chk L) (hx : x = (m : Int)) (hm : m < L.length) : wrap64 (rd (restG L (m + 1)) (x + 1) + (rd_T36 L x).f2) = rd (restG L (m + 1)) (x + 1) + (rd_T36 L x).f2 := by
  subst hx
  have e : ((m : Int) + 1) = ((m + 1 : Nat) : Int) := by omega
  rw [e, restG_rd L (m + 1) (m + 1) (by omega), if_neg (by omega)]
  have h1 := sumsW_bd h (L.length - (m + 1)) (m + 1) (by omega)
  have h2 := h.w0 m hm
  have h3 := h.w1 m hm
  have h4 := h.many
  rw [wrap64_eq] <;> omega
theorem chk_okl {L : List S36} (h : Chk L) : Okl L (restG L 0) := by
  have hm := h.many
  refine ⟨by omega, fun i hi => by have := h.boxes i hi; omega, h.w0, h.w1, restG_len L 0, ?_, ?_⟩
  · intro i hi
    rw [restG_rd L 0 i hi, if_neg (by omega)]
    exact (sumsW_bd h (L.length - i) i (by omega)).1
  · intro i hi
    rw [restG_rd L 0 i hi, if_neg (by omega)]
    have := (sumsW_bd h (L.length - i) i (by omega)).2
    omega
theorem picks_nil (L : List S36) : Picks L [] := fun i hi => absurd hi (Nat.not_lt_zero _)
theorem SeV_rest {w W : World} {g c gr N cr : Nat} {A : Option Addr} {L : List S36} {rest : List Int} {worth top : Int} (h : SeV w W g A c L rest [] [] worth top (.slice (some ⟨gr, 0, none⟩) N cr) (.slice none 0 0) (.slice none 0 0)) (x v : Int) :
    SeV w (W.setCell ⟨gr, x.toNat, none⟩ (.int .i64 v)) g A c L (rest.set x.toNat v) [] [] worth top (.slice (some ⟨gr, 0, none⟩) N cr) (.slice none 0 0) (.slice none 0 0) := by
  obtain ⟨h1, h2, h3, h4, h5, h6⟩ := h
  have hne := Kd.R_ne h2 h1 (by decide)
  have hb := Kd.R_base h2 gr rfl
  exact ⟨blk_far h1 (p := ⟨gr, _, none⟩) (fun e => hne (by rw [e]; rfl)) _, Kd.R_putn h2 x v, Kd.R_nil _ _ _ _ _, Kd.R_nil _ _ _ _ _, h5, h6.setCell hb _⟩
/-! ### place_Best: function 17 -/
def place_Best.f (k : Nat) (l0 : List (S36)) : Option (List Int × Int × Int) := (place_Check.f k l0).bind fun t => if t = 0 then some ((srch l0 (restG l0 0) l0.length [] 0 ([], -1)).1, (srch l0 (restG l0 0) l0.length [] 0 ([], -1)).2, 0) else some ([], 0, t)
theorem place_Best.mono : ∀ a0 k, LeO (place_Best.f k a0) (place_Best.f (k + 1) a0) := by
  intro a0 k
  unfold place_Best.f
  exact LeO.bind (place_Check.mono _ _) (fun _ => LeO.refl _)
set_option maxHeartbeats 8000000 in
set_option maxRecDepth 100000 in
theorem place_Best.calls (k : Nat) (A0 : Option Addr) (c0 : Nat) (l0 : List (S36)) (r1 : List Int) (r2 : Int) (r3 : Int) (w : World) (hr0 : Kd.C k36 w A0 l0.length l0) (hc0 : l0.length ≤ c0) (h : place_Best.f k l0 = some (r1, r2, r3)) :
    Calls Try.prog 17 #[.slice A0 l0.length c0] w fun e w' => ∃ v0_ : Value, e = .returned (.tuple #[v0_, .int .i64 r2, .int .i64 r3]) ∧ Kd.R (Kd.int .i64) 3 w' w.heap.size (fun _ => True) v0_ r1 ∧ Below w.heap.size w w' := by
  have HR0 := Aside0.mk hr0
  have HC0 := Aside0.mk hc0
  clear hr0 hc0
  have HB := Aside0.mk (Below.refl w.heap.size w)
  have H : ((place_Check.f k l0).bind fun t => if t = 0 then some ((srch l0 (restG l0 0) l0.length [] 0 ([], -1)).1, (srch l0 (restG l0 0) l0.length [] 0 ([], -1)).2, 0) else some ([], 0, t)) = some (r1, r2, r3) := h
  clear h
  obtain ⟨t, A20, H⟩ := Option.bind_eq_some_iff.mp H
  have A2 := Aside0.mk A20
  by_cases ct : t = 0
  rotate_left
  · rw [if_neg ct, Option.some.injEq, Prod.mk.injEq, Prod.mk.injEq] at H
    obtain ⟨rfl, rfl, rfl⟩ := H
    clear A20
    have cb : (t != 0) = true := bne_iff_ne.mpr ct
    have cb2 : (t == 0) = false := beq_eq_false_iff_ne.mpr ct
    clear ct
    go_enter Try.func17, Try.ntmps17
    go_wp2_with (first | ((with_reducible refine gate_callee (f := 26) rfl ?_); refine goesL_ (some 9) rfl rfl Try.func26 (by kernel_rfl) rfl #[.slice A0 l0.length c0] rfl (by (try simp only [List.map_toArray, List.map_cons, List.map_nil]); first | done | rfl) ?_; (with_reducible refine (place_Check.calls k _ _ l0 _ _ ?side1 ?side2 A2.out).mono ?_); (case side1 => exact HR0.out); (case side2 => exact HC0.out); rintro e w3 ⟨rfl, hb⟩; refine ⟨_, rfl, ?_⟩; replace HB := Aside0.mk (below_step HB.out hb)))
    go_ret3
    exact ⟨_, rfl, Kd.R_nil _ _ _ _ _, HB.out⟩
  subst ct
  rw [if_pos rfl, Option.some.injEq, Prod.mk.injEq, Prod.mk.injEq] at H
  obtain ⟨h1, h2, h3⟩ := H
  subst h3
  have H1 := Aside0.mk h1
  have H2 := Aside0.mk h2
  have HK := Aside0.mk (check_ok A20)
  clear A20 h1 h2 H
  have hN0 : l0.length ≤ 10 := HK.out.many
  obtain ⟨N, hN⟩ : ∃ N, N = l0.length + 1 := ⟨_, rfl⟩
  have wN : wrap64 ((l0.length : Int) + 1) = (N : Int) := by rw [hN, wrap64_eq _ (by omega) (by omega), Int.natCast_add]; rfl
  have w2 : wrap64 ((l0.length : Int) - 1) = (l0.length : Int) - 1 := wrap64_eq _ (by omega) (by omega)
  have HN := Aside0.mk hN
  have HWN := Aside0.mk wN
  have HN0 := Aside0.mk hN0
  have hi3 : (Try.prog.info? 3).map (fun i => (i.zero, i.size, i.bytes)) = some (some (.int .i64 0), 1, 8) := info3s
  have HI3 := Aside0.mk hi3
  clear hN hN0 hi3 wN
  go_enter Try.func17, Try.ntmps17
  go_wp2_with (first | ((with_reducible refine gate_callee (f := 26) rfl ?_); refine goesL_ (some 9) rfl rfl Try.func26 (by kernel_rfl) rfl #[.slice A0 l0.length c0] rfl (by (try simp only [List.map_toArray, List.map_cons, List.map_nil]); first | done | rfl) ?_; (with_reducible refine (place_Check.calls k _ _ l0 _ _ ?side1 ?side2 A2.out).mono ?_); (case side1 => exact HR0.out); (case side2 => exact HC0.out); rintro e w3 ⟨rfl, hb⟩; refine ⟨_, rfl, ?_⟩; replace HB := Aside0.mk (below_step HB.out hb)) | ((with_reducible refine gate_dst (N := 17) rfl ?_); refine Kd.R_make (Kd.int .i64) _ 3 rfl (N := 17) rfl 22 _ _ rfl (wrap64 ((l0.length : Int) + 1)) rfl rfl Try.underlying22 (.int .i64 0) 8 HI3.out rfl (by decide) (by omega) 0 (ok := fun _ => True) (okp := fun _ => True) rfl (fun _ hk => hk) trivial (by rw [HWN.out]; exact Int.natCast_nonneg _) (by rw [HWN.out, Int.toNat_natCast]; have h1 := HN.out; have h2 := HN0.out; omega) (Below.refl _ _) (Nat.le_refl _) ?_; intro vr w4 ho hb hg_ hnew_; clear hg_ hnew_; rw [HWN.out, Int.toNat_natCast] at ho; obtain ⟨gr, cr, ev, _⟩ := Kd.R_form ho (by have h1 := HN.out; rw [List.length_replicate]; omega); rw [List.length_replicate] at ev; subst ev; have HO := Aside0.mk ho; have HB4 := Aside0.mk hb; clear ho hb) | ((with_reducible refine gate_dst (N := 19) rfl ?_); refine box_event ?hg (N := 19) ?hd (cs := #[.slice A0 l0.length c0, .slice (some ⟨gr, 0, none⟩) N cr, .slice none 0 0, .slice none 0 0, .int .i64 0, .int .i64 (-1)]) (t := 80) ?hr ?_; (case hd => rfl); (case hg => rfl); (case hr => first | (go_simp; done) | (go_simp; rfl)); intro g hg w5 hbox hb5; have BB := Aside0.mk hbox; have HB5 := Aside0.mk hb5; have HG := Aside0.mk hg; clear hbox hb5 hg))
  have ho := HO.out
  rw [HN.out, restG_top, ← HN.out] at ho
  have HS := Aside0.mk (show SeV w w5 g A0 c0 l0 (restG l0 l0.length) [] [] 0 (-1) (.slice (some ⟨gr, 0, none⟩) N cr) (.slice none 0 0) (.slice none 0 0) from ⟨BB.out, Kd.R_mono (Kd.R_lower (Kd.R_below ho HB5.out) (by have h1 := HB.out.size; omega)) (fun _ _ => by intro hh; cases hh), Kd.R_nil _ _ _ _ _, Kd.R_nil _ _ _ _ _, by rw [HG.out]; have h1 := HB.out.size; have h2 := HB4.out.size; omega, below_step (below_step HB.out HB4.out) HB5.out⟩)
  clear ho HO HB4 HB5 BB HB HG
  go_loopg [7] l0.length (fun kq v7 w' => ∃ x : Int, v7 = .int .i64 x ∧ Aside0 (x = (kq : Int) - 1) ∧ Aside0 (kq ≤ l0.length) ∧ Aside0 (SeV w w' g A0 c0 l0 (restG l0 kq) [] [] 0 (-1) (.slice (some ⟨gr, 0, none⟩) N cr) (.slice none 0 0) (.slice none 0 0)))
  case atStart => exact ⟨_, rfl, ⟨w2⟩, ⟨Nat.le_refl _⟩, HS⟩
  case round =>
    clear HS w2
    obtain ⟨x, rfl, HX, HQ, HS⟩ := hrel
    obtain ⟨hc0, hc1, hc2, hc3, hc4, hc5, hfz⟩ := SeV_cells HS.out
    cases gk with
    | zero =>
      have hi : decide (0 ≤ x) = false := decide_eq_false (by have := HX.out; omega)
      clear hc0 hc1 hc2 hc3 hc4 hc5 hfz
      go_upto_region 10 with (first | ((with_reducible refine gate_callee (f := 54) rfl ?_); refine goesL_ (some 48) rfl rfl Try.func54 (by kernel_rfl) rfl #[.pointer (some ⟨g, 0, none⟩)] rfl (by (try simp only [List.map_toArray, List.map_cons, List.map_nil]); first | done | rfl) ?_; (refine (try_calls HR0.out (chk_okl HK.out) l0.length [] [] 0 (-1) _ (Nat.zero_add _) (SeV_Se HS.out) (picks_nil _) (Int.le_refl _) (by simp)).mono ?_); rintro r_ W5 ⟨rfl, q1⟩; refine ⟨_, rfl, ?_⟩; have HS4 := Aside0.mk q1; clear HS q1; rw [H1.out, H2.out] at HS4; obtain ⟨vr6, vn6, vb6, hs6⟩ := HS4.out; have HS := Aside0.mk (show SeV w W5 g A0 c0 l0 (restG l0 0) [] r1 0 r2 vr6 vn6 vb6 from hs6); clear HS4 hs6; obtain ⟨A6, c6, e6⟩ := Kd.R_slice HS.out.2.2.2.1; subst e6; obtain ⟨hc0, hc1, hc2, hc3, hc4, hc5, hfz⟩ := SeV_cells HS.out))
      refine start_ (n := 11) (S := fun w' => w'.cell? ⟨g, 3, none⟩ = some (.slice A6 r1.length c6) ∧ w'.cell? ⟨g, 5, none⟩ = some (.int .i64 r2)) (ds := []) (bA 11 0) (by kernel_rfl) rfl rfl ⟨hc3, hc5⟩ (fun hHeld => ?_)
      have HS5 := Aside0.mk (SeV_below HS.out (below_drew (Below.refl _ _)))
      clear HS hc0 hc1 hc2 hc3 hc4 hc5 hfz
      generalize W5.drew = W6 at HS5 hHeld ⊢
      refine pure_ (i := 0) (N := some 49) (v := ?_) (a' := ?_) (bA 11 1) rfl rfl (by kernel_rfl) (fun _ _ _ h => h) (Or.inl ⟨by rfl, ?_⟩) ?_ ?_
      rotate_left
      · intro w'
        go_simp
        with_reducible rfl
      rotate_left
      · simp only [Act.put, List.setIfInBounds_toArray, List.set_cons_zero, List.set_cons_succ, i64_w, i32_w]
        rfl
      refine pure_ (i := 1) (N := some 50) (v := ?_) (a' := ?_) (bA 11 3) rfl rfl (by kernel_rfl) (fun _ _ _ h => h) (Or.inl ⟨by rfl, ?_⟩) ?_ ?_
      rotate_left
      · intro w'
        go_simp
        with_reducible rfl
      rotate_left
      · simp only [Act.put, List.setIfInBounds_toArray, List.set_cons_zero, List.set_cons_succ, i64_w, i32_w]
        rfl
      refine pure_ (i := 2) (N := some 51) (v := ?_) (a' := ?_) (bA 11 7) rfl rfl (by kernel_rfl) (fun _ _ _ h => h) (Or.inl ⟨by rfl, ?_⟩) ?_ ?_
      rotate_left
      · intro w'
        go_simp
        with_reducible rfl
      rotate_left
      · simp only [Act.put, List.setIfInBounds_toArray, List.set_cons_zero, List.set_cons_succ, i64_w, i32_w]
        rfl
      refine pure_ (i := 4) (N := some 53) (v := ?_) (a' := ?_) (bA 11 23) rfl rfl (by kernel_rfl) (fun _ _ _ h => h) (Or.inl ⟨by rfl, ?_⟩) ?_ ?_
      rotate_left
      · intro w'
        go_simp
        with_reducible rfl
      rotate_left
      · simp only [Act.put, List.setIfInBounds_toArray, List.set_cons_zero, List.set_cons_succ, i64_w, i32_w]
        rfl
      refine pure_ (i := 5) (N := some 54) (v := ?_) (a' := ?_) (bA 11 55) rfl rfl (by kernel_rfl) (fun _ _ _ h => h) (Or.inl ⟨by rfl, ?_⟩) ?_ ?_
      rotate_left
      · intro w'
        go_simp
        with_reducible rfl
      rotate_left
      · simp only [Act.put, List.setIfInBounds_toArray, List.set_cons_zero, List.set_cons_succ, i64_w, i32_w]
        rfl
      refine pure_ (i := 6) (N := some 55) (v := ?_) (a' := ?_) (bA 11 119) rfl rfl (by kernel_rfl) (fun _ _ _ h => h) (Or.inl ⟨by rfl, ?_⟩) ?_ ?_
      rotate_left
      · intro w'
        go_simp
        with_reducible rfl
      rotate_left
      · simp only [Act.put, List.setIfInBounds_toArray, List.set_cons_zero, List.set_cons_succ, i64_w, i32_w]
        rfl
      refine take_ (i := 3) (N := some 52) (v := ?_) (a' := ?_) (bA 11 127) rfl rfl (by kernel_rfl) (fun _ _ _ h => h) (Or.inl ⟨by rfl, ?_⟩) hHeld ?_ ?_
      rotate_left
      · rintro w' ⟨s0, s1⟩
        go_simp
        with_reducible rfl
      rotate_left
      · simp only [Act.put, List.setIfInBounds_toArray, List.set_cons_zero, List.set_cons_succ, i64_w, i32_w]
        rfl
      refine take_ (i := 7) (N := some 56) (v := ?_) (a' := ?_) (bA 11 255) rfl rfl (by kernel_rfl) (fun _ _ _ h => h) (Or.inl ⟨by rfl, ?_⟩) hHeld ?_ ?_
      rotate_left
      · rintro w' ⟨s0, s1⟩
        go_simp
        with_reducible rfl
      rotate_left
      · simp only [Act.put, List.setIfInBounds_toArray, List.set_cons_zero, List.set_cons_succ, i64_w, i32_w]
        rfl
      refine pure_ (i := 8) (N := some 2) (v := ?_) (a' := ?_) (bA 11 511) rfl rfl (by kernel_rfl) (fun _ _ _ h => h) (Or.inl ⟨by rfl, ?_⟩) ?_ ?_
      rotate_left
      · intro w'
        go_simp
        with_reducible rfl
      rotate_left
      · simp only [Act.put, List.setIfInBounds_toArray, List.set_cons_zero, List.set_cons_succ, i64_w, i32_w]
        rfl
      refine pure_ (i := 9) (N := some 3) (v := ?_) (a' := ?_) (bA 11 1023) rfl rfl (by kernel_rfl) (fun _ _ _ h => h) (Or.inl ⟨by rfl, ?_⟩) ?_ ?_
      rotate_left
      · intro w'
        go_simp
        with_reducible rfl
      rotate_left
      · simp only [Act.put, List.setIfInBounds_toArray, List.set_cons_zero, List.set_cons_succ, i64_w, i32_w]
        rfl
      refine pure_ (i := 10) (N := some 4) (v := ?_) (a' := ?_) (bA 11 2047) rfl rfl (by kernel_rfl) (fun _ _ _ h => h) (Or.inl ⟨by rfl, ?_⟩) ?_ ?_
      rotate_left
      · intro w'
        go_simp
        with_reducible rfl
      rotate_left
      · simp only [Act.put, List.setIfInBounds_toArray, List.set_cons_zero, List.set_cons_succ, i64_w, i32_w]
        rfl
      refine done_ (by kernel_rfl) ?_
      go_wp2
      go_ret3
      exact ⟨_, rfl, Kd.R_mono HS5.out.2.2.2.1 (fun _ _ => trivial), HS5.out.2.2.2.2.2⟩
    | succ m =>
      have hi : decide (0 ≤ x) = true := decide_eq_true (by have := HX.out; omega)
      have hx : x = (m : Int) := by have := HX.out; omega
      have hlt : m < l0.length := HQ.out
      have HXM := Aside0.mk hx
      have HLT := Aside0.mk hlt
      have HLr := Aside0.mk (Kd.C_below HR0.out (Se_B (SeV_Se HS.out)))
      obtain ⟨ad, A4, c4, A6, c6, ea, hx0, hx1, hx2, hx3, hx4, hx5, hx6, hx7, l4, g4, l6, g6⟩ := at_T36 HLr.out x (by omega) (by omega)
      cases ea
      have hr0 := (Kd.R_celln 0 HS.out.2.1 (x + 1) (by omega) (by have := HN.out; omega)).1
      clear hx0 hx1 hx2 hx3 hx4 hx5 hx6 l4 g4 l6 g6 hlt hc0 hc2 hc3 hc4 hc5 hfz
      have p0 := eq_true (show 0 ≤ x by have := HXM.out; omega)
      have p1 := eq_true (show 0 ≤ x + 1 by have := HXM.out; omega)
      have q0 := eq_true (show x < (l0.length : Int) by have h1 := HXM.out; have h2 := HLT.out; omega)
      have q1 := eq_true (show x < (N : Int) by have h1 := HXM.out; have h2 := HLT.out; have h3 := HN.out; omega)
      have q2 := eq_true (show x + 1 < (N : Int) by have h1 := HXM.out; have h2 := HLT.out; have h3 := HN.out; omega)
      have w1 : wrap64 (x + 1) = x + 1 := by have h1 := HXM.out; have h2 := HLT.out; have h3 := HN0.out; rw [wrap64_eq] <;> omega
      have w3_ : wrap64 (x - 1) = x - 1 := by have h1 := HXM.out; have h2 := HLT.out; have h3 := HN0.out; rw [wrap64_eq] <;> omega
      clear hx
      go_upto_region 8 with (fail)
      refine start_ (n := 21) (S := fun w' => w'.cell? ⟨g, 1, none⟩ = some (.slice (some ⟨gr, 0, none⟩) N cr) ∧ w'.cell? ⟨gr, (x + 1).toNat, none⟩ = some (.int .i64 (rd (restG l0 (m + 1)) (x + 1))) ∧ w'.cell? ⟨(ad.add (x.toNat * 8)).block, (ad.add (x.toNat * 8)).off + 7, none⟩ = some (.int .i64 (rd_T36 l0 x).f2)) (ds := [20]) (bA 21 0) (by kernel_rfl) rfl rfl ⟨hc1, hr0, hx7⟩ (fun hHeld => ?_)
      have HS1 := Aside0.mk (SeV_below HS.out (below_drew (Below.refl _ _)))
      clear HS hc1 hx7 hr0 HLr
      generalize wr.drew = W1 at HS1 hHeld ⊢
      refine pure_ (i := 0) (N := some 27) (v := ?_) (a' := ?_) (bA 21 1) rfl rfl (by kernel_rfl) (fun _ _ _ h => h) (Or.inl ⟨by rfl, ?_⟩) ?_ ?_
      rotate_left
      · intro w'
        go_simp
        with_reducible rfl
      rotate_left
      · simp only [Act.put, List.setIfInBounds_toArray, List.set_cons_zero, List.set_cons_succ, i64_w, i32_w]
        rfl
      refine pure_ (i := 1) (N := some 28) (v := ?_) (a' := ?_) (bA 21 3) rfl rfl (by kernel_rfl) (fun _ _ _ h => h) (Or.inl ⟨by rfl, ?_⟩) ?_ ?_
      rotate_left
      · intro w'
        go_simp
        with_reducible rfl
      rotate_left
      · simp only [Act.put, List.setIfInBounds_toArray, List.set_cons_zero, List.set_cons_succ, i64_w, i32_w]
        rfl
      refine pure_ (i := 2) (N := some 29) (v := ?_) (a' := ?_) (bA 21 7) rfl rfl (by kernel_rfl) (fun _ _ _ h => h) (Or.inl ⟨by rfl, ?_⟩) ?_ ?_
      rotate_left
      · intro w'
        go_simp
        with_reducible rfl
      rotate_left
      · simp only [Act.put, List.setIfInBounds_toArray, List.set_cons_zero, List.set_cons_succ, i64_w, i32_w]
        rfl
      refine pure_ (i := 4) (N := some 31) (v := ?_) (a' := ?_) (bA 21 23) rfl rfl (by kernel_rfl) (fun _ _ _ h => h) (Or.inl ⟨by rfl, ?_⟩) ?_ ?_
      rotate_left
      · intro w'
        go_simp
        with_reducible rfl
      rotate_left
      · simp only [Act.put, List.setIfInBounds_toArray, List.set_cons_zero, List.set_cons_succ, i64_w, i32_w]
        rfl
      refine pure_ (i := 5) (N := some 32) (v := ?_) (a' := ?_) (bA 21 55) rfl rfl (by kernel_rfl) (fun _ _ _ h => h) (Or.inl ⟨by rfl, ?_⟩) ?_ ?_
      rotate_left
      · intro w'
        go_simp
        with_reducible rfl
      rotate_left
      · simp only [Act.put, List.setIfInBounds_toArray, List.set_cons_zero, List.set_cons_succ, i64_w, i32_w]
        rfl
      refine pure_ (i := 6) (N := some 33) (v := ?_) (a' := ?_) (bA 21 119) rfl rfl (by kernel_rfl) (fun _ _ _ h => h) (Or.inl ⟨by rfl, ?_⟩) ?_ ?_
      rotate_left
      · intro w'
        go_simp
        with_reducible rfl
      rotate_left
      · simp only [Act.put, List.setIfInBounds_toArray, List.set_cons_zero, List.set_cons_succ, i64_w, i32_w]
        rfl
      refine pure_ (i := 7) (N := some 34) (v := ?_) (a' := ?_) (bA 21 247) rfl rfl (by kernel_rfl) (fun _ _ _ h => h) (Or.inl ⟨by rfl, ?_⟩) ?_ ?_
      rotate_left
      · intro w'
        go_simp
        with_reducible rfl
      rotate_left
      · simp only [Act.put, List.setIfInBounds_toArray, List.set_cons_zero, List.set_cons_succ, i64_w, i32_w]
        rfl
      refine pure_ (i := 9) (N := some 36) (v := ?_) (a' := ?_) (bA 21 759) rfl rfl (by kernel_rfl) (fun _ _ _ h => h) (Or.inl ⟨by rfl, ?_⟩) ?_ ?_
      rotate_left
      · intro w'
        go_simp
        with_reducible rfl
      rotate_left
      · simp only [Act.put, List.setIfInBounds_toArray, List.set_cons_zero, List.set_cons_succ, i64_w, i32_w]
        rfl
      refine pure_ (i := 10) (N := some 37) (v := ?_) (a' := ?_) (bA 21 1783) rfl rfl (by kernel_rfl) (fun _ _ _ h => h) (Or.inl ⟨by rfl, ?_⟩) ?_ ?_
      rotate_left
      · intro w'
        go_simp
        with_reducible rfl
      rotate_left
      · simp only [Act.put, List.setIfInBounds_toArray, List.set_cons_zero, List.set_cons_succ, i64_w, i32_w]
        rfl
      refine pure_ (i := 13) (N := some 40) (v := ?_) (a' := ?_) (bA 21 9975) rfl rfl (by kernel_rfl) (fun _ _ _ h => h) (Or.inl ⟨by rfl, ?_⟩) ?_ ?_
      rotate_left
      · intro w'
        go_simp
        with_reducible rfl
      rotate_left
      · simp only [Act.put, List.setIfInBounds_toArray, List.set_cons_zero, List.set_cons_succ, i64_w, i32_w]
        rfl
      refine pure_ (i := 14) (N := some 41) (v := ?_) (a' := ?_) (bA 21 26359) rfl rfl (by kernel_rfl) (fun _ _ _ h => h) (Or.inl ⟨by rfl, ?_⟩) ?_ ?_
      rotate_left
      · intro w'
        go_simp
        with_reducible rfl
      rotate_left
      · simp only [Act.put, List.setIfInBounds_toArray, List.set_cons_zero, List.set_cons_succ, i64_w, i32_w]
        rfl
      refine pure_ (i := 15) (N := some 42) (v := ?_) (a' := ?_) (bA 21 59127) rfl rfl (by kernel_rfl) (fun _ _ _ h => h) (Or.inl ⟨by rfl, ?_⟩) ?_ ?_
      rotate_left
      · intro w'
        go_simp
        with_reducible rfl
      rotate_left
      · simp only [Act.put, List.setIfInBounds_toArray, List.set_cons_zero, List.set_cons_succ, i64_w, i32_w]
        rfl
      refine pure_ (i := 16) (N := some 43) (v := ?_) (a' := ?_) (bA 21 124663) rfl rfl (by kernel_rfl) (fun _ _ _ h => h) (Or.inl ⟨by rfl, ?_⟩) ?_ ?_
      rotate_left
      · intro w'
        go_simp
        with_reducible rfl
      rotate_left
      · simp only [Act.put, List.setIfInBounds_toArray, List.set_cons_zero, List.set_cons_succ, i64_w, i32_w]
        rfl
      refine take_ (i := 3) (N := some 30) (v := ?_) (a' := ?_) (bA 21 124671) rfl rfl (by kernel_rfl) (fun _ _ _ h => h) (Or.inl ⟨by rfl, ?_⟩) hHeld ?_ ?_
      rotate_left
      · rintro w' ⟨s0, s1, s2⟩
        go_simp
        with_reducible rfl
      rotate_left
      · simp only [Act.put, List.setIfInBounds_toArray, List.set_cons_zero, List.set_cons_succ, i64_w, i32_w]
        rfl
      refine take_ (i := 8) (N := some 35) (v := ?_) (a' := ?_) (bA 21 124927) rfl rfl (by kernel_rfl) (fun _ _ _ h => h) (Or.inl ⟨by rfl, ?_⟩) hHeld ?_ ?_
      rotate_left
      · rintro w' ⟨s0, s1, s2⟩
        go_simp
        with_reducible rfl
      rotate_left
      · simp only [Act.put, List.setIfInBounds_toArray, List.set_cons_zero, List.set_cons_succ, i64_w, i32_w]
        rfl
      refine pure_ (i := 11) (N := some 38) (v := ?_) (a' := ?_) (bA 21 126975) rfl rfl (by kernel_rfl) (fun _ _ _ h => h) (Or.inl ⟨by rfl, ?_⟩) ?_ ?_
      rotate_left
      · intro w'
        go_simp
        with_reducible rfl
      rotate_left
      · simp only [Act.put, List.setIfInBounds_toArray, List.set_cons_zero, List.set_cons_succ, i64_w, i32_w]
        rfl
      refine take_ (i := 12) (N := some 39) (v := ?_) (a' := ?_) (bA 21 131071) rfl rfl (by kernel_rfl) (fun _ _ _ h => h) (Or.inl ⟨by rfl, ?_⟩) hHeld ?_ ?_
      rotate_left
      · rintro w' ⟨s0, s1, s2⟩
        go_simp
        with_reducible rfl
      rotate_left
      · simp only [Act.put, List.setIfInBounds_toArray, List.set_cons_zero, List.set_cons_succ, i64_w, i32_w]
        rfl
      refine take_ (i := 17) (N := some 44) (v := ?_) (a' := ?_) (bA 21 262143) rfl rfl (by kernel_rfl) (fun _ _ _ h => h) (Or.inl ⟨by rfl, ?_⟩) hHeld ?_ ?_
      rotate_left
      · rintro w' ⟨s0, s1, s2⟩
        go_simp
        with_reducible rfl
      rotate_left
      · simp only [Act.put, List.setIfInBounds_toArray, List.set_cons_zero, List.set_cons_succ, i64_w, i32_w]
        rfl
      refine pure_ (i := 18) (N := some 45) (v := ?_) (a' := ?_) (bA 21 524287) rfl rfl (by kernel_rfl) (fun _ _ _ h => h) (Or.inl ⟨by rfl, ?_⟩) ?_ ?_
      rotate_left
      · intro w'
        go_simp
        with_reducible rfl
      rotate_left
      · simp only [Act.put, List.setIfInBounds_toArray, List.set_cons_zero, List.set_cons_succ, i64_w, i32_w]
        rfl
      refine pure_ (i := 19) (N := some 46) (v := ?_) (a' := ?_) (bA 21 1048575) rfl rfl (by kernel_rfl) (fun _ _ _ h => h) (Or.inl ⟨by rfl, ?_⟩) ?_ ?_
      rotate_left
      · intro w'
        go_simp
        with_reducible rfl
      rotate_left
      · simp only [Act.put, List.setIfInBounds_toArray, List.set_cons_zero, List.set_cons_succ, i64_w, i32_w]
        rfl
      clear hHeld
      obtain ⟨hcx, hfx⟩ := Kd.R_celln 0 HS1.out.2.1 x (by have := HXM.out; omega) (by have h1 := HXM.out; have h2 := HLT.out; have h3 := HN.out; omega)
      refine last_ (i := 20) (N := none) (bA 21 2097151) rfl rfl (by kernel_rfl) (by decide) (fun K hK => ?_)
      refine skip_ (w1 := ?_) (by rfl) rfl ?_ ?_
      rotate_left
      · go_simp
        rfl
      refine hK.out _ _ ?_
      clear hK K hcx hfx
      refine done_ (by kernel_rfl) ?_
      have HS2 := Aside0.mk (SeV_rest HS1.out x (wrap64 (rd (restG l0 (m + 1)) (x + 1) + (rd_T36 l0 x).f2)))
      rw [show (restG l0 (m + 1)).set x.toNat (wrap64 (rd (restG l0 (m + 1)) (x + 1) + (rd_T36 l0 x).f2)) = restG l0 m by rw [rest_wrap HK.out HXM.out HLT.out, HXM.out, Int.toNat_natCast]; exact restG_step l0 m HLT.out] at HS2
      go_wp2
      go_roundg m
      case rel => exact ⟨_, by first | rfl | rw [w3_], ⟨by have := HXM.out; omega⟩, ⟨by have := HLT.out; omega⟩, HS2⟩
      case measure => omega

end Go.Proofs.Ytdmhnjpblpfbfaa.Q
