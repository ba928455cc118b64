/- The walk of the law TileTells: it answers true where what it calls answers as is said. Condition: the answers of what it calls. -/
import Derived.Test.YtojehbkadlmbjaaUni
import Derived.Test.YtojehbkadlmbjaaUniV
import Derived.Test.YtojehbkadlmbjaaQf15
import Derived.Test.YtojehbkadlmbjaaQf18
import Derived.Test.YtojehbkadlmbjaaQf19
import Derived.Test.YtojehbkadlmbjaaQf20
import Derived.Test.YtojehbkadlmbjaaQf21
import Derived.Test.YtojehbkadlmbjaaQf22
import Derived.Test.YtojehbkadlmbjaaQf28
import Derived.Test.YtojehbkadlmbjaaQf29
import Derived.Test.YtojehbkadlmbjaaQf30
import Derived.Test.YtojehbkadlmbjaaQf35
import Derived.Test.YtojehbkadlmbjaaQf36
import Derived.Test.YtojehbkadlmbjaaQf37
import Derived.Test.YtojehbkadlmbjaaQf38
import Derived.Test.YtojehbkadlmbjaaQf39
import Derived.Test.YtojehbkadlmbjaaQf40
import Derived.Test.YtojehbkadlmbjaaQf41
import Derived.Test.YtojehbkadlmbjaaQf42
import Derived.Test.YtojehbkadlmbjaaQf43
namespace Go.Proofs.Ytojehbkadlmbjaa.Q
open Go.RowKit Go.Proofs.YtojehbkadlmbjaaW.PrintWords Go.Proofs.YtojehbkadlmbjaaW.PrintLast Go.Proofs.YtojehbkadlmbjaaW.PrintMore
attribute [local go_sem] max2_int min2_int max_two min_two max_three min_three max_four min_four
set_option linter.unusedVariables false
set_option linter.unusedSimpArgs false
attribute [local go_sem high] eqA34 eqA31 eqA44
def E23 (B : Nat) (b0 b1 b2 b3 q0 q1 : Int) : Nat → (Nat → Value) → World → Prop
  | 4, v, w => ∃ g : Nat, v 4 = .pointer (some ⟨g, 0, none⟩) ∧ B ≤ g ∧ (w.heap[g]? = some (.cells #[.int .i64 0, .int .i64 0, .int .i64 0, .int .i64 0] 44 (0, 0)) ∨ w.heap[g]? = some (.cells #[.int .i64 b0, .int .i64 b1, .int .i64 b2, .int .i64 b3] 44 (0, 0)))
  | 5, v, w => ∃ g : Nat, v 5 = .pointer (some ⟨g, 0, none⟩) ∧ B ≤ g ∧ (w.heap[g]? = some (.cells #[.int .i64 0, .int .i64 0] 31 (0, 0)) ∨ w.heap[g]? = some (.cells #[.int .i64 q0, .int .i64 q1] 31 (0, 0)))
  | 6, v, w => ∃ g : Nat, v 4 = .pointer (some ⟨g, 0, none⟩) ∧ w.heap[g]? = some (.cells #[.int .i64 b0, .int .i64 b1, .int .i64 b2, .int .i64 b3] 44 (0, 0))
  | 7, v, w => ∃ g : Nat, v 5 = .pointer (some ⟨g, 0, none⟩) ∧ w.heap[g]? = some (.cells #[.int .i64 q0, .int .i64 q1] 31 (0, 0))
  | _, _, _ => True
theorem E23_st {I : World → Prop} {B : Nat} {b0 b1 b2 b3 q0 q1 : Int} : ∀ i v w w', I w → (Uni.Turn (.cells #[.int .i64 0, .int .i64 0, .int .i64 0, .int .i64 0] 44 (0, 0)) (.cells #[.int .i64 b0, .int .i64 b1, .int .i64 b2, .int .i64 b3] 44 (0, 0)) w w' ∧ Uni.Turn (.cells #[.int .i64 0, .int .i64 0] 31 (0, 0)) (.cells #[.int .i64 q0, .int .i64 q1] 31 (0, 0)) w w') → E23 B b0 b1 b2 b3 q0 q1 i v w → E23 B b0 b1 b2 b3 q0 q1 i v w' := by
  intro i v w w' _ hS h
  unfold E23 at h ⊢
  split
  · obtain ⟨g, h1, h2, h3 | h3⟩ := h
    · exact ⟨g, h1, h2, (hS.1 g).1 h3⟩
    · exact ⟨g, h1, h2, .inr ((hS.1 g).2 h3)⟩
  · obtain ⟨g, h1, h2, h3 | h3⟩ := h
    · exact ⟨g, h1, h2, (hS.2 g).1 h3⟩
    · exact ⟨g, h1, h2, .inr ((hS.2 g).2 h3)⟩
  · obtain ⟨g, h1, h2⟩ := h
    exact ⟨g, h1, (hS.1 g).2 h2⟩
  · obtain ⟨g, h1, h2⟩ := h
    exact ⟨g, h1, (hS.2 g).2 h2⟩
  · trivial
theorem E23_dep {B : Nat} {b0 b1 b2 b3 q0 q1 : Int} : ∀ i v k x w, k ≠ i → k ∉ ([[], [0], [], [2, 1], [], [], [4, 1, 3, 0, 1, 4, 5], [5, 3, 6, 0, 1, 2, 3, 4, 5, 6]] : List (List Nat)).getD i [] → E23 B b0 b1 b2 b3 q0 q1 i v w → E23 B b0 b1 b2 b3 q0 q1 i (Uni.upd v k x) w := by
  intro i v k x w hk hn h
  unfold E23 at h ⊢
  split
  · obtain ⟨g, h1, h2⟩ := h
    exact ⟨g, (if_neg (Ne.symm hk)).trans h1, h2⟩
  · obtain ⟨g, h1, h2⟩ := h
    exact ⟨g, (if_neg (Ne.symm hk)).trans h1, h2⟩
  · obtain ⟨g, h1, h2⟩ := h
    exact ⟨g, (if_neg (fun e : 4 = k => hn (by subst e; decide))).trans h1, h2⟩
  · obtain ⟨g, h1, h2⟩ := h
    exact ⟨g, (if_neg (fun e : 5 = k => hn (by subst e; decide))).trans h1, h2⟩
  · trivial
set_option maxHeartbeats 8000000 in
set_option maxRecDepth 100000 in
theorem tells_calls (k : Nat) (a0 a1 a2 y0 y1 y2 p0 p1 z side o o0 o1 o2 e u0 u1 u2 f g b0 b1 b2 b3 q0 q1 l0 l1 w0 w1 : Int) (ok lt v : Bool) (ks : List S34) (w : World)
    (s1 : terrlaw5_tiles.f = some true) (s2 : ((z < 0 ∨ 10 < z) ∧ side = 0) ∨ (0 ≤ z ∧ z ≤ 10 ∧ wrap64 (Int.tdiv 2097152 (shl .i64 1 z)) = side ∧ ¬ shl .i64 1 z = 0)) (s3 : tile_Side.f z = some side) (s4 : tile_Unit.f z = some (wrap64 (Int.tdiv side 256))) (s5 : tile_Ok.f a0 a1 a2 = some ok) (s6 : terrref5_TileOk.f k a0 a1 a2 = some ok) (s7 : terrref5_Order.f a0 a1 a2 y0 y1 y2 = some o) (s8 : tile_Less.f a0 a1 a2 y0 y1 y2 = some lt) (s9 : mx (mx (mx a1 a2) y1) y2 < 1099511627776 → mn (mn (mn a1 a2) y1) y2 > -1099511627776 → lt = (decide (a0 < y0) || (decide (a0 = y0) && decide (o < 0)))) (sa : tile_Of.f p0 p1 z = some (o0, o1, o2, e)) (sb : terrref5_Valid.f p0 p1 = some v) (sc : ((side = 0 ∨ v = false) ∧ e = 1 ∧ o0 = 0 ∧ o1 = 0 ∧ o2 = 0) ∨ (¬ side = 0 ∧ v = true ∧ e = 0 ∧ terrref5_TileOf.f k p0 p1 z = some (o0, o1, o2))) (sd : tile_Up.f a0 a1 a2 = some (u0, u1, u2, f)) (se : tile_Kids.f k a0 a1 a2 = some (ks, g)) (sf : tile_Box.f a0 a1 a2 = some (b0, b1, b2, b3)) (sg : tile_Local.f a0 a1 a2 p0 p1 = some (l0, l1)) (sh : tile_World.f a0 a1 a2 p0 p1 = some (w0, w1)) (si : (ok = false ∧ u0 = 0 ∧ u1 = 0 ∧ u2 = 0 ∧ f = 1 ∧ ks = [] ∧ g = 1 ∧ b0 = 0 ∧ b1 = 0 ∧ b2 = 0 ∧ b3 = 0 ∧ l0 = 0 ∧ l1 = 0 ∧ w0 = 0 ∧ w1 = 0) ∨ (ok = true ∧ terrref5_TileBox.f k a0 a1 a2 = some (b0, b1, b2, b3) ∧ terrlaw5_family.f k a0 a1 a2 u0 u1 u2 f ks g = some true ∧ terrref5_Clamped.f p0 p1 = some (q0, q1) ∧ w0 = wrap64 (b0 + wrap64 (q0 * (wrap64 (Int.tdiv (wrap64 (b2 - b0)) 256)))) ∧ w1 = wrap64 (b1 + wrap64 (q1 * (wrap64 (Int.tdiv (wrap64 (b2 - b0)) 256)))) ∧ 0 ≤ (wrap64 (wrap64 (q0 - b0) - wrap64 (l0 * (wrap64 (Int.tdiv (wrap64 (b2 - b0)) 256))))) ∧ (wrap64 (wrap64 (q0 - b0) - wrap64 (l0 * (wrap64 (Int.tdiv (wrap64 (b2 - b0)) 256))))) < (wrap64 (Int.tdiv (wrap64 (b2 - b0)) 256)) ∧ 0 ≤ (wrap64 (wrap64 (q1 - b1) - wrap64 (l1 * (wrap64 (Int.tdiv (wrap64 (b2 - b0)) 256))))) ∧ (wrap64 (wrap64 (q1 - b1) - wrap64 (l1 * (wrap64 (Int.tdiv (wrap64 (b2 - b0)) 256))))) < (wrap64 (Int.tdiv (wrap64 (b2 - b0)) 256)))) :
    Calls Try.prog 10 #[.agg #[.int .i64 a0, .int .i64 a1, .int .i64 a2], .agg #[.int .i64 y0, .int .i64 y1, .int .i64 y2], .agg #[.int .i64 p0, .int .i64 p1], .int .i64 z] w fun e w' => e = .returned (.bool true) ∧ Below w.heap.size w w' := by
  have hu34 := Try.underlying34
  have hu31 := Try.underlying31
  have hu44 := Try.underlying44
  have S1 := Aside0.mk s1
  have S2 := Aside0.mk s2
  have S3 := Aside0.mk s3
  have S4 := Aside0.mk s4
  have S5 := Aside0.mk s5
  have S6 := Aside0.mk s6
  have S7 := Aside0.mk s7
  have S8 := Aside0.mk s8
  have S9 := Aside0.mk s9
  have SA := Aside0.mk sa
  have SB := Aside0.mk sb
  have SC := Aside0.mk sc
  have SD := Aside0.mk sd
  have SE := Aside0.mk se
  have SF := Aside0.mk sf
  have SG := Aside0.mk sg
  have SH := Aside0.mk sh
  have SI := Aside0.mk si
  clear s1 s2 s3 s4 s5 s6 s7 s8 s9 sa sb sc sd se sf sg sh si
  have HB := Aside0.mk (Below.refl w.heap.size w)
  go_enter Try.func10, Try.ntmps10
  go_upto_region 4 with (first | ((with_reducible refine gate_dst (N := 4) rfl ?_); refine box_event ?hg (N := 4) ?hd (cs := #[.int .i64 a0, .int .i64 a1, .int .i64 a2]) (t := 34) ?hr ?_; (case hd => rfl); (case hg => rfl); (case hr => first | (go_simp; done) | (go_simp; rfl)); intro g4 hg w4 hbox hb; have BK4 := Aside0.mk hbox; replace HB := Aside0.mk (below_step (by repeat (first | (with_reducible first | exact HB.out | apply below_alloc | apply pw_below_drewN | apply below_drew1) | exact HB.out)) hb); clear hb hbox hg) | ((with_reducible refine gate_dst (N := 5) rfl ?_); refine box_event ?hg (N := 5) ?hd (cs := #[.int .i64 y0, .int .i64 y1, .int .i64 y2]) (t := 34) ?hr ?_; (case hd => rfl); (case hg => rfl); (case hr => first | (go_simp; done) | (go_simp; rfl)); intro g5 hg w5 hbox hb; have BK5 := Aside0.mk hbox; replace BK4 := Aside0.mk (blk_below BK4.out hb); replace HB := Aside0.mk (below_step (by repeat (first | (with_reducible first | exact HB.out | apply below_alloc | apply pw_below_drewN | apply below_drew1) | exact HB.out)) hb); clear hb hbox hg) | ((with_reducible refine gate_dst (N := 6) rfl ?_); refine box_event ?hg (N := 6) ?hd (cs := #[.int .i64 p0, .int .i64 p1]) (t := 31) ?hr ?_; (case hd => rfl); (case hg => rfl); (case hr => first | (go_simp; done) | (go_simp; rfl)); intro g6 hg w6 hbox hb; have BK6 := Aside0.mk hbox; replace BK4 := Aside0.mk (blk_below BK4.out hb); replace BK5 := Aside0.mk (blk_below BK5.out hb); replace HB := Aside0.mk (below_step (by repeat (first | (with_reducible first | exact HB.out | apply below_alloc | apply pw_below_drewN | apply below_drew1) | exact HB.out)) hb); clear hb hbox hg) | ((with_reducible refine gate_callee (f := 36) rfl ?_); refine goesL_ (some 24) rfl rfl Try.func36 (by kernel_rfl) rfl #[] rfl (by (try simp only [List.map_toArray, List.map_cons, List.map_nil]); first | done | rfl) ?_; (refine (terrlaw5_tiles.calls true _ S1.out).mono ?_); rintro e_ w7 ⟨rfl, hb0⟩; have hb := hb0.below; refine ⟨_, rfl, ?_⟩; replace BK4 := Aside0.mk (blk_below BK4.out hb); replace BK5 := Aside0.mk (blk_below BK5.out hb); replace BK6 := Aside0.mk (blk_below BK6.out hb); replace HB := Aside0.mk (below_step (by repeat (first | (with_reducible first | exact HB.out | apply below_alloc | apply pw_below_drewN | apply below_drew1) | exact HB.out)) hb); clear hb hb0))
  (try simp only [Act.put, List.setIfInBounds_toArray, List.set_cons_zero, List.set_cons_succ])
  have HS := Aside0.mk (Below.refl w7.heap.size w7)
  obtain ⟨zin, hz⟩ : ∃ b : Bool, b = decide (0 ≤ z ∧ z ≤ 10) := ⟨_, rfl⟩
  go_cut [31] from 24 to 31 (fun v31 wc => v31 = .bool zin ∧ Aside0 (Below w7.heap.size w7 wc))
  case first =>
    by_cases h1 : 0 ≤ z
    case neg =>
      have e : zin = false := by rw [hz]; exact decide_eq_false (by omega)
      have c0 : decide (0 ≤ z) = false := decide_eq_false h1
      clear h1 hz
      subst e
      go_wp2
      go_meet
      case rel => exact ⟨rfl, ⟨(by repeat (first | (with_reducible first | exact HS.out | apply below_alloc | apply pw_below_drewN | apply below_drew1) | exact HS.out))⟩⟩
    have c0 : decide (0 ≤ z) = true := decide_eq_true h1
    by_cases h2 : z ≤ 10
    case neg =>
      have e : zin = false := by rw [hz]; exact decide_eq_false (by omega)
      have c1 : decide (z ≤ 10) = false := decide_eq_false h2
      clear h1 h2 hz
      subst e
      go_wp2
      go_meet
      case rel => exact ⟨rfl, ⟨(by repeat (first | (with_reducible first | exact HS.out | apply below_alloc | apply pw_below_drewN | apply below_drew1) | exact HS.out))⟩⟩
    have e : zin = true := by rw [hz]; exact decide_eq_true ⟨h1, h2⟩
    have c1 : decide (z ≤ 10) = true := decide_eq_true h2
    clear h1 h2 hz
    subst e
    go_wp2
    go_meet
    case rel => exact ⟨rfl, ⟨(by repeat (first | (with_reducible first | exact HS.out | apply below_alloc | apply pw_below_drewN | apply below_drew1) | exact HS.out))⟩⟩
  case rest =>
    clear HS
    obtain ⟨rfl, HS⟩ := hcut
    go_upto_if 31 with (fail)
    go_cut [9] from 24 to 34 (fun v9 wc => v9 = .int .i64 side ∧ Aside0 (Below w7.heap.size w7 wc))
    case first =>
      rcases S2.out with ⟨h1, h2⟩ | ⟨h1, h1', h3, h4⟩
      · have e : zin = false := by rw [hz]; exact decide_eq_false (by omega)
        clear hz h1
        subst e
        subst h2
        go_wp2
        go_meet
        case rel => exact ⟨rfl, ⟨(by repeat (first | (with_reducible first | exact HS.out | apply below_alloc | apply pw_below_drewN | apply below_drew1) | exact HS.out))⟩⟩
      · have e : zin = true := by rw [hz]; exact decide_eq_true ⟨h1, h1'⟩
        have c0 : decide (0 ≤ z) = true := decide_eq_true h1
        have c2 := eq_true h1
        clear h1' hz
        subst e
        obtain ⟨ji, hji⟩ : ∃ j_ : Int, (shl .i64 1 z) = j_ := ⟨_, rfl⟩
        rw [hji] at h3 h4
        have hji_ : (IntKind.i64.wrap (1 * 2 ^ min z.toNat 64)) = ji := hji
        have hjiz : z ≤ 64 → (IntKind.i64.wrap (1 * 2 ^ z.toNat)) = ji := shl_small hji
        have hjiu : (IntKind.i64.wrap (2 ^ min z.toNat 64)) = ji := by have h_ := hji_; rw [Int.one_mul] at h_; exact h_
        have hjiv : z ≤ 64 → (IntKind.i64.wrap (2 ^ z.toNat)) = ji := fun hle_ => by have h_ := hjiz hle_; rw [Int.one_mul] at h_; exact h_
        have hjiy : (wrap64 (1 * 2 ^ min z.toNat 64)) = ji := (i64_w _).symm.trans hji_
        have hjix : z ≤ 64 → (wrap64 (1 * 2 ^ z.toNat)) = ji := fun h_ => (i64_w _).symm.trans (hjiz h_)
        have c3 : (ji == 0) = false := beq_eq_false_iff_ne.mpr h4
        have c4 : (ji != 0) = true := bne_iff_ne.mpr h4
        subst h3
        clear h1
        go_wp2
        go_meet
        case rel => exact ⟨by first | rfl | (simp only [← hji] <;> (first | rfl | simp)) | (simp [*]; done), ⟨(by repeat (first | (with_reducible first | exact HS.out | apply below_alloc | apply pw_below_drewN | apply below_drew1) | exact HS.out))⟩⟩
    case rest =>
      clear HS
      obtain ⟨rfl, HS⟩ := hcut
      go_upto_region 6 with (fail)
      go_cut [52] from 35 to 52 (fun v52 wc => v52 = .bool false ∧ Aside0 (Below w7.heap.size w7 wc))
      case first =>
        refine Uni.uni_ (fun w1 => Below w7.heap.size w7 w1) (fun w1 w2 => Below w1.heap.size w1 w2) (Uni.RV [some (.int .i64 z), some (.int .i64 side), some (.int .i64 side), some (.bool false), some (.bool false), some (.int .i64 z), some (.int .i64 (wrap64 (Int.tdiv side 256))), some (.int .i64 side), some (.int .i64 (wrap64 (Int.tdiv side 256))), some (.bool false), some (.bool false), some (.bool false), some (.agg #[.int .i64 a0, .int .i64 a1, .int .i64 a2]), some (.bool ok), some (.agg #[.int .i64 a0, .int .i64 a1, .int .i64 a2]), some (.bool ok), some (.bool false), some (.bool false)] (fun i x w1 => True)) [some 35, some 36, some 37, some 38, some 39, some 40, some 41, some 42, some 43, some 44, some 45, some 46, some 47, some 48, some 49, some 50, some 51, some 52] [[], [0], [], [1, 2], [3, 1], [4], [5, 4, 4], [4], [7, 4], [6, 8, 4], [4, 9], [10, 6], [11], [12, 11, 11], [11], [14, 13, 11], [13, 15, 11], [11, 16]] (by kernel_rfl) (by kernel_rfl) (by kernel_rfl) (by kernel_rfl) (by kernel_rfl) (Uni.RV_st (fun _ _ _ _ _ _ h => h)) (below_drew1 HS.out) ⟨?_, ?_, ?_, ?_, ?_, ?_, ?_, ?_, ?_, ?_, ?_, ?_, ?_, ?_, ?_, ?_, ?_, ?_, trivial⟩ ?_
        · rintro v w' hI - a' ha K hK
          simp only [Uni.fill, Uni.fillT, List.setIfInBounds_toArray, List.set_cons_zero, List.set_cons_succ, Nat.zero_add, Nat.reduceAdd] at ha
          subst ha
          skip
          refine event_step (by rfl) (w1 := w') (v := .int .i64 z) ?_ (hK _ _ hI (Below.refl _ _) rfl)
          go_simp
          try rfl
        · rintro v w' hI ⟨h0, -⟩ a' ha K hK
          have e0 : v 0 = .int .i64 z := h0
          simp only [Uni.fill, Uni.fillT, List.setIfInBounds_toArray, List.set_cons_zero, List.set_cons_succ, Nat.zero_add, Nat.reduceAdd, e0] at ha
          subst ha
          clear e0
          refine goes_ Try.func29 (by kernel_rfl) rfl #[.int .i64 z] (by rfl) rfl rfl (by (try simp only [List.map_toArray, List.map_cons, List.map_nil]); first | done | rfl) ?_
          refine (tile_Side.calls z side _ S3.out).mono ?_
          rintro e_ w2 ⟨rfl, hb0⟩; have hb := hb0.below
          exact ⟨_, rfl, hK _ _ (below_step hI hb) hb rfl⟩
        · rintro v w' hI - a' ha K hK
          simp only [Uni.fill, Uni.fillT, List.setIfInBounds_toArray, List.set_cons_zero, List.set_cons_succ, Nat.zero_add, Nat.reduceAdd] at ha
          subst ha
          skip
          refine event_step (by rfl) (w1 := w') (v := .int .i64 side) ?_ (hK _ _ hI (Below.refl _ _) rfl)
          go_simp
          try rfl
        · rintro v w' hI ⟨h1, h2, -⟩ a' ha K hK
          have e1 : v 1 = .int .i64 side := h1
          have e2 : v 2 = .int .i64 side := h2
          simp only [Uni.fill, Uni.fillT, List.setIfInBounds_toArray, List.set_cons_zero, List.set_cons_succ, Nat.zero_add, Nat.reduceAdd, e1, e2] at ha
          subst ha
          clear e1 e2
          refine event_step (by rfl) (w1 := w') (v := .bool false) ?_ (hK _ _ hI (Below.refl _ _) rfl)
          go_simp
          try rfl
        · rintro v w' hI ⟨h3, h1, -⟩ a' ha K hK
          have e3 : v 3 = .bool false := h3
          have e1 : v 1 = .int .i64 side := h1
          simp only [Uni.fill, Uni.fillT, List.setIfInBounds_toArray, List.set_cons_zero, List.set_cons_succ, Nat.zero_add, Nat.reduceAdd, e3, e1] at ha
          subst ha
          clear e3 e1
          refine event_step (by rfl) (w1 := w') (v := .bool false) ?_ (hK _ _ hI (Below.refl _ _) rfl)
          go_simp
          try rfl
        · rintro v w' hI ⟨h4, -⟩ a' ha K hK
          have e4 : v 4 = .bool false := h4
          simp only [Uni.fill, Uni.fillT, List.setIfInBounds_toArray, List.set_cons_zero, List.set_cons_succ, Nat.zero_add, Nat.reduceAdd, e4] at ha
          subst ha
          clear e4
          refine event_step (by rfl) (w1 := w') (v := .int .i64 z) ?_ (hK _ _ hI (Below.refl _ _) rfl)
          go_simp
          try rfl
        · rintro v w' hI ⟨h5, h4, _, -⟩ a' ha K hK
          have e5 : v 5 = .int .i64 z := h5
          have e4 : v 4 = .bool false := h4
          simp only [Uni.fill, Uni.fillT, List.setIfInBounds_toArray, List.set_cons_zero, List.set_cons_succ, Nat.zero_add, Nat.reduceAdd, e5, e4] at ha
          subst ha
          clear e5 e4
          refine goes_ Try.func15 (by kernel_rfl) rfl #[.int .i64 z] (by rfl) rfl rfl (by (try simp only [List.map_toArray, List.map_cons, List.map_nil]); first | done | rfl) ?_
          refine (tile_Unit.calls z _ _ S4.out).mono ?_
          rintro e_ w2 ⟨rfl, hb0⟩; have hb := hb0.below
          exact ⟨_, rfl, hK _ _ (below_step hI hb) hb rfl⟩
        · rintro v w' hI ⟨h4, -⟩ a' ha K hK
          have e4 : v 4 = .bool false := h4
          simp only [Uni.fill, Uni.fillT, List.setIfInBounds_toArray, List.set_cons_zero, List.set_cons_succ, Nat.zero_add, Nat.reduceAdd, e4] at ha
          subst ha
          clear e4
          refine event_step (by rfl) (w1 := w') (v := .int .i64 side) ?_ (hK _ _ hI (Below.refl _ _) rfl)
          go_simp
          try rfl
        · rintro v w' hI ⟨h7, h4, -⟩ a' ha K hK
          have e7 : v 7 = .int .i64 side := h7
          have e4 : v 4 = .bool false := h4
          simp only [Uni.fill, Uni.fillT, List.setIfInBounds_toArray, List.set_cons_zero, List.set_cons_succ, Nat.zero_add, Nat.reduceAdd, e7, e4] at ha
          subst ha
          clear e7 e4
          refine event_step (by rfl) (w1 := w') (v := .int .i64 (wrap64 (Int.tdiv side 256))) ?_ (hK _ _ hI (Below.refl _ _) rfl)
          go_simp
          try exact i64_w _
        · rintro v w' hI ⟨h6, h8, h4, -⟩ a' ha K hK
          have e6 : v 6 = .int .i64 (wrap64 (Int.tdiv side 256)) := h6
          have e8 : v 8 = .int .i64 (wrap64 (Int.tdiv side 256)) := h8
          have e4 : v 4 = .bool false := h4
          simp only [Uni.fill, Uni.fillT, List.setIfInBounds_toArray, List.set_cons_zero, List.set_cons_succ, Nat.zero_add, Nat.reduceAdd, e6, e8, e4] at ha
          subst ha
          clear e6 e8 e4
          refine event_step (by rfl) (w1 := w') (v := .bool false) ?_ (hK _ _ hI (Below.refl _ _) rfl)
          go_simp
          try rfl
        · rintro v w' hI ⟨h4, h9, -⟩ a' ha K hK
          have e4 : v 4 = .bool false := h4
          have e9 : v 9 = .bool false := h9
          simp only [Uni.fill, Uni.fillT, List.setIfInBounds_toArray, List.set_cons_zero, List.set_cons_succ, Nat.zero_add, Nat.reduceAdd, e4, e9] at ha
          subst ha
          clear e4 e9
          refine event_step (by rfl) (w1 := w') (v := .bool false) ?_ (hK _ _ hI (Below.refl _ _) rfl)
          go_simp
          try rfl
        · rintro v w' hI ⟨h10, h6, -⟩ a' ha K hK
          have e10 : v 10 = .bool false := h10
          have e6 : v 6 = .int .i64 (wrap64 (Int.tdiv side 256)) := h6
          simp only [Uni.fill, Uni.fillT, List.setIfInBounds_toArray, List.set_cons_zero, List.set_cons_succ, Nat.zero_add, Nat.reduceAdd, e10, e6] at ha
          subst ha
          clear e10 e6
          refine event_step (by rfl) (w1 := w') (v := .bool false) ?_ (hK _ _ hI (Below.refl _ _) rfl)
          go_simp
          try rfl
        · rintro v w' hI ⟨h11, -⟩ a' ha K hK
          have e11 : v 11 = .bool false := h11
          simp only [Uni.fill, Uni.fillT, List.setIfInBounds_toArray, List.set_cons_zero, List.set_cons_succ, Nat.zero_add, Nat.reduceAdd, e11] at ha
          subst ha
          clear e11
          have hs4_0 : w'.cell? ⟨g4, 0, none⟩ = some (.int .i64 a0) := (blk_cell (blk_below BK4.out hI) 0).trans rfl
          have hs4_1 : w'.cell? ⟨g4, 1, none⟩ = some (.int .i64 a1) := (blk_cell (blk_below BK4.out hI) 1).trans rfl
          have hs4_2 : w'.cell? ⟨g4, 2, none⟩ = some (.int .i64 a2) := (blk_cell (blk_below BK4.out hI) 2).trans rfl
          refine event_step (by rfl) (w1 := w') (v := .agg #[.int .i64 a0, .int .i64 a1, .int .i64 a2]) ?_ (hK _ _ hI (Below.refl _ _) rfl)
          go_simp
          try rfl
        · rintro v w' hI ⟨h12, h11, _, -⟩ a' ha K hK
          have e12 : v 12 = .agg #[.int .i64 a0, .int .i64 a1, .int .i64 a2] := h12
          have e11 : v 11 = .bool false := h11
          simp only [Uni.fill, Uni.fillT, List.setIfInBounds_toArray, List.set_cons_zero, List.set_cons_succ, Nat.zero_add, Nat.reduceAdd, e12, e11] at ha
          subst ha
          clear e12 e11
          refine goes_ Try.func37 (by kernel_rfl) rfl #[.agg #[.int .i64 a0, .int .i64 a1, .int .i64 a2]] (by rfl) rfl rfl (by (try simp only [List.map_toArray, List.map_cons, List.map_nil]); first | done | rfl) ?_
          refine (tile_Ok.calls a0 a1 a2 ok _ S5.out).mono ?_
          rintro e_ w2 ⟨rfl, hb⟩
          exact ⟨_, rfl, hK _ _ (below_step hI hb) hb rfl⟩
        · rintro v w' hI ⟨h11, -⟩ a' ha K hK
          have e11 : v 11 = .bool false := h11
          simp only [Uni.fill, Uni.fillT, List.setIfInBounds_toArray, List.set_cons_zero, List.set_cons_succ, Nat.zero_add, Nat.reduceAdd, e11] at ha
          subst ha
          clear e11
          have hs4_0 : w'.cell? ⟨g4, 0, none⟩ = some (.int .i64 a0) := (blk_cell (blk_below BK4.out hI) 0).trans rfl
          have hs4_1 : w'.cell? ⟨g4, 1, none⟩ = some (.int .i64 a1) := (blk_cell (blk_below BK4.out hI) 1).trans rfl
          have hs4_2 : w'.cell? ⟨g4, 2, none⟩ = some (.int .i64 a2) := (blk_cell (blk_below BK4.out hI) 2).trans rfl
          refine event_step (by rfl) (w1 := w') (v := .agg #[.int .i64 a0, .int .i64 a1, .int .i64 a2]) ?_ (hK _ _ hI (Below.refl _ _) rfl)
          go_simp
          try rfl
        · rintro v w' hI ⟨h14, h13, h11, -⟩ a' ha K hK
          have e14 : v 14 = .agg #[.int .i64 a0, .int .i64 a1, .int .i64 a2] := h14
          have e13 : v 13 = .bool ok := h13
          have e11 : v 11 = .bool false := h11
          simp only [Uni.fill, Uni.fillT, List.setIfInBounds_toArray, List.set_cons_zero, List.set_cons_succ, Nat.zero_add, Nat.reduceAdd, e14, e13, e11] at ha
          subst ha
          clear e14 e13 e11
          refine goes_ Try.func38 (by kernel_rfl) rfl #[.agg #[.int .i64 a0, .int .i64 a1, .int .i64 a2]] (by rfl) rfl rfl (by (try simp only [List.map_toArray, List.map_cons, List.map_nil]); first | done | rfl) ?_
          refine (terrref5_TileOk.calls k a0 a1 a2 ok _ S6.out).mono ?_
          rintro e_ w2 ⟨rfl, hb⟩
          exact ⟨_, rfl, hK _ _ (below_step hI hb) hb rfl⟩
        · rintro v w' hI ⟨h13, h15, h11, -⟩ a' ha K hK
          have e13 : v 13 = .bool ok := h13
          have e15 : v 15 = .bool ok := h15
          have e11 : v 11 = .bool false := h11
          simp only [Uni.fill, Uni.fillT, List.setIfInBounds_toArray, List.set_cons_zero, List.set_cons_succ, Nat.zero_add, Nat.reduceAdd, e13, e15, e11] at ha
          subst ha
          clear e13 e15 e11
          refine event_step (by rfl) (w1 := w') (v := .bool false) ?_ (hK _ _ hI (Below.refl _ _) rfl)
          go_simp
          try rfl
        · rintro v w' hI ⟨h11, h16, -⟩ a' ha K hK
          have e11 : v 11 = .bool false := h11
          have e16 : v 16 = .bool false := h16
          simp only [Uni.fill, Uni.fillT, List.setIfInBounds_toArray, List.set_cons_zero, List.set_cons_succ, Nat.zero_add, Nat.reduceAdd, e11, e16] at ha
          subst ha
          clear e11 e16
          refine event_step (by rfl) (w1 := w') (v := .bool false) ?_ (hK _ _ hI (Below.refl _ _) rfl)
          go_simp
          try rfl
        · intro v w' hI hR a' ha
          have e17 : v 17 = .bool false := hR 17 (by decide)
          simp only [Uni.fill, Uni.fillT, List.setIfInBounds_toArray, List.set_cons_zero, List.set_cons_succ, Nat.zero_add, Nat.reduceAdd, e17] at ha
          subst ha
          go_wp2_with (fail)
          go_meet
          case rel => exact ⟨rfl, ⟨hI⟩⟩
      case rest =>
        clear HS
        obtain ⟨rfl, HS⟩ := hcut
        go_upto_region 8 with (fail)
        go_cut [10] from 53 to 70 (fun v10 wc => v10 = .bool (decide (a0 < y0) || (decide (a0 = y0) && decide (o < 0))) ∧ Aside0 (Below w7.heap.size w7 wc))
        case first =>
          have hc4_0 : wc.cell? ⟨g4, 0, none⟩ = some (.int .i64 a0) := (blk_cell (blk_below BK4.out HS.out) 0).trans rfl
          have hc4_1 : wc.cell? ⟨g4, 1, none⟩ = some (.int .i64 a1) := (blk_cell (blk_below BK4.out HS.out) 1).trans rfl
          have hc4_2 : wc.cell? ⟨g4, 2, none⟩ = some (.int .i64 a2) := (blk_cell (blk_below BK4.out HS.out) 2).trans rfl
          have hf4_0 := blk_frozen (blk_below BK4.out HS.out) 0
          have hf4_1 := blk_frozen (blk_below BK4.out HS.out) 1
          have hf4_2 := blk_frozen (blk_below BK4.out HS.out) 2
          have hc5_0 : wc.cell? ⟨g5, 0, none⟩ = some (.int .i64 y0) := (blk_cell (blk_below BK5.out HS.out) 0).trans rfl
          have hc5_1 : wc.cell? ⟨g5, 1, none⟩ = some (.int .i64 y1) := (blk_cell (blk_below BK5.out HS.out) 1).trans rfl
          have hc5_2 : wc.cell? ⟨g5, 2, none⟩ = some (.int .i64 y2) := (blk_cell (blk_below BK5.out HS.out) 2).trans rfl
          have hf5_0 := blk_frozen (blk_below BK5.out HS.out) 0
          have hf5_1 := blk_frozen (blk_below BK5.out HS.out) 1
          have hf5_2 := blk_frozen (blk_below BK5.out HS.out) 2
          by_cases d1 : a0 < y0
          · have c0_ : decide (a0 < y0) = true := decide_eq_true d1
            clear d1
            go_wp2
            go_meet
            case rel => exact ⟨by rw [c0_, Bool.true_or], ⟨(by repeat (first | (with_reducible first | exact HS.out | apply below_alloc | apply pw_below_drewN | apply below_drew1) | exact HS.out))⟩⟩
          have c0_ : decide (a0 < y0) = false := decide_eq_false d1
          by_cases d2 : a0 = y0
          · have c1_ : (a0 == y0) = true := beq_iff_eq.mpr d2
            have c2_ : (a0 != y0) = false := bne_eq_false_iff_eq.mpr d2
            have c3_ : decide (a0 = y0) = true := decide_eq_true d2
            clear d1 d2
            go_wp2_with (first | (go_at_call 39; refine (terrref5_Order.calls a0 a1 a2 y0 y1 y2 o _ S7.out).mono ?_; rintro e_ w8 ⟨rfl, hb⟩; replace HS := Aside0.mk (below_step (by repeat (first | (with_reducible first | exact HS.out | apply below_alloc | apply pw_below_drewN | apply below_drew1) | exact HS.out)) hb); clear hb))
            go_meet
            case rel => exact ⟨by rw [c0_, c3_, Bool.false_or, Bool.true_and], ⟨(by repeat (first | (with_reducible first | exact HS.out | apply below_alloc | apply pw_below_drewN | apply below_drew1) | exact HS.out))⟩⟩
          · have c1_ : (a0 == y0) = false := beq_eq_false_iff_ne.mpr d2
            have c2_ : (a0 != y0) = true := bne_iff_ne.mpr d2
            have c3_ : decide (a0 = y0) = false := decide_eq_false d2
            clear d1 d2
            go_wp2
            go_meet
            case rel => exact ⟨by rw [c0_, c3_, Bool.false_or, Bool.false_and], ⟨(by repeat (first | (with_reducible first | exact HS.out | apply below_alloc | apply pw_below_drewN | apply below_drew1) | exact HS.out))⟩⟩
        case rest =>
          clear HS
          obtain ⟨rfl, HS⟩ := hcut
          generalize hless : (decide (a0 < y0) || (decide (a0 = y0) && decide (o < 0))) = less at *
          go_upto_region 9 with (fail)
          go_cut [99] from 71 to 99 (fun v99 wc => v99 = .bool false ∧ Aside0 (Below w7.heap.size w7 wc))
          case first =>
            have hc4_0 : wc.cell? ⟨g4, 0, none⟩ = some (.int .i64 a0) := (blk_cell (blk_below BK4.out HS.out) 0).trans rfl
            have hc4_1 : wc.cell? ⟨g4, 1, none⟩ = some (.int .i64 a1) := (blk_cell (blk_below BK4.out HS.out) 1).trans rfl
            have hc4_2 : wc.cell? ⟨g4, 2, none⟩ = some (.int .i64 a2) := (blk_cell (blk_below BK4.out HS.out) 2).trans rfl
            have hf4_0 := blk_frozen (blk_below BK4.out HS.out) 0
            have hf4_1 := blk_frozen (blk_below BK4.out HS.out) 1
            have hf4_2 := blk_frozen (blk_below BK4.out HS.out) 2
            have hc5_0 : wc.cell? ⟨g5, 0, none⟩ = some (.int .i64 y0) := (blk_cell (blk_below BK5.out HS.out) 0).trans rfl
            have hc5_1 : wc.cell? ⟨g5, 1, none⟩ = some (.int .i64 y1) := (blk_cell (blk_below BK5.out HS.out) 1).trans rfl
            have hc5_2 : wc.cell? ⟨g5, 2, none⟩ = some (.int .i64 y2) := (blk_cell (blk_below BK5.out HS.out) 2).trans rfl
            have hf5_0 := blk_frozen (blk_below BK5.out HS.out) 0
            have hf5_1 := blk_frozen (blk_below BK5.out HS.out) 1
            have hf5_2 := blk_frozen (blk_below BK5.out HS.out) 2
            have S9' := S9.out
            obtain ⟨m0, hm0⟩ : ∃ x, x = mx a1 a2 := ⟨_, rfl⟩
            rw [← hm0] at S9'
            have hm0_ : (if a1 < a2 then a2 else a1) = m0 := hm0.symm
            clear hm0
            obtain ⟨m1, hm1⟩ : ∃ x, x = mx m0 y1 := ⟨_, rfl⟩
            rw [← hm1] at S9'
            have hm1_ : (if m0 < y1 then y1 else m0) = m1 := hm1.symm
            clear hm1
            obtain ⟨m2, hm2⟩ : ∃ x, x = mx m1 y2 := ⟨_, rfl⟩
            rw [← hm2] at S9'
            have hm2_ : (if m1 < y2 then y2 else m1) = m2 := hm2.symm
            clear hm2
            obtain ⟨n0, hn0⟩ : ∃ x, x = mn a1 a2 := ⟨_, rfl⟩
            rw [← hn0] at S9'
            have hn0_ : (if a2 < a1 then a2 else a1) = n0 := hn0.symm
            clear hn0
            obtain ⟨n1, hn1⟩ : ∃ x, x = mn n0 y1 := ⟨_, rfl⟩
            rw [← hn1] at S9'
            have hn1_ : (if y1 < n0 then y1 else n0) = n1 := hn1.symm
            clear hn1
            obtain ⟨n2, hn2⟩ : ∃ x, x = mn n1 y2 := ⟨_, rfl⟩
            rw [← hn2] at S9'
            have hn2_ : (if y2 < n1 then y2 else n1) = n2 := hn2.symm
            clear hn2
            by_cases d1 : m2 < 1099511627776
            case neg =>
              have c0_ : decide (m2 < 1099511627776) = false := decide_eq_false d1
              clear d1 S9'
              go_wp2
              go_meet
              case rel => exact ⟨rfl, ⟨(by repeat (first | (with_reducible first | exact HS.out | apply below_alloc | apply pw_below_drewN | apply below_drew1) | exact HS.out))⟩⟩
            have c0_ : decide (m2 < 1099511627776) = true := decide_eq_true d1
            by_cases d2 : n2 > -1099511627776
            case neg =>
              have c1_ : decide (-1099511627776 < n2) = false := decide_eq_false d2
              clear d1 d2 S9'
              go_wp2
              go_meet
              case rel => exact ⟨rfl, ⟨(by repeat (first | (with_reducible first | exact HS.out | apply below_alloc | apply pw_below_drewN | apply below_drew1) | exact HS.out))⟩⟩
            have c1_ : decide (-1099511627776 < n2) = true := decide_eq_true d2
            have el : lt = less := by rw [S9' d1 d2, ← hless]
            subst el
            clear d1 d2 S9' hless
            go_wp2_with (first | (go_at_call 35; refine (tile_Less.calls a0 a1 a2 y0 y1 y2 lt _ S8.out).mono ?_; rintro e_ w9 ⟨rfl, hb⟩; replace HS := Aside0.mk (below_step (by repeat (first | (with_reducible first | exact HS.out | apply below_alloc | apply pw_below_drewN | apply below_drew1) | exact HS.out)) hb); clear hb))
            go_meet
            case rel => exact ⟨rfl, ⟨(by repeat (first | (with_reducible first | exact HS.out | apply below_alloc | apply pw_below_drewN | apply below_drew1) | exact HS.out))⟩⟩
          case rest =>
            clear HS
            obtain ⟨rfl, HS⟩ := hcut
            clear hless
            go_upto_region 11 with (fail)
            go_cut [11, 12] from 100 to 105 (fun v11 v12 wc => (∃ g : Nat, v11 = .pointer (some ⟨g, 0, none⟩) ∧ Aside0 (wc.heap[g]? = some (.cells #[.int .i64 o0, .int .i64 o1, .int .i64 o2] 34 (0, 0)))) ∧ v12 = .int .i64 e ∧ Aside0 (Below w7.heap.size w7 wc))
            case first =>
              have hc6_0 : wc.cell? ⟨g6, 0, none⟩ = some (.int .i64 p0) := (blk_cell (blk_below BK6.out HS.out) 0).trans rfl
              have hc6_1 : wc.cell? ⟨g6, 1, none⟩ = some (.int .i64 p1) := (blk_cell (blk_below BK6.out HS.out) 1).trans rfl
              have hf6_0 := blk_frozen (blk_below BK6.out HS.out) 0
              have hf6_1 := blk_frozen (blk_below BK6.out HS.out) 1
              go_wp2_with (first | ((with_reducible refine gate_callee (f := 20) rfl ?_); refine goesL_ (some 103) rfl rfl Try.func20 (by kernel_rfl) rfl #[.agg #[.int .i64 p0, .int .i64 p1], .int .i64 z] rfl (by (try simp only [List.map_toArray, List.map_cons, List.map_nil]); first | done | rfl) ?_; (refine (tile_Of.calls p0 p1 z o0 o1 o2 e _ SA.out).mono ?_); rintro e_ w10 ⟨rfl, hb⟩; refine ⟨_, rfl, ?_⟩; replace HS := Aside0.mk (below_step (by repeat (first | (with_reducible first | exact HS.out | apply below_alloc | apply pw_below_drewN | apply below_drew1) | exact HS.out)) hb); clear hb) | ((with_reducible refine gate_dst (N := 11) rfl ?_); refine box_event ?hg (N := 11) ?hd (cs := #[.int .i64 0, .int .i64 0, .int .i64 0]) (t := 34) ?hr ?_; (case hd => rfl); (case hg => rfl); (case hr => first | (go_simp; done) | (go_simp; rfl)); intro g11 hg w11 hbox hb; have BK11 := Aside0.mk hbox; have GE11 := Aside0.mk ((by rw [hg]; exact below_size (by repeat (first | (with_reducible first | exact HS.out | apply below_alloc | apply pw_below_drewN | apply below_drew1) | exact HS.out))) : w7.heap.size ≤ g11); replace HS := Aside0.mk (below_step (by repeat (first | (with_reducible first | exact HS.out | apply below_alloc | apply pw_below_drewN | apply below_drew1) | exact HS.out)) hb); clear hb hbox hg; have hc11_0 : w11.cell? ⟨g11, 0, none⟩ = some (.int .i64 0) := (blk_cell BK11.out 0).trans rfl; have hf11_0 := blk_frozen BK11.out 0; have hc11_1 : w11.cell? ⟨g11, 1, none⟩ = some (.int .i64 0) := (blk_cell BK11.out 1).trans rfl; have hf11_1 := blk_frozen BK11.out 1; have hc11_2 : w11.cell? ⟨g11, 2, none⟩ = some (.int .i64 0) := (blk_cell BK11.out 2).trans rfl; have hf11_2 := blk_frozen BK11.out 2))
              go_meet
              case rel => exact ⟨⟨_, rfl, ⟨by (with_reducible repeat (first | refine blk_drewN ?_ _ | refine blk_drew ?_ | refine blk_alloc ?_ _)); refine blk_put (cs := #[.int .i64 o0, .int .i64 o1, .int .i64 0]) ?_ 2 _ rfl; (with_reducible repeat (first | refine blk_drewN ?_ _ | refine blk_drew ?_ | refine blk_alloc ?_ _)); refine blk_put (cs := #[.int .i64 o0, .int .i64 0, .int .i64 0]) ?_ 1 _ rfl; (with_reducible repeat (first | refine blk_drewN ?_ _ | refine blk_drew ?_ | refine blk_alloc ?_ _)); refine blk_put (cs := #[.int .i64 0, .int .i64 0, .int .i64 0]) ?_ 0 _ rfl; (with_reducible repeat (first | refine blk_drewN ?_ _ | refine blk_drew ?_ | refine blk_alloc ?_ _)); exact BK11.out⟩⟩, rfl, ⟨(by repeat (first | (with_reducible first | exact HS.out | apply below_alloc | apply pw_below_drewN | apply below_drew1 | refine below_set ?_ GE11.out) | exact HS.out))⟩⟩
            case rest =>
              clear HS
              obtain ⟨⟨g11, rfl, BK11⟩, rfl, HS⟩ := hcut
              obtain ⟨W1, rfl⟩ : ∃ x, x = wc := ⟨_, rfl⟩
              replace BK4 := Aside0.mk (blk_below BK4.out HS.out)
              replace BK5 := Aside0.mk (blk_below BK5.out HS.out)
              replace BK6 := Aside0.mk (blk_below BK6.out HS.out)
              replace HB := Aside0.mk (below_step HB.out HS.out)
              clear HS
              have HS := Aside0.mk (Below.refl W1.heap.size W1)
              go_upto_region 12 with (fail)
              go_cut [112] from 106 to 112 (fun v112 wc => v112 = .bool (decide (side = 0) || !v) ∧ Aside0 (Below W1.heap.size W1 wc))
              case first =>
                have hc6_0 : W1.cell? ⟨g6, 0, none⟩ = some (.int .i64 p0) := (blk_cell (blk_below BK6.out HS.out) 0).trans rfl
                have hc6_1 : W1.cell? ⟨g6, 1, none⟩ = some (.int .i64 p1) := (blk_cell (blk_below BK6.out HS.out) 1).trans rfl
                have hf6_0 := blk_frozen (blk_below BK6.out HS.out) 0
                have hf6_1 := blk_frozen (blk_below BK6.out HS.out) 1
                by_cases d1 : side = 0
                · have e1 : (side == 0) = true := beq_iff_eq.mpr d1
                  have e2 : decide (side = 0) = true := decide_eq_true d1
                  clear d1
                  go_wp2
                  go_meet
                  case rel => exact ⟨by rw [e2, Bool.true_or], ⟨(by repeat (first | (with_reducible first | exact HS.out | apply below_alloc | apply pw_below_drewN | apply below_drew1) | exact HS.out))⟩⟩
                have e1 : (side == 0) = false := beq_eq_false_iff_ne.mpr d1
                have e2 : decide (side = 0) = false := decide_eq_false d1
                clear d1
                go_wp2_with (first | (go_at_call 28; refine (terrref5_Valid.calls p0 p1 v _ SB.out).mono ?_; rintro e_ w11_ ⟨rfl, hb⟩; replace HS := Aside0.mk (below_step (by repeat (first | (with_reducible first | exact HS.out | apply below_alloc | apply pw_below_drewN | apply below_drew1) | exact HS.out)) hb); clear hb))
                go_meet
                case rel => exact ⟨by rw [e2, Bool.false_or], ⟨(by repeat (first | (with_reducible first | exact HS.out | apply below_alloc | apply pw_below_drewN | apply below_drew1) | exact HS.out))⟩⟩
              case rest =>
                clear HS
                obtain ⟨rfl, HS⟩ := hcut
                go_upto_if 112 with (fail)
                go_cut [] from 112 to 128 (fun wc => Aside0 (Below W1.heap.size W1 wc))
                case first =>
                  rcases SC.out with ⟨h1, rfl, rfl, rfl, rfl⟩ | ⟨h1, h2, rfl, h4⟩
                  · have et : (decide (side = 0) || !v) = true := by rcases h1 with h | h <;> simp [h]
                    rw [et]
                    clear h1
                    have hc11_0 : wc.cell? ⟨g11, 0, none⟩ = some (.int .i64 0) := (blk_cell (blk_below BK11.out HS.out) 0).trans rfl
                    have hc11_1 : wc.cell? ⟨g11, 1, none⟩ = some (.int .i64 0) := (blk_cell (blk_below BK11.out HS.out) 1).trans rfl
                    have hc11_2 : wc.cell? ⟨g11, 2, none⟩ = some (.int .i64 0) := (blk_cell (blk_below BK11.out HS.out) 2).trans rfl
                    have hf11_0 := blk_frozen (blk_below BK11.out HS.out) 0
                    have hf11_1 := blk_frozen (blk_below BK11.out HS.out) 1
                    have hf11_2 := blk_frozen (blk_below BK11.out HS.out) 2
                    go_wp2
                    go_meet
                    case rel => exact ⟨(by repeat (first | (with_reducible first | exact HS.out | apply below_alloc | apply pw_below_drewN | apply below_drew1) | exact HS.out))⟩
                  have et : (decide (side = 0) || !v) = false := by simp [h1, h2]
                  rw [et]
                  have H4 := Aside0.mk h4
                  clear h1 h2 h4
                  go_upto_region 15 with (fail)
                  go_cut [128] from 120 to 128 (fun v128 wd => v128 = .bool false ∧ Aside0 (Below W1.heap.size W1 wd))
                  case first =>
                    refine Uni.uni_ (fun w1 => Below W1.heap.size W1 w1) (fun w1 w2 => Below w1.heap.size w1 w2) (Uni.RV [some (.int .i64 0), some (.bool false), some (.bool false), some (.agg #[.int .i64 o0, .int .i64 o1, .int .i64 o2]), some (.agg #[.int .i64 p0, .int .i64 p1]), some (.int .i64 z), some (.agg #[.int .i64 o0, .int .i64 o1, .int .i64 o2]), some (.bool false), some (.bool false)] (fun i x w1 => True)) [some 120, some 121, some 122, some 123, some 124, some 125, some 126, some 127, some 128] [[], [0], [1], [2], [2], [2], [4, 5, 2, 2], [3, 6, 2], [2, 7]] (by kernel_rfl) (by kernel_rfl) (by kernel_rfl) (by kernel_rfl) (by kernel_rfl) (Uni.RV_st (fun _ _ _ _ _ _ h => h)) (below_drew1 HS.out) ⟨?_, ?_, ?_, ?_, ?_, ?_, ?_, ?_, ?_, trivial⟩ ?_
                    · rintro v w' hI - a' ha K hK
                      simp only [Uni.fill, Uni.fillT, List.setIfInBounds_toArray, List.set_cons_zero, List.set_cons_succ, Nat.zero_add, Nat.reduceAdd] at ha
                      subst ha
                      skip
                      refine event_step (by rfl) (w1 := w') (v := .int .i64 0) ?_ (hK _ _ hI (Below.refl _ _) rfl)
                      go_simp
                      try rfl
                    · rintro v w' hI ⟨h0, -⟩ a' ha K hK
                      have e0 : v 0 = .int .i64 0 := h0
                      simp only [Uni.fill, Uni.fillT, List.setIfInBounds_toArray, List.set_cons_zero, List.set_cons_succ, Nat.zero_add, Nat.reduceAdd, e0] at ha
                      subst ha
                      clear e0
                      refine event_step (by rfl) (w1 := w') (v := .bool false) ?_ (hK _ _ hI (Below.refl _ _) rfl)
                      go_simp
                      try rfl
                    · rintro v w' hI ⟨h1, -⟩ a' ha K hK
                      have e1 : v 1 = .bool false := h1
                      simp only [Uni.fill, Uni.fillT, List.setIfInBounds_toArray, List.set_cons_zero, List.set_cons_succ, Nat.zero_add, Nat.reduceAdd, e1] at ha
                      subst ha
                      clear e1
                      refine event_step (by rfl) (w1 := w') (v := .bool false) ?_ (hK _ _ hI (Below.refl _ _) rfl)
                      go_simp
                      try rfl
                    · rintro v w' hI ⟨h2, -⟩ a' ha K hK
                      have e2 : v 2 = .bool false := h2
                      simp only [Uni.fill, Uni.fillT, List.setIfInBounds_toArray, List.set_cons_zero, List.set_cons_succ, Nat.zero_add, Nat.reduceAdd, e2] at ha
                      subst ha
                      clear e2
                      have hs11_0 : w'.cell? ⟨g11, 0, none⟩ = some (.int .i64 o0) := (blk_cell (blk_below BK11.out hI) 0).trans rfl
                      have hs11_1 : w'.cell? ⟨g11, 1, none⟩ = some (.int .i64 o1) := (blk_cell (blk_below BK11.out hI) 1).trans rfl
                      have hs11_2 : w'.cell? ⟨g11, 2, none⟩ = some (.int .i64 o2) := (blk_cell (blk_below BK11.out hI) 2).trans rfl
                      refine event_step (by rfl) (w1 := w') (v := .agg #[.int .i64 o0, .int .i64 o1, .int .i64 o2]) ?_ (hK _ _ hI (Below.refl _ _) rfl)
                      go_simp
                      try rfl
                    · rintro v w' hI ⟨h2, -⟩ a' ha K hK
                      have e2 : v 2 = .bool false := h2
                      simp only [Uni.fill, Uni.fillT, List.setIfInBounds_toArray, List.set_cons_zero, List.set_cons_succ, Nat.zero_add, Nat.reduceAdd, e2] at ha
                      subst ha
                      clear e2
                      have hs6_0 : w'.cell? ⟨g6, 0, none⟩ = some (.int .i64 p0) := (blk_cell (blk_below BK6.out hI) 0).trans rfl
                      have hs6_1 : w'.cell? ⟨g6, 1, none⟩ = some (.int .i64 p1) := (blk_cell (blk_below BK6.out hI) 1).trans rfl
                      refine event_step (by rfl) (w1 := w') (v := .agg #[.int .i64 p0, .int .i64 p1]) ?_ (hK _ _ hI (Below.refl _ _) rfl)
                      go_simp
                      try rfl
                    · rintro v w' hI ⟨h2, -⟩ a' ha K hK
                      have e2 : v 2 = .bool false := h2
                      simp only [Uni.fill, Uni.fillT, List.setIfInBounds_toArray, List.set_cons_zero, List.set_cons_succ, Nat.zero_add, Nat.reduceAdd, e2] at ha
                      subst ha
                      clear e2
                      refine event_step (by rfl) (w1 := w') (v := .int .i64 z) ?_ (hK _ _ hI (Below.refl _ _) rfl)
                      go_simp
                      try rfl
                    · rintro v w' hI ⟨h4, h5, h2, _, -⟩ a' ha K hK
                      have e4 : v 4 = .agg #[.int .i64 p0, .int .i64 p1] := h4
                      have e5 : v 5 = .int .i64 z := h5
                      have e2 : v 2 = .bool false := h2
                      simp only [Uni.fill, Uni.fillT, List.setIfInBounds_toArray, List.set_cons_zero, List.set_cons_succ, Nat.zero_add, Nat.reduceAdd, e4, e5, e2] at ha
                      subst ha
                      clear e4 e5 e2
                      refine goes_ Try.func40 (by kernel_rfl) rfl #[.agg #[.int .i64 p0, .int .i64 p1], .int .i64 z] (by rfl) rfl rfl (by (try simp only [List.map_toArray, List.map_cons, List.map_nil]); first | done | rfl) ?_
                      refine (terrref5_TileOf.calls k p0 p1 z o0 o1 o2 _ H4.out).mono ?_
                      rintro e_ w2 ⟨rfl, hb⟩
                      exact ⟨_, rfl, hK _ _ (below_step hI hb) hb rfl⟩
                    · rintro v w' hI ⟨h3, h6, h2, -⟩ a' ha K hK
                      have e3 : v 3 = .agg #[.int .i64 o0, .int .i64 o1, .int .i64 o2] := h3
                      have e6 : v 6 = .agg #[.int .i64 o0, .int .i64 o1, .int .i64 o2] := h6
                      have e2 : v 2 = .bool false := h2
                      simp only [Uni.fill, Uni.fillT, List.setIfInBounds_toArray, List.set_cons_zero, List.set_cons_succ, Nat.zero_add, Nat.reduceAdd, e3, e6, e2] at ha
                      subst ha
                      clear e3 e6 e2
                      refine event_step (by rfl) (w1 := w') (v := .bool false) ?_ (hK _ _ hI (Below.refl _ _) rfl)
                      go_simp
                      try rfl
                    · rintro v w' hI ⟨h2, h7, -⟩ a' ha K hK
                      have e2 : v 2 = .bool false := h2
                      have e7 : v 7 = .bool false := h7
                      simp only [Uni.fill, Uni.fillT, List.setIfInBounds_toArray, List.set_cons_zero, List.set_cons_succ, Nat.zero_add, Nat.reduceAdd, e2, e7] at ha
                      subst ha
                      clear e2 e7
                      refine event_step (by rfl) (w1 := w') (v := .bool false) ?_ (hK _ _ hI (Below.refl _ _) rfl)
                      go_simp
                      try rfl
                    · intro v w' hI hR a' ha
                      have e8 : v 8 = .bool false := hR 8 (by decide)
                      simp only [Uni.fill, Uni.fillT, List.setIfInBounds_toArray, List.set_cons_zero, List.set_cons_succ, Nat.zero_add, Nat.reduceAdd, e8] at ha
                      subst ha
                      go_wp2_with (fail)
                      go_meet
                      case rel => exact ⟨rfl, ⟨hI⟩⟩
                  case rest =>
                    clear HS
                    obtain ⟨rfl, HS⟩ := hcut
                    go_wp2
                    go_meet
                    case rel => exact ⟨(by repeat (first | (with_reducible first | exact HS.out | apply below_alloc | apply pw_below_drewN | apply below_drew1) | exact HS.out))⟩
                case rest =>
                  clear HS
                  have HS := hcut
                  clear hcut
                  obtain ⟨W2, rfl⟩ : ∃ x, x = wc := ⟨_, rfl⟩
                  replace BK4 := Aside0.mk (blk_below BK4.out HS.out)
                  replace BK5 := Aside0.mk (blk_below BK5.out HS.out)
                  replace BK6 := Aside0.mk (blk_below BK6.out HS.out)
                  replace BK11 := Aside0.mk (blk_below BK11.out HS.out)
                  replace HB := Aside0.mk (below_step HB.out HS.out)
                  clear HS
                  have HS := Aside0.mk (Below.refl W2.heap.size W2)
                  go_upto_region 17 with (fail)
                  go_cut [13, 14] from 129 to 133 (fun v13 v14 wc => (∃ g : Nat, v13 = .pointer (some ⟨g, 0, none⟩) ∧ Aside0 (wc.heap[g]? = some (.cells #[.int .i64 u0, .int .i64 u1, .int .i64 u2] 34 (0, 0)))) ∧ v14 = .int .i64 f ∧ Aside0 (Below W2.heap.size W2 wc))
                  case first =>
                    have hc4_0 : W2.cell? ⟨g4, 0, none⟩ = some (.int .i64 a0) := (blk_cell (blk_below BK4.out HS.out) 0).trans rfl
                    have hc4_1 : W2.cell? ⟨g4, 1, none⟩ = some (.int .i64 a1) := (blk_cell (blk_below BK4.out HS.out) 1).trans rfl
                    have hc4_2 : W2.cell? ⟨g4, 2, none⟩ = some (.int .i64 a2) := (blk_cell (blk_below BK4.out HS.out) 2).trans rfl
                    have hf4_0 := blk_frozen (blk_below BK4.out HS.out) 0
                    have hf4_1 := blk_frozen (blk_below BK4.out HS.out) 1
                    have hf4_2 := blk_frozen (blk_below BK4.out HS.out) 2
                    go_wp2_with (first | ((with_reducible refine gate_callee (f := 30) rfl ?_); refine goesL_ (some 131) rfl rfl Try.func30 (by kernel_rfl) rfl #[.agg #[.int .i64 a0, .int .i64 a1, .int .i64 a2]] rfl (by (try simp only [List.map_toArray, List.map_cons, List.map_nil]); first | done | rfl) ?_; (refine (tile_Up.calls a0 a1 a2 u0 u1 u2 f _ SD.out).mono ?_); rintro e_ w10 ⟨rfl, hb⟩; refine ⟨_, rfl, ?_⟩; replace HS := Aside0.mk (below_step (by repeat (first | (with_reducible first | exact HS.out | apply below_alloc | apply pw_below_drewN | apply below_drew1) | exact HS.out)) hb); clear hb) | ((with_reducible refine gate_dst (N := 13) rfl ?_); refine box_event ?hg (N := 13) ?hd (cs := #[.int .i64 0, .int .i64 0, .int .i64 0]) (t := 34) ?hr ?_; (case hd => rfl); (case hg => rfl); (case hr => first | (go_simp; done) | (go_simp; rfl)); intro g13 hg w13 hbox hb; have BK13 := Aside0.mk hbox; have GE13 := Aside0.mk ((by rw [hg]; exact below_size (by repeat (first | (with_reducible first | exact HS.out | apply below_alloc | apply pw_below_drewN | apply below_drew1) | exact HS.out))) : W2.heap.size ≤ g13); replace HS := Aside0.mk (below_step (by repeat (first | (with_reducible first | exact HS.out | apply below_alloc | apply pw_below_drewN | apply below_drew1) | exact HS.out)) hb); clear hb hbox hg; have hc13_0 : w13.cell? ⟨g13, 0, none⟩ = some (.int .i64 0) := (blk_cell BK13.out 0).trans rfl; have hf13_0 := blk_frozen BK13.out 0; have hc13_1 : w13.cell? ⟨g13, 1, none⟩ = some (.int .i64 0) := (blk_cell BK13.out 1).trans rfl; have hf13_1 := blk_frozen BK13.out 1; have hc13_2 : w13.cell? ⟨g13, 2, none⟩ = some (.int .i64 0) := (blk_cell BK13.out 2).trans rfl; have hf13_2 := blk_frozen BK13.out 2))
                    go_meet
                    case rel => exact ⟨⟨_, rfl, ⟨by (with_reducible repeat (first | refine blk_drewN ?_ _ | refine blk_drew ?_ | refine blk_alloc ?_ _)); refine blk_put (cs := #[.int .i64 u0, .int .i64 u1, .int .i64 0]) ?_ 2 _ rfl; (with_reducible repeat (first | refine blk_drewN ?_ _ | refine blk_drew ?_ | refine blk_alloc ?_ _)); refine blk_put (cs := #[.int .i64 u0, .int .i64 0, .int .i64 0]) ?_ 1 _ rfl; (with_reducible repeat (first | refine blk_drewN ?_ _ | refine blk_drew ?_ | refine blk_alloc ?_ _)); refine blk_put (cs := #[.int .i64 0, .int .i64 0, .int .i64 0]) ?_ 0 _ rfl; (with_reducible repeat (first | refine blk_drewN ?_ _ | refine blk_drew ?_ | refine blk_alloc ?_ _)); exact BK13.out⟩⟩, rfl, ⟨(by repeat (first | (with_reducible first | exact HS.out | apply below_alloc | apply pw_below_drewN | apply below_drew1 | refine below_set ?_ GE13.out) | exact HS.out))⟩⟩
                  case rest =>
                    clear HS
                    obtain ⟨⟨g13, rfl, BK13⟩, rfl, HS⟩ := hcut
                    obtain ⟨W3, rfl⟩ : ∃ x, x = wc := ⟨_, rfl⟩
                    replace BK4 := Aside0.mk (blk_below BK4.out HS.out)
                    replace BK5 := Aside0.mk (blk_below BK5.out HS.out)
                    replace BK6 := Aside0.mk (blk_below BK6.out HS.out)
                    replace BK11 := Aside0.mk (blk_below BK11.out HS.out)
                    replace HB := Aside0.mk (below_step HB.out HS.out)
                    clear HS
                    have HS := Aside0.mk (Below.refl W3.heap.size W3)
                    go_upto_region 18 with (fail)
                    go_cut [15, 16] from 134 to 138 (fun v15 v16 wc => (∃ (A : Option Addr) (c : Nat), v15 = .slice A ks.length c ∧ ks.length ≤ c ∧ Aside0 (Kd.C k34 wc A ks.length ks)) ∧ v16 = .int .i64 g ∧ Aside0 (Below W3.heap.size W3 wc))
                    case first =>
                      have hc4_0 : W3.cell? ⟨g4, 0, none⟩ = some (.int .i64 a0) := (blk_cell (blk_below BK4.out HS.out) 0).trans rfl
                      have hc4_1 : W3.cell? ⟨g4, 1, none⟩ = some (.int .i64 a1) := (blk_cell (blk_below BK4.out HS.out) 1).trans rfl
                      have hc4_2 : W3.cell? ⟨g4, 2, none⟩ = some (.int .i64 a2) := (blk_cell (blk_below BK4.out HS.out) 2).trans rfl
                      have hf4_0 := blk_frozen (blk_below BK4.out HS.out) 0
                      have hf4_1 := blk_frozen (blk_below BK4.out HS.out) 1
                      have hf4_2 := blk_frozen (blk_below BK4.out HS.out) 2
                      go_wp2_with (first | ((with_reducible refine gate_callee (f := 21) rfl ?_); refine goesL_ (some 136) rfl rfl Try.func21 (by kernel_rfl) rfl #[.agg #[.int .i64 a0, .int .i64 a1, .int .i64 a2]] rfl (by (try simp only [List.map_toArray, List.map_cons, List.map_nil]); first | done | rfl) ?_; (refine (tile_Kids.calls k a0 a1 a2 ks g _ SE.out).mono ?_); rintro e_ w10 ⟨v0_, rfl, hks, hb⟩; obtain ⟨A, c, rfl, hlc, hC⟩ := Kd.R_reads hks; have HC := Aside0.mk hC; refine ⟨_, rfl, ?_⟩; replace HS := Aside0.mk (below_step (by repeat (first | (with_reducible first | exact HS.out | apply below_alloc | apply pw_below_drewN | apply below_drew1) | exact HS.out)) hb); clear hb hks hC))
                      go_meet
                      case rel => exact ⟨⟨_, _, rfl, hlc, ⟨Kd.C_below HC.out (by repeat (first | exact Below.refl _ _ | apply below_alloc | apply pw_below_drewN | apply below_drew1))⟩⟩, rfl, ⟨(by repeat (first | (with_reducible first | exact HS.out | apply below_alloc | apply pw_below_drewN | apply below_drew1) | exact HS.out))⟩⟩
                    case rest =>
                      clear HS
                      obtain ⟨⟨A, c, rfl, hlc, HC⟩, rfl, HS⟩ := hcut
                      obtain ⟨W4, rfl⟩ : ∃ x, x = wc := ⟨_, rfl⟩
                      replace BK4 := Aside0.mk (blk_below BK4.out HS.out)
                      replace BK5 := Aside0.mk (blk_below BK5.out HS.out)
                      replace BK6 := Aside0.mk (blk_below BK6.out HS.out)
                      replace BK11 := Aside0.mk (blk_below BK11.out HS.out)
                      replace BK13 := Aside0.mk (blk_below BK13.out HS.out)
                      replace HB := Aside0.mk (below_step HB.out HS.out)
                      clear HS
                      have HS := Aside0.mk (Below.refl W4.heap.size W4)
                      rcases SI.out with ⟨rfl, rfl, rfl, rfl, rfl, rfl, rfl, rfl, rfl, rfl, rfl, rfl, rfl, rfl, rfl⟩ | ⟨rfl, sb, sf, sc, hw0, hw1, x0, x1, y0_, y1_⟩
                      · clear SI
                        have hc4_0 : W4.cell? ⟨g4, 0, none⟩ = some (.int .i64 a0) := (blk_cell (blk_below BK4.out HS.out) 0).trans rfl
                        have hc4_1 : W4.cell? ⟨g4, 1, none⟩ = some (.int .i64 a1) := (blk_cell (blk_below BK4.out HS.out) 1).trans rfl
                        have hc4_2 : W4.cell? ⟨g4, 2, none⟩ = some (.int .i64 a2) := (blk_cell (blk_below BK4.out HS.out) 2).trans rfl
                        have hf4_0 := blk_frozen (blk_below BK4.out HS.out) 0
                        have hf4_1 := blk_frozen (blk_below BK4.out HS.out) 1
                        have hf4_2 := blk_frozen (blk_below BK4.out HS.out) 2
                        go_upto_if 141 with (first | ((with_reducible refine gate_callee (f := 38) rfl ?_); refine goesL_ (some 140) rfl rfl Try.func38 (by kernel_rfl) rfl #[.agg #[.int .i64 a0, .int .i64 a1, .int .i64 a2]] rfl (by (try simp only [List.map_toArray, List.map_cons, List.map_nil]); first | done | rfl) ?_; (refine (terrref5_TileOk.calls k a0 a1 a2 false _ S6.out).mono ?_); rintro e_ w15 ⟨rfl, hb⟩; refine ⟨_, rfl, ?_⟩; replace HS := Aside0.mk (below_step (by repeat (first | (with_reducible first | exact HS.out | apply below_alloc | apply pw_below_drewN | apply below_drew1) | exact HS.out)) hb); clear hb))
                        have hc4_0 : w15.cell? ⟨g4, 0, none⟩ = some (.int .i64 a0) := (blk_cell (blk_below BK4.out HS.out) 0).trans rfl
                        have hc4_1 : w15.cell? ⟨g4, 1, none⟩ = some (.int .i64 a1) := (blk_cell (blk_below BK4.out HS.out) 1).trans rfl
                        have hc4_2 : w15.cell? ⟨g4, 2, none⟩ = some (.int .i64 a2) := (blk_cell (blk_below BK4.out HS.out) 2).trans rfl
                        have hf4_0 := blk_frozen (blk_below BK4.out HS.out) 0
                        have hf4_1 := blk_frozen (blk_below BK4.out HS.out) 1
                        have hf4_2 := blk_frozen (blk_below BK4.out HS.out) 2
                        have hc6_0 : w15.cell? ⟨g6, 0, none⟩ = some (.int .i64 p0) := (blk_cell (blk_below BK6.out HS.out) 0).trans rfl
                        have hc6_1 : w15.cell? ⟨g6, 1, none⟩ = some (.int .i64 p1) := (blk_cell (blk_below BK6.out HS.out) 1).trans rfl
                        have hf6_0 := blk_frozen (blk_below BK6.out HS.out) 0
                        have hf6_1 := blk_frozen (blk_below BK6.out HS.out) 1
                        have hc13_0 : w15.cell? ⟨g13, 0, none⟩ = some (.int .i64 0) := (blk_cell (blk_below BK13.out HS.out) 0).trans rfl
                        have hc13_1 : w15.cell? ⟨g13, 1, none⟩ = some (.int .i64 0) := (blk_cell (blk_below BK13.out HS.out) 1).trans rfl
                        have hc13_2 : w15.cell? ⟨g13, 2, none⟩ = some (.int .i64 0) := (blk_cell (blk_below BK13.out HS.out) 2).trans rfl
                        have hf13_0 := blk_frozen (blk_below BK13.out HS.out) 0
                        have hf13_1 := blk_frozen (blk_below BK13.out HS.out) 1
                        have hf13_2 := blk_frozen (blk_below BK13.out HS.out) 2
                        go_wp2_with (first | ((with_reducible refine gate_callee (f := 22) rfl ?_); refine goesL_ (some 143) rfl rfl Try.func22 (by kernel_rfl) rfl #[.agg #[.int .i64 a0, .int .i64 a1, .int .i64 a2]] rfl (by (try simp only [List.map_toArray, List.map_cons, List.map_nil]); first | done | rfl) ?_; (refine (tile_Box.calls a0 a1 a2 0 0 0 0 _ SF.out).mono ?_); rintro e_ w16 ⟨rfl, hb⟩; refine ⟨_, rfl, ?_⟩; replace HS := Aside0.mk (below_step (by repeat (first | (with_reducible first | exact HS.out | apply below_alloc | apply pw_below_drewN | apply below_drew1) | exact HS.out)) hb); clear hb; have hc4_0 : w16.cell? ⟨g4, 0, none⟩ = some (.int .i64 a0) := (blk_cell (blk_below BK4.out HS.out) 0).trans rfl; have hc4_1 : w16.cell? ⟨g4, 1, none⟩ = some (.int .i64 a1) := (blk_cell (blk_below BK4.out HS.out) 1).trans rfl; have hc4_2 : w16.cell? ⟨g4, 2, none⟩ = some (.int .i64 a2) := (blk_cell (blk_below BK4.out HS.out) 2).trans rfl; have hf4_0 := blk_frozen (blk_below BK4.out HS.out) 0; have hf4_1 := blk_frozen (blk_below BK4.out HS.out) 1; have hf4_2 := blk_frozen (blk_below BK4.out HS.out) 2; have hc6_0 : w16.cell? ⟨g6, 0, none⟩ = some (.int .i64 p0) := (blk_cell (blk_below BK6.out HS.out) 0).trans rfl; have hc6_1 : w16.cell? ⟨g6, 1, none⟩ = some (.int .i64 p1) := (blk_cell (blk_below BK6.out HS.out) 1).trans rfl; have hf6_0 := blk_frozen (blk_below BK6.out HS.out) 0; have hf6_1 := blk_frozen (blk_below BK6.out HS.out) 1; have hc13_0 : w16.cell? ⟨g13, 0, none⟩ = some (.int .i64 0) := (blk_cell (blk_below BK13.out HS.out) 0).trans rfl; have hc13_1 : w16.cell? ⟨g13, 1, none⟩ = some (.int .i64 0) := (blk_cell (blk_below BK13.out HS.out) 1).trans rfl; have hc13_2 : w16.cell? ⟨g13, 2, none⟩ = some (.int .i64 0) := (blk_cell (blk_below BK13.out HS.out) 2).trans rfl; have hf13_0 := blk_frozen (blk_below BK13.out HS.out) 0; have hf13_1 := blk_frozen (blk_below BK13.out HS.out) 1; have hf13_2 := blk_frozen (blk_below BK13.out HS.out) 2) | (go_at_call 19; refine (tile_Local.calls a0 a1 a2 p0 p1 0 0 _ SG.out).mono ?_; rintro e_ w17 ⟨rfl, hb⟩; replace HS := Aside0.mk (below_step (by repeat (first | (with_reducible first | exact HS.out | apply below_alloc | apply pw_below_drewN | apply below_drew1) | exact HS.out)) hb); clear hb; have hc4_0 : w17.cell? ⟨g4, 0, none⟩ = some (.int .i64 a0) := (blk_cell (blk_below BK4.out HS.out) 0).trans rfl; have hc4_1 : w17.cell? ⟨g4, 1, none⟩ = some (.int .i64 a1) := (blk_cell (blk_below BK4.out HS.out) 1).trans rfl; have hc4_2 : w17.cell? ⟨g4, 2, none⟩ = some (.int .i64 a2) := (blk_cell (blk_below BK4.out HS.out) 2).trans rfl; have hf4_0 := blk_frozen (blk_below BK4.out HS.out) 0; have hf4_1 := blk_frozen (blk_below BK4.out HS.out) 1; have hf4_2 := blk_frozen (blk_below BK4.out HS.out) 2; have hc6_0 : w17.cell? ⟨g6, 0, none⟩ = some (.int .i64 p0) := (blk_cell (blk_below BK6.out HS.out) 0).trans rfl; have hc6_1 : w17.cell? ⟨g6, 1, none⟩ = some (.int .i64 p1) := (blk_cell (blk_below BK6.out HS.out) 1).trans rfl; have hf6_0 := blk_frozen (blk_below BK6.out HS.out) 0; have hf6_1 := blk_frozen (blk_below BK6.out HS.out) 1; have hc13_0 : w17.cell? ⟨g13, 0, none⟩ = some (.int .i64 0) := (blk_cell (blk_below BK13.out HS.out) 0).trans rfl; have hc13_1 : w17.cell? ⟨g13, 1, none⟩ = some (.int .i64 0) := (blk_cell (blk_below BK13.out HS.out) 1).trans rfl; have hc13_2 : w17.cell? ⟨g13, 2, none⟩ = some (.int .i64 0) := (blk_cell (blk_below BK13.out HS.out) 2).trans rfl; have hf13_0 := blk_frozen (blk_below BK13.out HS.out) 0; have hf13_1 := blk_frozen (blk_below BK13.out HS.out) 1; have hf13_2 := blk_frozen (blk_below BK13.out HS.out) 2) | (go_at_call 18; refine (tile_World.calls a0 a1 a2 p0 p1 0 0 _ SH.out).mono ?_; rintro e_ w18 ⟨rfl, hb⟩; replace HS := Aside0.mk (below_step (by repeat (first | (with_reducible first | exact HS.out | apply below_alloc | apply pw_below_drewN | apply below_drew1) | exact HS.out)) hb); clear hb))
                        go_ret
                        exact ⟨rfl, below_step HB.out (by repeat (first | (with_reducible first | exact HS.out | apply below_alloc | apply pw_below_drewN | apply below_drew1) | exact HS.out))⟩
                      clear SI
                      have SB_ := Aside0.mk sb
                      have SF_ := Aside0.mk sf
                      have SC_ := Aside0.mk sc
                      have HW0 := Aside0.mk hw0
                      have HW1 := Aside0.mk hw1
                      have X0 := Aside0.mk x0
                      have X1 := Aside0.mk x1
                      have Y0 := Aside0.mk y0_
                      have Y1 := Aside0.mk y1_
                      clear sb sf sc hw0 hw1 x0 x1 y0_ y1_
                      have hc4_0 : W4.cell? ⟨g4, 0, none⟩ = some (.int .i64 a0) := (blk_cell (blk_below BK4.out HS.out) 0).trans rfl
                      have hc4_1 : W4.cell? ⟨g4, 1, none⟩ = some (.int .i64 a1) := (blk_cell (blk_below BK4.out HS.out) 1).trans rfl
                      have hc4_2 : W4.cell? ⟨g4, 2, none⟩ = some (.int .i64 a2) := (blk_cell (blk_below BK4.out HS.out) 2).trans rfl
                      have hf4_0 := blk_frozen (blk_below BK4.out HS.out) 0
                      have hf4_1 := blk_frozen (blk_below BK4.out HS.out) 1
                      have hf4_2 := blk_frozen (blk_below BK4.out HS.out) 2
                      go_upto_if 141 with (first | ((with_reducible refine gate_callee (f := 38) rfl ?_); refine goesL_ (some 140) rfl rfl Try.func38 (by kernel_rfl) rfl #[.agg #[.int .i64 a0, .int .i64 a1, .int .i64 a2]] rfl (by (try simp only [List.map_toArray, List.map_cons, List.map_nil]); first | done | rfl) ?_; (refine (terrref5_TileOk.calls k a0 a1 a2 true _ S6.out).mono ?_); rintro e_ w15 ⟨rfl, hb⟩; refine ⟨_, rfl, ?_⟩; replace HS := Aside0.mk (below_step (by repeat (first | (with_reducible first | exact HS.out | apply below_alloc | apply pw_below_drewN | apply below_drew1) | exact HS.out)) hb); clear hb))
                      go_upto_region 21 with (fail)
                      go_cut [191] from 139 to 141 (fun v191 wd => v191 = .bool false ∧ Aside0 (Below W4.heap.size W4 wd))
                      case first =>
                        refine Uni.uni_ (fun w1 => Below W4.heap.size W4 w1) (fun w1 w2 => Below w1.heap.size w1 w2) (Uni.RV [some (.agg #[.int .i64 a0, .int .i64 a1, .int .i64 a2]), some (.agg #[.int .i64 b0, .int .i64 b1, .int .i64 b2, .int .i64 b3]), some (.agg #[.int .i64 a0, .int .i64 a1, .int .i64 a2]), some (.agg #[.int .i64 b0, .int .i64 b1, .int .i64 b2, .int .i64 b3]), some (.bool false), some (.bool false), some (.agg #[.int .i64 a0, .int .i64 a1, .int .i64 a2]), some (.agg #[.int .i64 u0, .int .i64 u1, .int .i64 u2]), some (.int .i64 f), some (.slice A ks.length c), some (.int .i64 g), some (.bool true), some (.bool false), some (.bool false)] (fun i x w1 => True)) [some 178, some 179, some 180, some 181, some 182, some 183, some 184, some 185, some 186, some 187, some 188, some 189, some 190, some 191] [[], [0], [], [2, 1], [1, 3], [4, 3], [5], [5], [5], [5], [5], [6, 7, 8, 9, 10, 5, 5], [11, 5], [5, 12]] (by kernel_rfl) (by kernel_rfl) (by kernel_rfl) (by kernel_rfl) (by kernel_rfl) (Uni.RV_st (fun _ _ _ _ _ _ h => h)) (below_drew1 HS.out) ⟨?_, ?_, ?_, ?_, ?_, ?_, ?_, ?_, ?_, ?_, ?_, ?_, ?_, ?_, trivial⟩ ?_
                        · rintro v w' hI - a' ha K hK
                          simp only [Uni.fill, Uni.fillT, List.setIfInBounds_toArray, List.set_cons_zero, List.set_cons_succ, Nat.zero_add, Nat.reduceAdd] at ha
                          subst ha
                          skip
                          have hs4_0 : w'.cell? ⟨g4, 0, none⟩ = some (.int .i64 a0) := (blk_cell (blk_below BK4.out hI) 0).trans rfl
                          have hs4_1 : w'.cell? ⟨g4, 1, none⟩ = some (.int .i64 a1) := (blk_cell (blk_below BK4.out hI) 1).trans rfl
                          have hs4_2 : w'.cell? ⟨g4, 2, none⟩ = some (.int .i64 a2) := (blk_cell (blk_below BK4.out hI) 2).trans rfl
                          refine event_step (by rfl) (w1 := w') (v := .agg #[.int .i64 a0, .int .i64 a1, .int .i64 a2]) ?_ (hK _ _ hI (Below.refl _ _) rfl)
                          go_simp
                          try rfl
                        · rintro v w' hI ⟨h0, -⟩ a' ha K hK
                          have e0 : v 0 = .agg #[.int .i64 a0, .int .i64 a1, .int .i64 a2] := h0
                          simp only [Uni.fill, Uni.fillT, List.setIfInBounds_toArray, List.set_cons_zero, List.set_cons_succ, Nat.zero_add, Nat.reduceAdd, e0] at ha
                          subst ha
                          clear e0
                          refine goes_ Try.func22 (by kernel_rfl) rfl #[.agg #[.int .i64 a0, .int .i64 a1, .int .i64 a2]] (by rfl) rfl rfl (by (try simp only [List.map_toArray, List.map_cons, List.map_nil]); first | done | rfl) ?_
                          refine (tile_Box.calls a0 a1 a2 b0 b1 b2 b3 _ SF.out).mono ?_
                          rintro e_ w2 ⟨rfl, hb⟩
                          exact ⟨_, rfl, hK _ _ (below_step hI hb) hb rfl⟩
                        · rintro v w' hI - a' ha K hK
                          simp only [Uni.fill, Uni.fillT, List.setIfInBounds_toArray, List.set_cons_zero, List.set_cons_succ, Nat.zero_add, Nat.reduceAdd] at ha
                          subst ha
                          skip
                          have hs4_0 : w'.cell? ⟨g4, 0, none⟩ = some (.int .i64 a0) := (blk_cell (blk_below BK4.out hI) 0).trans rfl
                          have hs4_1 : w'.cell? ⟨g4, 1, none⟩ = some (.int .i64 a1) := (blk_cell (blk_below BK4.out hI) 1).trans rfl
                          have hs4_2 : w'.cell? ⟨g4, 2, none⟩ = some (.int .i64 a2) := (blk_cell (blk_below BK4.out hI) 2).trans rfl
                          refine event_step (by rfl) (w1 := w') (v := .agg #[.int .i64 a0, .int .i64 a1, .int .i64 a2]) ?_ (hK _ _ hI (Below.refl _ _) rfl)
                          go_simp
                          try rfl
                        · rintro v w' hI ⟨h2, h1, -⟩ a' ha K hK
                          have e2 : v 2 = .agg #[.int .i64 a0, .int .i64 a1, .int .i64 a2] := h2
                          have e1 : v 1 = .agg #[.int .i64 b0, .int .i64 b1, .int .i64 b2, .int .i64 b3] := h1
                          simp only [Uni.fill, Uni.fillT, List.setIfInBounds_toArray, List.set_cons_zero, List.set_cons_succ, Nat.zero_add, Nat.reduceAdd, e2, e1] at ha
                          subst ha
                          clear e2 e1
                          refine goes_ Try.func41 (by kernel_rfl) rfl #[.agg #[.int .i64 a0, .int .i64 a1, .int .i64 a2]] (by rfl) rfl rfl (by (try simp only [List.map_toArray, List.map_cons, List.map_nil]); first | done | rfl) ?_
                          refine (terrref5_TileBox.calls k a0 a1 a2 b0 b1 b2 b3 _ SB_.out).mono ?_
                          rintro e_ w2 ⟨rfl, hb⟩
                          exact ⟨_, rfl, hK _ _ (below_step hI hb) hb rfl⟩
                        · rintro v w' hI ⟨h1, h3, -⟩ a' ha K hK
                          have e1 : v 1 = .agg #[.int .i64 b0, .int .i64 b1, .int .i64 b2, .int .i64 b3] := h1
                          have e3 : v 3 = .agg #[.int .i64 b0, .int .i64 b1, .int .i64 b2, .int .i64 b3] := h3
                          simp only [Uni.fill, Uni.fillT, List.setIfInBounds_toArray, List.set_cons_zero, List.set_cons_succ, Nat.zero_add, Nat.reduceAdd, e1, e3] at ha
                          subst ha
                          clear e1 e3
                          refine event_step (by rfl) (w1 := w') (v := .bool false) ?_ (hK _ _ hI (Below.refl _ _) rfl)
                          go_simp
                          try rfl
                        · rintro v w' hI ⟨h4, h3, -⟩ a' ha K hK
                          have e4 : v 4 = .bool false := h4
                          have e3 : v 3 = .agg #[.int .i64 b0, .int .i64 b1, .int .i64 b2, .int .i64 b3] := h3
                          simp only [Uni.fill, Uni.fillT, List.setIfInBounds_toArray, List.set_cons_zero, List.set_cons_succ, Nat.zero_add, Nat.reduceAdd, e4, e3] at ha
                          subst ha
                          clear e4 e3
                          refine event_step (by rfl) (w1 := w') (v := .bool false) ?_ (hK _ _ hI (Below.refl _ _) rfl)
                          go_simp
                          try rfl
                        · rintro v w' hI ⟨h5, -⟩ a' ha K hK
                          have e5 : v 5 = .bool false := h5
                          simp only [Uni.fill, Uni.fillT, List.setIfInBounds_toArray, List.set_cons_zero, List.set_cons_succ, Nat.zero_add, Nat.reduceAdd, e5] at ha
                          subst ha
                          clear e5
                          have hs4_0 : w'.cell? ⟨g4, 0, none⟩ = some (.int .i64 a0) := (blk_cell (blk_below BK4.out hI) 0).trans rfl
                          have hs4_1 : w'.cell? ⟨g4, 1, none⟩ = some (.int .i64 a1) := (blk_cell (blk_below BK4.out hI) 1).trans rfl
                          have hs4_2 : w'.cell? ⟨g4, 2, none⟩ = some (.int .i64 a2) := (blk_cell (blk_below BK4.out hI) 2).trans rfl
                          refine event_step (by rfl) (w1 := w') (v := .agg #[.int .i64 a0, .int .i64 a1, .int .i64 a2]) ?_ (hK _ _ hI (Below.refl _ _) rfl)
                          go_simp
                          try rfl
                        · rintro v w' hI ⟨h5, -⟩ a' ha K hK
                          have e5 : v 5 = .bool false := h5
                          simp only [Uni.fill, Uni.fillT, List.setIfInBounds_toArray, List.set_cons_zero, List.set_cons_succ, Nat.zero_add, Nat.reduceAdd, e5] at ha
                          subst ha
                          clear e5
                          have hs13_0 : w'.cell? ⟨g13, 0, none⟩ = some (.int .i64 u0) := (blk_cell (blk_below BK13.out hI) 0).trans rfl
                          have hs13_1 : w'.cell? ⟨g13, 1, none⟩ = some (.int .i64 u1) := (blk_cell (blk_below BK13.out hI) 1).trans rfl
                          have hs13_2 : w'.cell? ⟨g13, 2, none⟩ = some (.int .i64 u2) := (blk_cell (blk_below BK13.out hI) 2).trans rfl
                          refine event_step (by rfl) (w1 := w') (v := .agg #[.int .i64 u0, .int .i64 u1, .int .i64 u2]) ?_ (hK _ _ hI (Below.refl _ _) rfl)
                          go_simp
                          try rfl
                        · rintro v w' hI ⟨h5, -⟩ a' ha K hK
                          have e5 : v 5 = .bool false := h5
                          simp only [Uni.fill, Uni.fillT, List.setIfInBounds_toArray, List.set_cons_zero, List.set_cons_succ, Nat.zero_add, Nat.reduceAdd, e5] at ha
                          subst ha
                          clear e5
                          refine event_step (by rfl) (w1 := w') (v := .int .i64 f) ?_ (hK _ _ hI (Below.refl _ _) rfl)
                          go_simp
                          try rfl
                        · rintro v w' hI ⟨h5, -⟩ a' ha K hK
                          have e5 : v 5 = .bool false := h5
                          simp only [Uni.fill, Uni.fillT, List.setIfInBounds_toArray, List.set_cons_zero, List.set_cons_succ, Nat.zero_add, Nat.reduceAdd, e5] at ha
                          subst ha
                          clear e5
                          refine event_step (by rfl) (w1 := w') (v := .slice A ks.length c) ?_ (hK _ _ hI (Below.refl _ _) rfl)
                          go_simp
                          try rfl
                        · rintro v w' hI ⟨h5, -⟩ a' ha K hK
                          have e5 : v 5 = .bool false := h5
                          simp only [Uni.fill, Uni.fillT, List.setIfInBounds_toArray, List.set_cons_zero, List.set_cons_succ, Nat.zero_add, Nat.reduceAdd, e5] at ha
                          subst ha
                          clear e5
                          refine event_step (by rfl) (w1 := w') (v := .int .i64 g) ?_ (hK _ _ hI (Below.refl _ _) rfl)
                          go_simp
                          try rfl
                        · rintro v w' hI ⟨h6, h7, h8, h9, h10, h5, _, -⟩ a' ha K hK
                          have e6 : v 6 = .agg #[.int .i64 a0, .int .i64 a1, .int .i64 a2] := h6
                          have e7 : v 7 = .agg #[.int .i64 u0, .int .i64 u1, .int .i64 u2] := h7
                          have e8 : v 8 = .int .i64 f := h8
                          have e9 : v 9 = .slice A ks.length c := h9
                          have e10 : v 10 = .int .i64 g := h10
                          have e5 : v 5 = .bool false := h5
                          simp only [Uni.fill, Uni.fillT, List.setIfInBounds_toArray, List.set_cons_zero, List.set_cons_succ, Nat.zero_add, Nat.reduceAdd, e6, e7, e8, e9, e10, e5] at ha
                          subst ha
                          clear e6 e7 e8 e9 e10 e5
                          refine goes_ Try.func42 (by kernel_rfl) rfl #[.agg #[.int .i64 a0, .int .i64 a1, .int .i64 a2], .agg #[.int .i64 u0, .int .i64 u1, .int .i64 u2], .int .i64 f, .slice A ks.length c, .int .i64 g] (by rfl) rfl rfl (by (try simp only [List.map_toArray, List.map_cons, List.map_nil]); first | done | rfl) ?_
                          refine (terrlaw5_family.calls k a0 a1 a2 u0 u1 u2 f A c ks g true _ (Kd.C_below HC.out hI) hlc SF_.out).mono ?_
                          rintro e_ w2 ⟨rfl, hb⟩
                          exact ⟨_, rfl, hK _ _ (below_step hI hb) hb rfl⟩
                        · rintro v w' hI ⟨h11, h5, -⟩ a' ha K hK
                          have e11 : v 11 = .bool true := h11
                          have e5 : v 5 = .bool false := h5
                          simp only [Uni.fill, Uni.fillT, List.setIfInBounds_toArray, List.set_cons_zero, List.set_cons_succ, Nat.zero_add, Nat.reduceAdd, e11, e5] at ha
                          subst ha
                          clear e11 e5
                          refine event_step (by rfl) (w1 := w') (v := .bool false) ?_ (hK _ _ hI (Below.refl _ _) rfl)
                          go_simp
                          try rfl
                        · rintro v w' hI ⟨h5, h12, -⟩ a' ha K hK
                          have e5 : v 5 = .bool false := h5
                          have e12 : v 12 = .bool false := h12
                          simp only [Uni.fill, Uni.fillT, List.setIfInBounds_toArray, List.set_cons_zero, List.set_cons_succ, Nat.zero_add, Nat.reduceAdd, e5, e12] at ha
                          subst ha
                          clear e5 e12
                          refine event_step (by rfl) (w1 := w') (v := .bool false) ?_ (hK _ _ hI (Below.refl _ _) rfl)
                          go_simp
                          try rfl
                        · intro v w' hI hR a' ha
                          have e13 : v 13 = .bool false := hR 13 (by decide)
                          simp only [Uni.fill, Uni.fillT, List.setIfInBounds_toArray, List.set_cons_zero, List.set_cons_succ, Nat.zero_add, Nat.reduceAdd, e13] at ha
                          subst ha
                          go_wp2_with (fail)
                          go_meet
                          case rel => exact ⟨rfl, ⟨hI⟩⟩
                      case rest =>
                        clear HS
                        obtain ⟨rfl, HS⟩ := hcut
                        go_upto_region 23 with (fail)
                        go_cut [17, 18] from 192 to 195 (fun v17 v18 wd => (∃ g : Nat, v17 = .pointer (some ⟨g, 0, none⟩) ∧ Aside0 (wd.heap[g]? = some (.cells #[.int .i64 b0, .int .i64 b1, .int .i64 b2, .int .i64 b3] 44 (0, 0)))) ∧ (∃ g : Nat, v18 = .pointer (some ⟨g, 0, none⟩) ∧ Aside0 (wd.heap[g]? = some (.cells #[.int .i64 q0, .int .i64 q1] 31 (0, 0)))) ∧ Aside0 (Below W4.heap.size W4 wd))
                        case first =>
                          refine Uni.univ_ (fun w1 => Below W4.heap.size W4 w1) (fun w1 w2 => Uni.Turn (.cells #[.int .i64 0, .int .i64 0, .int .i64 0, .int .i64 0] 44 (0, 0)) (.cells #[.int .i64 b0, .int .i64 b1, .int .i64 b2, .int .i64 b3] 44 (0, 0)) w1 w2 ∧ Uni.Turn (.cells #[.int .i64 0, .int .i64 0] 31 (0, 0)) (.cells #[.int .i64 q0, .int .i64 q1] 31 (0, 0)) w1 w2) (Uni.RVV [some (.agg #[.int .i64 a0, .int .i64 a1, .int .i64 a2]), some (.agg #[.int .i64 b0, .int .i64 b1, .int .i64 b2, .int .i64 b3]), some (.agg #[.int .i64 p0, .int .i64 p1]), some (.agg #[.int .i64 q0, .int .i64 q1]), none, none, none, none] (E23 W4.heap.size b0 b1 b2 b3 q0 q1)) [some 192, some 193, some 194, some 195, some 17, some 18, none, none] [[], [0], [], [2, 1], [], [], [4, 1, 3, 0, 1, 4, 5], [5, 3, 6, 0, 1, 2, 3, 4, 5, 6]] (by kernel_rfl) (by kernel_rfl) (by kernel_rfl) (by kernel_rfl) (by kernel_rfl) (Uni.RVV_st E23_st) (Uni.RVV_dep E23_dep) (below_drew1 HS.out) ⟨?_, ?_, ?_, ?_, ?_, ?_, ?_, ?_, trivial⟩ ?_
                          · rintro v w' hI - a' ha K hK
                            simp only [Uni.fill, Uni.fillT, List.setIfInBounds_toArray, List.set_cons_zero, List.set_cons_succ, Nat.zero_add, Nat.reduceAdd] at ha
                            subst ha
                            have hs4_0 : w'.cell? ⟨g4, 0, none⟩ = some (.int .i64 a0) := (blk_cell (blk_below BK4.out hI) 0).trans rfl
                            have hs4_1 : w'.cell? ⟨g4, 1, none⟩ = some (.int .i64 a1) := (blk_cell (blk_below BK4.out hI) 1).trans rfl
                            have hs4_2 : w'.cell? ⟨g4, 2, none⟩ = some (.int .i64 a2) := (blk_cell (blk_below BK4.out hI) 2).trans rfl
                            refine event_step (by rfl) (w1 := w') (v := .agg #[.int .i64 a0, .int .i64 a1, .int .i64 a2]) ?_ (hK _ _ hI ⟨Uni.Turn.below (Below.refl _ _), Uni.Turn.below (Below.refl _ _)⟩ rfl)
                            go_simp
                            try rfl
                          · rintro v w' hI ⟨h0, -⟩ a' ha K hK
                            have e0 : v 0 = .agg #[.int .i64 a0, .int .i64 a1, .int .i64 a2] := h0
                            simp only [Uni.fill, Uni.fillT, List.setIfInBounds_toArray, List.set_cons_zero, List.set_cons_succ, Nat.zero_add, Nat.reduceAdd, e0] at ha
                            subst ha
                            refine goes_ Try.func41 (by kernel_rfl) rfl #[.agg #[.int .i64 a0, .int .i64 a1, .int .i64 a2]] (by rfl) rfl rfl (by (try simp only [List.map_toArray, List.map_cons, List.map_nil]); first | done | rfl) ?_
                            refine (terrref5_TileBox.calls k a0 a1 a2 b0 b1 b2 b3 _ SB_.out).mono ?_
                            rintro e_ w2 ⟨rfl, hb⟩
                            exact ⟨_, rfl, hK _ _ (below_step hI hb) ⟨Uni.Turn.below hb, Uni.Turn.below hb⟩ rfl⟩
                          · rintro v w' hI - a' ha K hK
                            simp only [Uni.fill, Uni.fillT, List.setIfInBounds_toArray, List.set_cons_zero, List.set_cons_succ, Nat.zero_add, Nat.reduceAdd] at ha
                            subst ha
                            have hs6_0 : w'.cell? ⟨g6, 0, none⟩ = some (.int .i64 p0) := (blk_cell (blk_below BK6.out hI) 0).trans rfl
                            have hs6_1 : w'.cell? ⟨g6, 1, none⟩ = some (.int .i64 p1) := (blk_cell (blk_below BK6.out hI) 1).trans rfl
                            refine event_step (by rfl) (w1 := w') (v := .agg #[.int .i64 p0, .int .i64 p1]) ?_ (hK _ _ hI ⟨Uni.Turn.below (Below.refl _ _), Uni.Turn.below (Below.refl _ _)⟩ rfl)
                            go_simp
                            try rfl
                          · rintro v w' hI ⟨h2, h1, -⟩ a' ha K hK
                            have e2 : v 2 = .agg #[.int .i64 p0, .int .i64 p1] := h2
                            have e1 : v 1 = .agg #[.int .i64 b0, .int .i64 b1, .int .i64 b2, .int .i64 b3] := h1
                            simp only [Uni.fill, Uni.fillT, List.setIfInBounds_toArray, List.set_cons_zero, List.set_cons_succ, Nat.zero_add, Nat.reduceAdd, e2, e1] at ha
                            subst ha
                            refine goes_ Try.func43 (by kernel_rfl) rfl #[.agg #[.int .i64 p0, .int .i64 p1]] (by rfl) rfl rfl (by (try simp only [List.map_toArray, List.map_cons, List.map_nil]); first | done | rfl) ?_
                            refine (terrref5_Clamped.calls p0 p1 q0 q1 _ SC_.out).mono ?_
                            rintro e_ w2 ⟨rfl, hb⟩
                            exact ⟨_, rfl, hK _ _ (below_step hI hb) ⟨Uni.Turn.below hb, Uni.Turn.below hb⟩ rfl⟩
                          · rintro v w' hI - a' ha K hK
                            simp only [Uni.fill, Uni.fillT, List.setIfInBounds_toArray, List.set_cons_zero, List.set_cons_succ, Nat.zero_add, Nat.reduceAdd] at ha
                            subst ha
                            refine box_step (by rfl) (N := 17) rfl (cs := #[.int .i64 0, .int .i64 0, .int .i64 0, .int .i64 0]) (t := 44) ?hr ?_
                            case hr => first | (go_simp; done) | (go_simp; rfl)
                            intro g_ hg w1 hbox hb
                            exact hK _ _ (below_step hI hb) ⟨Uni.Turn.below hb, Uni.Turn.below hb⟩ ⟨g_, rfl, by rw [hg]; exact below_size hI, .inl hbox⟩
                          · rintro v w' hI - a' ha K hK
                            simp only [Uni.fill, Uni.fillT, List.setIfInBounds_toArray, List.set_cons_zero, List.set_cons_succ, Nat.zero_add, Nat.reduceAdd] at ha
                            subst ha
                            refine box_step (by rfl) (N := 18) rfl (cs := #[.int .i64 0, .int .i64 0]) (t := 31) ?hr ?_
                            case hr => first | (go_simp; done) | (go_simp; rfl)
                            intro g_ hg w1 hbox hb
                            exact hK _ _ (below_step hI hb) ⟨Uni.Turn.below hb, Uni.Turn.below hb⟩ ⟨g_, rfl, by rw [hg]; exact below_size hI, .inl hbox⟩
                          · rintro v w' hI ⟨h4, h1, h3, h0, _, _, h5, -⟩ a' ha K hK
                            obtain ⟨g4_, e4, bb4, cc4⟩ := h4
                            have e1 : v 1 = .agg #[.int .i64 b0, .int .i64 b1, .int .i64 b2, .int .i64 b3] := h1
                            have e3 : v 3 = .agg #[.int .i64 q0, .int .i64 q1] := h3
                            have e0 : v 0 = .agg #[.int .i64 a0, .int .i64 a1, .int .i64 a2] := h0
                            obtain ⟨g5_, e5, bb5, cc5⟩ := h5
                            simp only [Uni.fill, Uni.fillT, List.setIfInBounds_toArray, List.set_cons_zero, List.set_cons_succ, Nat.zero_add, Nat.reduceAdd, e4, e1, e3, e0, e5] at ha
                            subst ha
                            rcases cc4 with cc4 | cc4
                            · have hc_0 : w'.cell? ⟨g4_, 0, none⟩ = some (.int .i64 0) := (blk_cell cc4 0).trans rfl
                              have hc_1 : w'.cell? ⟨g4_, 1, none⟩ = some (.int .i64 0) := (blk_cell cc4 1).trans rfl
                              have hc_2 : w'.cell? ⟨g4_, 2, none⟩ = some (.int .i64 0) := (blk_cell cc4 2).trans rfl
                              have hc_3 : w'.cell? ⟨g4_, 3, none⟩ = some (.int .i64 0) := (blk_cell cc4 3).trans rfl
                              have hf_0 := blk_frozen cc4 0
                              have hf_1 := blk_frozen cc4 1
                              have hf_2 := blk_frozen cc4 2
                              have hf_3 := blk_frozen cc4 3
                              have hw : ((((w'.setCell ⟨g4_, 0, none⟩ (.int .i64 b0)).setCell ⟨g4_, 1, none⟩ (.int .i64 b1)).setCell ⟨g4_, 2, none⟩ (.int .i64 b2)).setCell ⟨g4_, 3, none⟩ (.int .i64 b3)).heap[g4_]? = some (.cells #[.int .i64 b0, .int .i64 b1, .int .i64 b2, .int .i64 b3] 44 (0, 0)) := (blk_put (blk_put (blk_put (blk_put cc4 0 (.int .i64 b0) (cs' := #[.int .i64 b0, .int .i64 0, .int .i64 0, .int .i64 0]) rfl) 1 (.int .i64 b1) (cs' := #[.int .i64 b0, .int .i64 b1, .int .i64 0, .int .i64 0]) rfl) 2 (.int .i64 b2) (cs' := #[.int .i64 b0, .int .i64 b1, .int .i64 b2, .int .i64 0]) rfl) 3 (.int .i64 b3) (cs' := #[.int .i64 b0, .int .i64 b1, .int .i64 b2, .int .i64 b3]) rfl)
                              have hne : ∀ g : Nat, g ≠ g4_ → ((((w'.setCell ⟨g4_, 0, none⟩ (.int .i64 b0)).setCell ⟨g4_, 1, none⟩ (.int .i64 b1)).setCell ⟨g4_, 2, none⟩ (.int .i64 b2)).setCell ⟨g4_, 3, none⟩ (.int .i64 b3)).heap[g]? = w'.heap[g]? := fun g hg => ((Below.heap_setCell _ _ _ g hg).trans ((Below.heap_setCell _ _ _ g hg).trans ((Below.heap_setCell _ _ _ g hg).trans ((Below.heap_setCell _ _ _ g hg)))))
                              have hbe : Below W4.heap.size W4 ((((w'.setCell ⟨g4_, 0, none⟩ (.int .i64 b0)).setCell ⟨g4_, 1, none⟩ (.int .i64 b1)).setCell ⟨g4_, 2, none⟩ (.int .i64 b2)).setCell ⟨g4_, 3, none⟩ (.int .i64 b3)) := by (repeat refine below_set ?_ bb4); exact hI
                              refine Uni.store_step (by rfl) (w1 := ((((w'.setCell ⟨g4_, 0, none⟩ (.int .i64 b0)).setCell ⟨g4_, 1, none⟩ (.int .i64 b1)).setCell ⟨g4_, 2, none⟩ (.int .i64 b2)).setCell ⟨g4_, 3, none⟩ (.int .i64 b3))) ?hr (hK undef _ hbe ⟨Uni.Turn.put hw hne, Uni.Turn.far cc4 (Uni.cells_ne (by decide)) (Uni.cells_ne (by decide)) hne⟩ ⟨g4_, e4, hw⟩)
                              case hr => first | (go_simp; done) | (go_simp; rfl)
                            · have hc_0 : w'.cell? ⟨g4_, 0, none⟩ = some (.int .i64 b0) := (blk_cell cc4 0).trans rfl
                              have hc_1 : w'.cell? ⟨g4_, 1, none⟩ = some (.int .i64 b1) := (blk_cell cc4 1).trans rfl
                              have hc_2 : w'.cell? ⟨g4_, 2, none⟩ = some (.int .i64 b2) := (blk_cell cc4 2).trans rfl
                              have hc_3 : w'.cell? ⟨g4_, 3, none⟩ = some (.int .i64 b3) := (blk_cell cc4 3).trans rfl
                              have hf_0 := blk_frozen cc4 0
                              have hf_1 := blk_frozen cc4 1
                              have hf_2 := blk_frozen cc4 2
                              have hf_3 := blk_frozen cc4 3
                              have hw : ((((w'.setCell ⟨g4_, 0, none⟩ (.int .i64 b0)).setCell ⟨g4_, 1, none⟩ (.int .i64 b1)).setCell ⟨g4_, 2, none⟩ (.int .i64 b2)).setCell ⟨g4_, 3, none⟩ (.int .i64 b3)).heap[g4_]? = some (.cells #[.int .i64 b0, .int .i64 b1, .int .i64 b2, .int .i64 b3] 44 (0, 0)) := (blk_put (blk_put (blk_put (blk_put cc4 0 (.int .i64 b0) (cs' := #[.int .i64 b0, .int .i64 b1, .int .i64 b2, .int .i64 b3]) rfl) 1 (.int .i64 b1) (cs' := #[.int .i64 b0, .int .i64 b1, .int .i64 b2, .int .i64 b3]) rfl) 2 (.int .i64 b2) (cs' := #[.int .i64 b0, .int .i64 b1, .int .i64 b2, .int .i64 b3]) rfl) 3 (.int .i64 b3) (cs' := #[.int .i64 b0, .int .i64 b1, .int .i64 b2, .int .i64 b3]) rfl)
                              have hne : ∀ g : Nat, g ≠ g4_ → ((((w'.setCell ⟨g4_, 0, none⟩ (.int .i64 b0)).setCell ⟨g4_, 1, none⟩ (.int .i64 b1)).setCell ⟨g4_, 2, none⟩ (.int .i64 b2)).setCell ⟨g4_, 3, none⟩ (.int .i64 b3)).heap[g]? = w'.heap[g]? := fun g hg => ((Below.heap_setCell _ _ _ g hg).trans ((Below.heap_setCell _ _ _ g hg).trans ((Below.heap_setCell _ _ _ g hg).trans ((Below.heap_setCell _ _ _ g hg)))))
                              have hbe : Below W4.heap.size W4 ((((w'.setCell ⟨g4_, 0, none⟩ (.int .i64 b0)).setCell ⟨g4_, 1, none⟩ (.int .i64 b1)).setCell ⟨g4_, 2, none⟩ (.int .i64 b2)).setCell ⟨g4_, 3, none⟩ (.int .i64 b3)) := by (repeat refine below_set ?_ bb4); exact hI
                              refine Uni.store_step (by rfl) (w1 := ((((w'.setCell ⟨g4_, 0, none⟩ (.int .i64 b0)).setCell ⟨g4_, 1, none⟩ (.int .i64 b1)).setCell ⟨g4_, 2, none⟩ (.int .i64 b2)).setCell ⟨g4_, 3, none⟩ (.int .i64 b3))) ?hr (hK undef _ hbe ⟨Uni.Turn.put hw hne, Uni.Turn.far cc4 (Uni.cells_ne (by decide)) (Uni.cells_ne (by decide)) hne⟩ ⟨g4_, e4, hw⟩)
                              case hr => first | (go_simp; done) | (go_simp; rfl)
                          · rintro v w' hI ⟨h5, h3, h6, h0, h1, h2, _, h4, _, _, -⟩ a' ha K hK
                            obtain ⟨g5_, e5, bb5, cc5⟩ := h5
                            have e3 : v 3 = .agg #[.int .i64 q0, .int .i64 q1] := h3
                            have e0 : v 0 = .agg #[.int .i64 a0, .int .i64 a1, .int .i64 a2] := h0
                            have e1 : v 1 = .agg #[.int .i64 b0, .int .i64 b1, .int .i64 b2, .int .i64 b3] := h1
                            have e2 : v 2 = .agg #[.int .i64 p0, .int .i64 p1] := h2
                            obtain ⟨g4_, e4, bb4, cc4⟩ := h4
                            simp only [Uni.fill, Uni.fillT, List.setIfInBounds_toArray, List.set_cons_zero, List.set_cons_succ, Nat.zero_add, Nat.reduceAdd, e5, e3, e0, e1, e2, e4] at ha
                            subst ha
                            rcases cc5 with cc5 | cc5
                            · have hc_0 : w'.cell? ⟨g5_, 0, none⟩ = some (.int .i64 0) := (blk_cell cc5 0).trans rfl
                              have hc_1 : w'.cell? ⟨g5_, 1, none⟩ = some (.int .i64 0) := (blk_cell cc5 1).trans rfl
                              have hf_0 := blk_frozen cc5 0
                              have hf_1 := blk_frozen cc5 1
                              have hw : ((w'.setCell ⟨g5_, 0, none⟩ (.int .i64 q0)).setCell ⟨g5_, 1, none⟩ (.int .i64 q1)).heap[g5_]? = some (.cells #[.int .i64 q0, .int .i64 q1] 31 (0, 0)) := (blk_put (blk_put cc5 0 (.int .i64 q0) (cs' := #[.int .i64 q0, .int .i64 0]) rfl) 1 (.int .i64 q1) (cs' := #[.int .i64 q0, .int .i64 q1]) rfl)
                              have hne : ∀ g : Nat, g ≠ g5_ → ((w'.setCell ⟨g5_, 0, none⟩ (.int .i64 q0)).setCell ⟨g5_, 1, none⟩ (.int .i64 q1)).heap[g]? = w'.heap[g]? := fun g hg => ((Below.heap_setCell _ _ _ g hg).trans ((Below.heap_setCell _ _ _ g hg)))
                              have hbe : Below W4.heap.size W4 ((w'.setCell ⟨g5_, 0, none⟩ (.int .i64 q0)).setCell ⟨g5_, 1, none⟩ (.int .i64 q1)) := by (repeat refine below_set ?_ bb5); exact hI
                              refine Uni.store_step (by rfl) (w1 := ((w'.setCell ⟨g5_, 0, none⟩ (.int .i64 q0)).setCell ⟨g5_, 1, none⟩ (.int .i64 q1))) ?hr (hK undef _ hbe ⟨Uni.Turn.far cc5 (Uni.cells_ne (by decide)) (Uni.cells_ne (by decide)) hne, Uni.Turn.put hw hne⟩ ⟨g5_, e5, hw⟩)
                              case hr => first | (go_simp; done) | (go_simp; rfl)
                            · have hc_0 : w'.cell? ⟨g5_, 0, none⟩ = some (.int .i64 q0) := (blk_cell cc5 0).trans rfl
                              have hc_1 : w'.cell? ⟨g5_, 1, none⟩ = some (.int .i64 q1) := (blk_cell cc5 1).trans rfl
                              have hf_0 := blk_frozen cc5 0
                              have hf_1 := blk_frozen cc5 1
                              have hw : ((w'.setCell ⟨g5_, 0, none⟩ (.int .i64 q0)).setCell ⟨g5_, 1, none⟩ (.int .i64 q1)).heap[g5_]? = some (.cells #[.int .i64 q0, .int .i64 q1] 31 (0, 0)) := (blk_put (blk_put cc5 0 (.int .i64 q0) (cs' := #[.int .i64 q0, .int .i64 q1]) rfl) 1 (.int .i64 q1) (cs' := #[.int .i64 q0, .int .i64 q1]) rfl)
                              have hne : ∀ g : Nat, g ≠ g5_ → ((w'.setCell ⟨g5_, 0, none⟩ (.int .i64 q0)).setCell ⟨g5_, 1, none⟩ (.int .i64 q1)).heap[g]? = w'.heap[g]? := fun g hg => ((Below.heap_setCell _ _ _ g hg).trans ((Below.heap_setCell _ _ _ g hg)))
                              have hbe : Below W4.heap.size W4 ((w'.setCell ⟨g5_, 0, none⟩ (.int .i64 q0)).setCell ⟨g5_, 1, none⟩ (.int .i64 q1)) := by (repeat refine below_set ?_ bb5); exact hI
                              refine Uni.store_step (by rfl) (w1 := ((w'.setCell ⟨g5_, 0, none⟩ (.int .i64 q0)).setCell ⟨g5_, 1, none⟩ (.int .i64 q1))) ?hr (hK undef _ hbe ⟨Uni.Turn.far cc5 (Uni.cells_ne (by decide)) (Uni.cells_ne (by decide)) hne, Uni.Turn.put hw hne⟩ ⟨g5_, e5, hw⟩)
                              case hr => first | (go_simp; done) | (go_simp; rfl)
                          · intro v w' hI hR a' ha
                            obtain ⟨g17_, e4, c6⟩ := hR 6 (by decide)
                            obtain ⟨g18_, e5, c7⟩ := hR 7 (by decide)
                            simp only [Uni.fill, Uni.fillT, List.setIfInBounds_toArray, List.set_cons_zero, List.set_cons_succ, Nat.zero_add, Nat.reduceAdd, e4, e5] at ha
                            subst ha
                            go_wp2_with (fail)
                            go_meet
                            case rel => exact ⟨⟨g17_, rfl, ⟨c6⟩⟩, ⟨g18_, rfl, ⟨c7⟩⟩, ⟨hI⟩⟩
                        case rest =>
                          clear HS
                          obtain ⟨⟨g17, rfl, BK17⟩, ⟨g18, rfl, BK18⟩, HS⟩ := hcut
                          obtain ⟨W5, rfl⟩ : ∃ x, x = wc := ⟨_, rfl⟩
                          replace BK4 := Aside0.mk (blk_below BK4.out HS.out)
                          replace BK5 := Aside0.mk (blk_below BK5.out HS.out)
                          replace BK6 := Aside0.mk (blk_below BK6.out HS.out)
                          replace BK11 := Aside0.mk (blk_below BK11.out HS.out)
                          replace BK13 := Aside0.mk (blk_below BK13.out HS.out)
                          replace HB := Aside0.mk (below_step HB.out HS.out)
                          clear HS
                          have HS := Aside0.mk (Below.refl W5.heap.size W5)
                          obtain ⟨un, hun⟩ : ∃ x, x = (wrap64 (Int.tdiv (wrap64 (b2 - b0)) 256)) := ⟨_, rfl⟩
                          have HW0_ := HW0.out
                          rw [← hun] at HW0_
                          clear HW0
                          have HW1_ := HW1.out
                          rw [← hun] at HW1_
                          clear HW1
                          have X0_ := X0.out
                          rw [← hun] at X0_
                          clear X0
                          have X1_ := X1.out
                          rw [← hun] at X1_
                          clear X1
                          have Y0_ := Y0.out
                          rw [← hun] at Y0_
                          clear Y0
                          have Y1_ := Y1.out
                          rw [← hun] at Y1_
                          clear Y1
                          go_upto_region 24 with (fail)
                          go_cut [19] from 196 to 203 (fun v19 wd => v19 = .int .i64 un ∧ Aside0 (Below W5.heap.size W5 wd))
                          case first =>
                            have hc17_0 : W5.cell? ⟨g17, 0, none⟩ = some (.int .i64 b0) := (blk_cell (blk_below BK17.out HS.out) 0).trans rfl
                            have hc17_1 : W5.cell? ⟨g17, 1, none⟩ = some (.int .i64 b1) := (blk_cell (blk_below BK17.out HS.out) 1).trans rfl
                            have hc17_2 : W5.cell? ⟨g17, 2, none⟩ = some (.int .i64 b2) := (blk_cell (blk_below BK17.out HS.out) 2).trans rfl
                            have hc17_3 : W5.cell? ⟨g17, 3, none⟩ = some (.int .i64 b3) := (blk_cell (blk_below BK17.out HS.out) 3).trans rfl
                            have hf17_0 := blk_frozen (blk_below BK17.out HS.out) 0
                            have hf17_1 := blk_frozen (blk_below BK17.out HS.out) 1
                            have hf17_2 := blk_frozen (blk_below BK17.out HS.out) 2
                            have hf17_3 := blk_frozen (blk_below BK17.out HS.out) 3
                            clear X0_ X1_ Y0_ Y1_ HW0_ HW1_
                            go_wp2
                            go_meet
                            case rel => exact ⟨by rw [hun], ⟨(by repeat (first | (with_reducible first | exact HS.out | apply below_alloc | apply pw_below_drewN | apply below_drew1) | exact HS.out))⟩⟩
                          case rest =>
                            clear HS
                            obtain ⟨rfl, HS⟩ := hcut
                            clear hun
                            have HW0 := Aside0.mk HW0_
                            have HW1 := Aside0.mk HW1_
                            have X0 := Aside0.mk X0_
                            have X1 := Aside0.mk X1_
                            have Y0 := Aside0.mk Y0_
                            have Y1 := Aside0.mk Y1_
                            clear HW0_ HW1_ X0_ X1_ Y0_ Y1_
                            obtain ⟨W6, rfl⟩ : ∃ x, x = wc := ⟨_, rfl⟩
                            replace BK4 := Aside0.mk (blk_below BK4.out HS.out)
                            replace BK5 := Aside0.mk (blk_below BK5.out HS.out)
                            replace BK6 := Aside0.mk (blk_below BK6.out HS.out)
                            replace BK11 := Aside0.mk (blk_below BK11.out HS.out)
                            replace BK13 := Aside0.mk (blk_below BK13.out HS.out)
                            replace BK17 := Aside0.mk (blk_below BK17.out HS.out)
                            replace BK18 := Aside0.mk (blk_below BK18.out HS.out)
                            replace HB := Aside0.mk (below_step HB.out HS.out)
                            clear HS
                            have HS := Aside0.mk (Below.refl W6.heap.size W6)
                            go_upto_region 25 with (fail)
                            go_cut [20] from 204 to 206 (fun v20 wd => (∃ g : Nat, v20 = .pointer (some ⟨g, 0, none⟩) ∧ Aside0 (wd.heap[g]? = some (.cells #[.int .i64 l0, .int .i64 l1] 31 (0, 0)))) ∧ Aside0 (Below W6.heap.size W6 wd))
                            case first =>
                              have hc4_0 : W6.cell? ⟨g4, 0, none⟩ = some (.int .i64 a0) := (blk_cell (blk_below BK4.out HS.out) 0).trans rfl
                              have hc4_1 : W6.cell? ⟨g4, 1, none⟩ = some (.int .i64 a1) := (blk_cell (blk_below BK4.out HS.out) 1).trans rfl
                              have hc4_2 : W6.cell? ⟨g4, 2, none⟩ = some (.int .i64 a2) := (blk_cell (blk_below BK4.out HS.out) 2).trans rfl
                              have hf4_0 := blk_frozen (blk_below BK4.out HS.out) 0
                              have hf4_1 := blk_frozen (blk_below BK4.out HS.out) 1
                              have hf4_2 := blk_frozen (blk_below BK4.out HS.out) 2
                              have hc6_0 : W6.cell? ⟨g6, 0, none⟩ = some (.int .i64 p0) := (blk_cell (blk_below BK6.out HS.out) 0).trans rfl
                              have hc6_1 : W6.cell? ⟨g6, 1, none⟩ = some (.int .i64 p1) := (blk_cell (blk_below BK6.out HS.out) 1).trans rfl
                              have hf6_0 := blk_frozen (blk_below BK6.out HS.out) 0
                              have hf6_1 := blk_frozen (blk_below BK6.out HS.out) 1
                              go_wp2_with (first | ((with_reducible refine gate_callee (f := 19) rfl ?_); refine goesL_ (some 206) rfl rfl Try.func19 (by kernel_rfl) rfl #[.agg #[.int .i64 a0, .int .i64 a1, .int .i64 a2], .agg #[.int .i64 p0, .int .i64 p1]] rfl (by (try simp only [List.map_toArray, List.map_cons, List.map_nil]); first | done | rfl) ?_; (refine (tile_Local.calls a0 a1 a2 p0 p1 l0 l1 _ SG.out).mono ?_); rintro e_ w10 ⟨rfl, hb⟩; refine ⟨_, rfl, ?_⟩; replace HS := Aside0.mk (below_step (by repeat (first | (with_reducible first | exact HS.out | apply below_alloc | apply pw_below_drewN | apply below_drew1) | exact HS.out)) hb); clear hb) | ((with_reducible refine gate_dst (N := 20) rfl ?_); refine box_event ?hg (N := 20) ?hd (cs := #[.int .i64 0, .int .i64 0]) (t := 31) ?hr ?_; (case hd => rfl); (case hg => rfl); (case hr => first | (go_simp; done) | (go_simp; rfl)); intro g20 hg w20 hbox hb; have BK20 := Aside0.mk hbox; have GE20 := Aside0.mk ((by rw [hg]; exact below_size (by repeat (first | (with_reducible first | exact HS.out | apply below_alloc | apply pw_below_drewN | apply below_drew1) | exact HS.out))) : W6.heap.size ≤ g20); replace HS := Aside0.mk (below_step (by repeat (first | (with_reducible first | exact HS.out | apply below_alloc | apply pw_below_drewN | apply below_drew1) | exact HS.out)) hb); clear hb hbox hg; have hc20_0 : w20.cell? ⟨g20, 0, none⟩ = some (.int .i64 0) := (blk_cell BK20.out 0).trans rfl; have hf20_0 := blk_frozen BK20.out 0; have hc20_1 : w20.cell? ⟨g20, 1, none⟩ = some (.int .i64 0) := (blk_cell BK20.out 1).trans rfl; have hf20_1 := blk_frozen BK20.out 1))
                              go_meet
                              case rel => exact ⟨⟨_, rfl, ⟨by (with_reducible repeat (first | refine blk_drewN ?_ _ | refine blk_drew ?_ | refine blk_alloc ?_ _)); refine blk_put (cs := #[.int .i64 l0, .int .i64 0]) ?_ 1 _ rfl; (with_reducible repeat (first | refine blk_drewN ?_ _ | refine blk_drew ?_ | refine blk_alloc ?_ _)); refine blk_put (cs := #[.int .i64 0, .int .i64 0]) ?_ 0 _ rfl; (with_reducible repeat (first | refine blk_drewN ?_ _ | refine blk_drew ?_ | refine blk_alloc ?_ _)); exact BK20.out⟩⟩, ⟨(by repeat (first | (with_reducible first | exact HS.out | apply below_alloc | apply pw_below_drewN | apply below_drew1 | refine below_set ?_ GE20.out) | exact HS.out))⟩⟩
                            case rest =>
                              clear HS
                              obtain ⟨⟨g20, rfl, BK20⟩, HS⟩ := hcut
                              obtain ⟨W7, rfl⟩ : ∃ x, x = wc := ⟨_, rfl⟩
                              replace BK4 := Aside0.mk (blk_below BK4.out HS.out)
                              replace BK5 := Aside0.mk (blk_below BK5.out HS.out)
                              replace BK6 := Aside0.mk (blk_below BK6.out HS.out)
                              replace BK11 := Aside0.mk (blk_below BK11.out HS.out)
                              replace BK13 := Aside0.mk (blk_below BK13.out HS.out)
                              replace BK17 := Aside0.mk (blk_below BK17.out HS.out)
                              replace BK18 := Aside0.mk (blk_below BK18.out HS.out)
                              replace HB := Aside0.mk (below_step HB.out HS.out)
                              clear HS
                              have HS := Aside0.mk (Below.refl W7.heap.size W7)
                              go_upto_region 26 with (fail)
                              go_cut [21] from 207 to 223 (fun v21 wd => (∃ g : Nat, v21 = .pointer (some ⟨g, 0, none⟩) ∧ Aside0 (wd.heap[g]? = some (.cells #[.int .i64 w0, .int .i64 w1] 31 (0, 0)))) ∧ Aside0 (Below W7.heap.size W7 wd))
                              case first =>
                                have hc17_0 : W7.cell? ⟨g17, 0, none⟩ = some (.int .i64 b0) := (blk_cell (blk_below BK17.out HS.out) 0).trans rfl
                                have hc17_1 : W7.cell? ⟨g17, 1, none⟩ = some (.int .i64 b1) := (blk_cell (blk_below BK17.out HS.out) 1).trans rfl
                                have hc17_2 : W7.cell? ⟨g17, 2, none⟩ = some (.int .i64 b2) := (blk_cell (blk_below BK17.out HS.out) 2).trans rfl
                                have hc17_3 : W7.cell? ⟨g17, 3, none⟩ = some (.int .i64 b3) := (blk_cell (blk_below BK17.out HS.out) 3).trans rfl
                                have hf17_0 := blk_frozen (blk_below BK17.out HS.out) 0
                                have hf17_1 := blk_frozen (blk_below BK17.out HS.out) 1
                                have hf17_2 := blk_frozen (blk_below BK17.out HS.out) 2
                                have hf17_3 := blk_frozen (blk_below BK17.out HS.out) 3
                                have hc18_0 : W7.cell? ⟨g18, 0, none⟩ = some (.int .i64 q0) := (blk_cell (blk_below BK18.out HS.out) 0).trans rfl
                                have hc18_1 : W7.cell? ⟨g18, 1, none⟩ = some (.int .i64 q1) := (blk_cell (blk_below BK18.out HS.out) 1).trans rfl
                                have hf18_0 := blk_frozen (blk_below BK18.out HS.out) 0
                                have hf18_1 := blk_frozen (blk_below BK18.out HS.out) 1
                                have e0 := HW0.out.symm
                                have e1 := HW1.out.symm
                                go_wp2_with (first | ((with_reducible refine gate_dst (N := 21) rfl ?_); refine box_event ?hg (N := 21) ?hd (cs := #[.int .i64 0, .int .i64 0]) (t := 31) ?hr ?_; (case hd => rfl); (case hg => rfl); (case hr => first | (go_simp; done) | (go_simp; rfl)); intro g21 hg w21 hbox hb; have BK21 := Aside0.mk hbox; have GE21 := Aside0.mk ((by rw [hg]; exact below_size (by repeat (first | (with_reducible first | exact HS.out | apply below_alloc | apply pw_below_drewN | apply below_drew1) | exact HS.out))) : W7.heap.size ≤ g21); replace HS := Aside0.mk (below_step (by repeat (first | (with_reducible first | exact HS.out | apply below_alloc | apply pw_below_drewN | apply below_drew1) | exact HS.out)) hb); clear hb hbox hg; have hc21_0 : w21.cell? ⟨g21, 0, none⟩ = some (.int .i64 0) := (blk_cell BK21.out 0).trans rfl; have hf21_0 := blk_frozen BK21.out 0; have hc21_1 : w21.cell? ⟨g21, 1, none⟩ = some (.int .i64 0) := (blk_cell BK21.out 1).trans rfl; have hf21_1 := blk_frozen BK21.out 1))
                                go_meet
                                case rel => exact ⟨⟨_, rfl, ⟨by (with_reducible repeat (first | refine blk_drewN ?_ _ | refine blk_drew ?_ | refine blk_alloc ?_ _)); refine blk_put (cs := #[.int .i64 w0, .int .i64 0]) ?_ 1 _ rfl; (with_reducible repeat (first | refine blk_drewN ?_ _ | refine blk_drew ?_ | refine blk_alloc ?_ _)); refine blk_put (cs := #[.int .i64 0, .int .i64 0]) ?_ 0 _ rfl; (with_reducible repeat (first | refine blk_drewN ?_ _ | refine blk_drew ?_ | refine blk_alloc ?_ _)); exact BK21.out⟩⟩, ⟨(by repeat (first | (with_reducible first | exact HS.out | apply below_alloc | apply pw_below_drewN | apply below_drew1 | refine below_set ?_ GE21.out) | exact HS.out))⟩⟩
                              case rest =>
                                clear HS
                                obtain ⟨⟨g21, rfl, BK21⟩, HS⟩ := hcut
                                obtain ⟨W8, rfl⟩ : ∃ x, x = wc := ⟨_, rfl⟩
                                replace BK4 := Aside0.mk (blk_below BK4.out HS.out)
                                replace BK5 := Aside0.mk (blk_below BK5.out HS.out)
                                replace BK6 := Aside0.mk (blk_below BK6.out HS.out)
                                replace BK11 := Aside0.mk (blk_below BK11.out HS.out)
                                replace BK13 := Aside0.mk (blk_below BK13.out HS.out)
                                replace BK17 := Aside0.mk (blk_below BK17.out HS.out)
                                replace BK18 := Aside0.mk (blk_below BK18.out HS.out)
                                replace BK20 := Aside0.mk (blk_below BK20.out HS.out)
                                replace HB := Aside0.mk (below_step HB.out HS.out)
                                clear HS
                                have HS := Aside0.mk (Below.refl W8.heap.size W8)
                                obtain ⟨xx, hxx⟩ : ∃ x, x = (wrap64 (wrap64 (q0 - b0) - wrap64 (l0 * un))) := ⟨_, rfl⟩
                                obtain ⟨yy, hyy⟩ : ∃ x, x = (wrap64 (wrap64 (q1 - b1) - wrap64 (l1 * un))) := ⟨_, rfl⟩
                                have X0_ := X0.out
                                rw [← hxx] at X0_
                                clear X0
                                have X1_ := X1.out
                                rw [← hxx] at X1_
                                clear X1
                                have Y0_ := Y0.out
                                rw [← hyy] at Y0_
                                clear Y0
                                have Y1_ := Y1.out
                                rw [← hyy] at Y1_
                                clear Y1
                                have X0 := Aside0.mk X0_
                                clear X0_
                                have X1 := Aside0.mk X1_
                                clear X1_
                                have Y0 := Aside0.mk Y0_
                                clear Y0_
                                have Y1 := Aside0.mk Y1_
                                clear Y1_
                                have HXX := Aside0.mk hxx
                                have HYY := Aside0.mk hyy
                                clear hxx hyy
                                go_upto_region 27 with (fail)
                                go_cut [22, 23] from 224 to 245 (fun v22 v23 wd => v22 = .int .i64 xx ∧ v23 = .int .i64 yy ∧ Aside0 (Below W8.heap.size W8 wd))
                                case first =>
                                  refine Uni.uni_ (fun w1 => Below W8.heap.size W8 w1) (fun w1 w2 => Below w1.heap.size w1 w2) (Uni.RV [some (.pointer (some ⟨g18, 0, none⟩)), some (.int .i64 q0), some (.pointer (some ⟨g17, 0, none⟩)), some (.pointer (some ⟨g17, 0, none⟩)), some (.int .i64 b0), some (.int .i64 (wrap64 (q0 - b0))), some (.pointer (some ⟨g20, 0, none⟩)), some (.int .i64 l0), some (.int .i64 un), some (.int .i64 (wrap64 (l0 * un))), some (.int .i64 xx), some (.pointer (some ⟨g18, 1, none⟩)), some (.int .i64 q1), some (.pointer (some ⟨g17, 0, none⟩)), some (.pointer (some ⟨g17, 1, none⟩)), some (.int .i64 b1), some (.int .i64 (wrap64 (q1 - b1))), some (.pointer (some ⟨g20, 1, none⟩)), some (.int .i64 l1), some (.int .i64 un), some (.int .i64 (wrap64 (l1 * un))), some (.int .i64 yy), some (.int .i64 xx), some (.int .i64 yy)] (fun i x w1 => True)) [some 224, some 225, some 226, some 227, some 228, some 229, some 230, some 231, some 232, some 233, some 234, some 235, some 236, some 237, some 238, some 239, some 240, some 241, some 242, some 243, some 244, some 245, some 22, some 23] [[], [0], [], [2], [3], [1, 4], [], [6], [], [7, 8], [5, 9], [], [11], [], [13], [14], [12, 15], [], [17], [], [18, 19], [16, 20], [10, 0, 1, 2, 3, 4, 5, 6, 7, 8, 9, 10], [21, 22, 0, 1, 2, 3, 4, 5, 6, 7, 8, 9, 10, 11, 12, 13, 14, 15, 16, 17, 18, 19, 20, 21, 22]] (by kernel_rfl) (by kernel_rfl) (by kernel_rfl) (by kernel_rfl) (by kernel_rfl) (Uni.RV_st (fun _ _ _ _ _ _ h => h)) (below_drew1 HS.out) ⟨?_, ?_, ?_, ?_, ?_, ?_, ?_, ?_, ?_, ?_, ?_, ?_, ?_, ?_, ?_, ?_, ?_, ?_, ?_, ?_, ?_, ?_, ?_, ?_, trivial⟩ ?_
                                  · rintro v w' hI - a' ha K hK
                                    simp only [Uni.fill, Uni.fillT, List.setIfInBounds_toArray, List.set_cons_zero, List.set_cons_succ, Nat.zero_add, Nat.reduceAdd] at ha
                                    subst ha
                                    skip
                                    refine event_step (by rfl) (w1 := w') (v := .pointer (some ⟨g18, 0, none⟩)) ?_ (hK _ _ hI (Below.refl _ _) rfl)
                                    go_simp
                                    try rfl
                                  · rintro v w' hI ⟨h0, -⟩ a' ha K hK
                                    have e0 : v 0 = .pointer (some ⟨g18, 0, none⟩) := h0
                                    simp only [Uni.fill, Uni.fillT, List.setIfInBounds_toArray, List.set_cons_zero, List.set_cons_succ, Nat.zero_add, Nat.reduceAdd, e0] at ha
                                    subst ha
                                    clear e0
                                    have hs18_0 : w'.cell? ⟨g18, 0, none⟩ = some (.int .i64 q0) := (blk_cell (blk_below BK18.out hI) 0).trans rfl
                                    have hs18_1 : w'.cell? ⟨g18, 1, none⟩ = some (.int .i64 q1) := (blk_cell (blk_below BK18.out hI) 1).trans rfl
                                    refine event_step (by rfl) (w1 := w') (v := .int .i64 q0) ?_ (hK _ _ hI (Below.refl _ _) rfl)
                                    go_simp
                                    try rfl
                                  · rintro v w' hI - a' ha K hK
                                    simp only [Uni.fill, Uni.fillT, List.setIfInBounds_toArray, List.set_cons_zero, List.set_cons_succ, Nat.zero_add, Nat.reduceAdd] at ha
                                    subst ha
                                    skip
                                    refine event_step (by rfl) (w1 := w') (v := .pointer (some ⟨g17, 0, none⟩)) ?_ (hK _ _ hI (Below.refl _ _) rfl)
                                    go_simp
                                    try rfl
                                  · rintro v w' hI ⟨h2, -⟩ a' ha K hK
                                    have e2 : v 2 = .pointer (some ⟨g17, 0, none⟩) := h2
                                    simp only [Uni.fill, Uni.fillT, List.setIfInBounds_toArray, List.set_cons_zero, List.set_cons_succ, Nat.zero_add, Nat.reduceAdd, e2] at ha
                                    subst ha
                                    clear e2
                                    refine event_step (by rfl) (w1 := w') (v := .pointer (some ⟨g17, 0, none⟩)) ?_ (hK _ _ hI (Below.refl _ _) rfl)
                                    go_simp
                                    try rfl
                                  · rintro v w' hI ⟨h3, -⟩ a' ha K hK
                                    have e3 : v 3 = .pointer (some ⟨g17, 0, none⟩) := h3
                                    simp only [Uni.fill, Uni.fillT, List.setIfInBounds_toArray, List.set_cons_zero, List.set_cons_succ, Nat.zero_add, Nat.reduceAdd, e3] at ha
                                    subst ha
                                    clear e3
                                    have hs17_0 : w'.cell? ⟨g17, 0, none⟩ = some (.int .i64 b0) := (blk_cell (blk_below BK17.out hI) 0).trans rfl
                                    have hs17_1 : w'.cell? ⟨g17, 1, none⟩ = some (.int .i64 b1) := (blk_cell (blk_below BK17.out hI) 1).trans rfl
                                    have hs17_2 : w'.cell? ⟨g17, 2, none⟩ = some (.int .i64 b2) := (blk_cell (blk_below BK17.out hI) 2).trans rfl
                                    have hs17_3 : w'.cell? ⟨g17, 3, none⟩ = some (.int .i64 b3) := (blk_cell (blk_below BK17.out hI) 3).trans rfl
                                    refine event_step (by rfl) (w1 := w') (v := .int .i64 b0) ?_ (hK _ _ hI (Below.refl _ _) rfl)
                                    go_simp
                                    try rfl
                                  · rintro v w' hI ⟨h1, h4, -⟩ a' ha K hK
                                    have e1 : v 1 = .int .i64 q0 := h1
                                    have e4 : v 4 = .int .i64 b0 := h4
                                    simp only [Uni.fill, Uni.fillT, List.setIfInBounds_toArray, List.set_cons_zero, List.set_cons_succ, Nat.zero_add, Nat.reduceAdd, e1, e4] at ha
                                    subst ha
                                    clear e1 e4
                                    refine event_step (by rfl) (w1 := w') (v := .int .i64 (wrap64 (q0 - b0))) ?_ (hK _ _ hI (Below.refl _ _) rfl)
                                    go_simp
                                    exact i64_w _
                                  · rintro v w' hI - a' ha K hK
                                    simp only [Uni.fill, Uni.fillT, List.setIfInBounds_toArray, List.set_cons_zero, List.set_cons_succ, Nat.zero_add, Nat.reduceAdd] at ha
                                    subst ha
                                    skip
                                    refine event_step (by rfl) (w1 := w') (v := .pointer (some ⟨g20, 0, none⟩)) ?_ (hK _ _ hI (Below.refl _ _) rfl)
                                    go_simp
                                    try rfl
                                  · rintro v w' hI ⟨h6, -⟩ a' ha K hK
                                    have e6 : v 6 = .pointer (some ⟨g20, 0, none⟩) := h6
                                    simp only [Uni.fill, Uni.fillT, List.setIfInBounds_toArray, List.set_cons_zero, List.set_cons_succ, Nat.zero_add, Nat.reduceAdd, e6] at ha
                                    subst ha
                                    clear e6
                                    have hs20_0 : w'.cell? ⟨g20, 0, none⟩ = some (.int .i64 l0) := (blk_cell (blk_below BK20.out hI) 0).trans rfl
                                    have hs20_1 : w'.cell? ⟨g20, 1, none⟩ = some (.int .i64 l1) := (blk_cell (blk_below BK20.out hI) 1).trans rfl
                                    refine event_step (by rfl) (w1 := w') (v := .int .i64 l0) ?_ (hK _ _ hI (Below.refl _ _) rfl)
                                    go_simp
                                    try rfl
                                  · rintro v w' hI - a' ha K hK
                                    simp only [Uni.fill, Uni.fillT, List.setIfInBounds_toArray, List.set_cons_zero, List.set_cons_succ, Nat.zero_add, Nat.reduceAdd] at ha
                                    subst ha
                                    skip
                                    refine event_step (by rfl) (w1 := w') (v := .int .i64 un) ?_ (hK _ _ hI (Below.refl _ _) rfl)
                                    go_simp
                                    try rfl
                                  · rintro v w' hI ⟨h7, h8, -⟩ a' ha K hK
                                    have e7 : v 7 = .int .i64 l0 := h7
                                    have e8 : v 8 = .int .i64 un := h8
                                    simp only [Uni.fill, Uni.fillT, List.setIfInBounds_toArray, List.set_cons_zero, List.set_cons_succ, Nat.zero_add, Nat.reduceAdd, e7, e8] at ha
                                    subst ha
                                    clear e7 e8
                                    refine event_step (by rfl) (w1 := w') (v := .int .i64 (wrap64 (l0 * un))) ?_ (hK _ _ hI (Below.refl _ _) rfl)
                                    go_simp
                                    exact i64_w _
                                  · rintro v w' hI ⟨h5, h9, -⟩ a' ha K hK
                                    have e5 : v 5 = .int .i64 (wrap64 (q0 - b0)) := h5
                                    have e9 : v 9 = .int .i64 (wrap64 (l0 * un)) := h9
                                    simp only [Uni.fill, Uni.fillT, List.setIfInBounds_toArray, List.set_cons_zero, List.set_cons_succ, Nat.zero_add, Nat.reduceAdd, e5, e9] at ha
                                    subst ha
                                    clear e5 e9
                                    refine event_step (by rfl) (w1 := w') (v := .int .i64 xx) ?_ (hK _ _ hI (Below.refl _ _) rfl)
                                    have ee := HXX.out.symm
                                    go_simp
                                    exact (i64_w _).trans ee
                                  · rintro v w' hI - a' ha K hK
                                    simp only [Uni.fill, Uni.fillT, List.setIfInBounds_toArray, List.set_cons_zero, List.set_cons_succ, Nat.zero_add, Nat.reduceAdd] at ha
                                    subst ha
                                    skip
                                    refine event_step (by rfl) (w1 := w') (v := .pointer (some ⟨g18, 1, none⟩)) ?_ (hK _ _ hI (Below.refl _ _) rfl)
                                    go_simp
                                    try rfl
                                  · rintro v w' hI ⟨h11, -⟩ a' ha K hK
                                    have e11 : v 11 = .pointer (some ⟨g18, 1, none⟩) := h11
                                    simp only [Uni.fill, Uni.fillT, List.setIfInBounds_toArray, List.set_cons_zero, List.set_cons_succ, Nat.zero_add, Nat.reduceAdd, e11] at ha
                                    subst ha
                                    clear e11
                                    have hs18_0 : w'.cell? ⟨g18, 0, none⟩ = some (.int .i64 q0) := (blk_cell (blk_below BK18.out hI) 0).trans rfl
                                    have hs18_1 : w'.cell? ⟨g18, 1, none⟩ = some (.int .i64 q1) := (blk_cell (blk_below BK18.out hI) 1).trans rfl
                                    refine event_step (by rfl) (w1 := w') (v := .int .i64 q1) ?_ (hK _ _ hI (Below.refl _ _) rfl)
                                    go_simp
                                    try rfl
                                  · rintro v w' hI - a' ha K hK
                                    simp only [Uni.fill, Uni.fillT, List.setIfInBounds_toArray, List.set_cons_zero, List.set_cons_succ, Nat.zero_add, Nat.reduceAdd] at ha
                                    subst ha
                                    skip
                                    refine event_step (by rfl) (w1 := w') (v := .pointer (some ⟨g17, 0, none⟩)) ?_ (hK _ _ hI (Below.refl _ _) rfl)
                                    go_simp
                                    try rfl
                                  · rintro v w' hI ⟨h13, -⟩ a' ha K hK
                                    have e13 : v 13 = .pointer (some ⟨g17, 0, none⟩) := h13
                                    simp only [Uni.fill, Uni.fillT, List.setIfInBounds_toArray, List.set_cons_zero, List.set_cons_succ, Nat.zero_add, Nat.reduceAdd, e13] at ha
                                    subst ha
                                    clear e13
                                    refine event_step (by rfl) (w1 := w') (v := .pointer (some ⟨g17, 1, none⟩)) ?_ (hK _ _ hI (Below.refl _ _) rfl)
                                    go_simp
                                    try rfl
                                  · rintro v w' hI ⟨h14, -⟩ a' ha K hK
                                    have e14 : v 14 = .pointer (some ⟨g17, 1, none⟩) := h14
                                    simp only [Uni.fill, Uni.fillT, List.setIfInBounds_toArray, List.set_cons_zero, List.set_cons_succ, Nat.zero_add, Nat.reduceAdd, e14] at ha
                                    subst ha
                                    clear e14
                                    have hs17_0 : w'.cell? ⟨g17, 0, none⟩ = some (.int .i64 b0) := (blk_cell (blk_below BK17.out hI) 0).trans rfl
                                    have hs17_1 : w'.cell? ⟨g17, 1, none⟩ = some (.int .i64 b1) := (blk_cell (blk_below BK17.out hI) 1).trans rfl
                                    have hs17_2 : w'.cell? ⟨g17, 2, none⟩ = some (.int .i64 b2) := (blk_cell (blk_below BK17.out hI) 2).trans rfl
                                    have hs17_3 : w'.cell? ⟨g17, 3, none⟩ = some (.int .i64 b3) := (blk_cell (blk_below BK17.out hI) 3).trans rfl
                                    refine event_step (by rfl) (w1 := w') (v := .int .i64 b1) ?_ (hK _ _ hI (Below.refl _ _) rfl)
                                    go_simp
                                    try rfl
                                  · rintro v w' hI ⟨h12, h15, -⟩ a' ha K hK
                                    have e12 : v 12 = .int .i64 q1 := h12
                                    have e15 : v 15 = .int .i64 b1 := h15
                                    simp only [Uni.fill, Uni.fillT, List.setIfInBounds_toArray, List.set_cons_zero, List.set_cons_succ, Nat.zero_add, Nat.reduceAdd, e12, e15] at ha
                                    subst ha
                                    clear e12 e15
                                    refine event_step (by rfl) (w1 := w') (v := .int .i64 (wrap64 (q1 - b1))) ?_ (hK _ _ hI (Below.refl _ _) rfl)
                                    go_simp
                                    exact i64_w _
                                  · rintro v w' hI - a' ha K hK
                                    simp only [Uni.fill, Uni.fillT, List.setIfInBounds_toArray, List.set_cons_zero, List.set_cons_succ, Nat.zero_add, Nat.reduceAdd] at ha
                                    subst ha
                                    skip
                                    refine event_step (by rfl) (w1 := w') (v := .pointer (some ⟨g20, 1, none⟩)) ?_ (hK _ _ hI (Below.refl _ _) rfl)
                                    go_simp
                                    try rfl
                                  · rintro v w' hI ⟨h17, -⟩ a' ha K hK
                                    have e17 : v 17 = .pointer (some ⟨g20, 1, none⟩) := h17
                                    simp only [Uni.fill, Uni.fillT, List.setIfInBounds_toArray, List.set_cons_zero, List.set_cons_succ, Nat.zero_add, Nat.reduceAdd, e17] at ha
                                    subst ha
                                    clear e17
                                    have hs20_0 : w'.cell? ⟨g20, 0, none⟩ = some (.int .i64 l0) := (blk_cell (blk_below BK20.out hI) 0).trans rfl
                                    have hs20_1 : w'.cell? ⟨g20, 1, none⟩ = some (.int .i64 l1) := (blk_cell (blk_below BK20.out hI) 1).trans rfl
                                    refine event_step (by rfl) (w1 := w') (v := .int .i64 l1) ?_ (hK _ _ hI (Below.refl _ _) rfl)
                                    go_simp
                                    try rfl
                                  · rintro v w' hI - a' ha K hK
                                    simp only [Uni.fill, Uni.fillT, List.setIfInBounds_toArray, List.set_cons_zero, List.set_cons_succ, Nat.zero_add, Nat.reduceAdd] at ha
                                    subst ha
                                    skip
                                    refine event_step (by rfl) (w1 := w') (v := .int .i64 un) ?_ (hK _ _ hI (Below.refl _ _) rfl)
                                    go_simp
                                    try rfl
                                  · rintro v w' hI ⟨h18, h19, -⟩ a' ha K hK
                                    have e18 : v 18 = .int .i64 l1 := h18
                                    have e19 : v 19 = .int .i64 un := h19
                                    simp only [Uni.fill, Uni.fillT, List.setIfInBounds_toArray, List.set_cons_zero, List.set_cons_succ, Nat.zero_add, Nat.reduceAdd, e18, e19] at ha
                                    subst ha
                                    clear e18 e19
                                    refine event_step (by rfl) (w1 := w') (v := .int .i64 (wrap64 (l1 * un))) ?_ (hK _ _ hI (Below.refl _ _) rfl)
                                    go_simp
                                    exact i64_w _
                                  · rintro v w' hI ⟨h16, h20, -⟩ a' ha K hK
                                    have e16 : v 16 = .int .i64 (wrap64 (q1 - b1)) := h16
                                    have e20 : v 20 = .int .i64 (wrap64 (l1 * un)) := h20
                                    simp only [Uni.fill, Uni.fillT, List.setIfInBounds_toArray, List.set_cons_zero, List.set_cons_succ, Nat.zero_add, Nat.reduceAdd, e16, e20] at ha
                                    subst ha
                                    clear e16 e20
                                    refine event_step (by rfl) (w1 := w') (v := .int .i64 yy) ?_ (hK _ _ hI (Below.refl _ _) rfl)
                                    have ee := HYY.out.symm
                                    go_simp
                                    exact (i64_w _).trans ee
                                  · rintro v w' hI ⟨h10, h0, h1, h2, h3, h4, h5, h6, h7, h8, h9, _, -⟩ a' ha K hK
                                    have e10 : v 10 = .int .i64 xx := h10
                                    have e0 : v 0 = .pointer (some ⟨g18, 0, none⟩) := h0
                                    have e1 : v 1 = .int .i64 q0 := h1
                                    have e2 : v 2 = .pointer (some ⟨g17, 0, none⟩) := h2
                                    have e3 : v 3 = .pointer (some ⟨g17, 0, none⟩) := h3
                                    have e4 : v 4 = .int .i64 b0 := h4
                                    have e5 : v 5 = .int .i64 (wrap64 (q0 - b0)) := h5
                                    have e6 : v 6 = .pointer (some ⟨g20, 0, none⟩) := h6
                                    have e7 : v 7 = .int .i64 l0 := h7
                                    have e8 : v 8 = .int .i64 un := h8
                                    have e9 : v 9 = .int .i64 (wrap64 (l0 * un)) := h9
                                    simp only [Uni.fill, Uni.fillT, List.setIfInBounds_toArray, List.set_cons_zero, List.set_cons_succ, Nat.zero_add, Nat.reduceAdd, e10, e0, e1, e2, e3, e4, e5, e6, e7, e8, e9] at ha
                                    subst ha
                                    clear e10 e0 e1 e2 e3 e4 e5 e6 e7 e8 e9
                                    refine event_step (by rfl) (w1 := w') (v := .int .i64 xx) ?_ (hK _ _ hI (Below.refl _ _) rfl)
                                    go_simp
                                    try rfl
                                  · rintro v w' hI ⟨h21, h22, h0, h1, h2, h3, h4, h5, h6, h7, h8, h9, h10, h11, h12, h13, h14, h15, h16, h17, h18, h19, h20, _, _, -⟩ a' ha K hK
                                    have e21 : v 21 = .int .i64 yy := h21
                                    have e22 : v 22 = .int .i64 xx := h22
                                    have e0 : v 0 = .pointer (some ⟨g18, 0, none⟩) := h0
                                    have e1 : v 1 = .int .i64 q0 := h1
                                    have e2 : v 2 = .pointer (some ⟨g17, 0, none⟩) := h2
                                    have e3 : v 3 = .pointer (some ⟨g17, 0, none⟩) := h3
                                    have e4 : v 4 = .int .i64 b0 := h4
                                    have e5 : v 5 = .int .i64 (wrap64 (q0 - b0)) := h5
                                    have e6 : v 6 = .pointer (some ⟨g20, 0, none⟩) := h6
                                    have e7 : v 7 = .int .i64 l0 := h7
                                    have e8 : v 8 = .int .i64 un := h8
                                    have e9 : v 9 = .int .i64 (wrap64 (l0 * un)) := h9
                                    have e10 : v 10 = .int .i64 xx := h10
                                    have e11 : v 11 = .pointer (some ⟨g18, 1, none⟩) := h11
                                    have e12 : v 12 = .int .i64 q1 := h12
                                    have e13 : v 13 = .pointer (some ⟨g17, 0, none⟩) := h13
                                    have e14 : v 14 = .pointer (some ⟨g17, 1, none⟩) := h14
                                    have e15 : v 15 = .int .i64 b1 := h15
                                    have e16 : v 16 = .int .i64 (wrap64 (q1 - b1)) := h16
                                    have e17 : v 17 = .pointer (some ⟨g20, 1, none⟩) := h17
                                    have e18 : v 18 = .int .i64 l1 := h18
                                    have e19 : v 19 = .int .i64 un := h19
                                    have e20 : v 20 = .int .i64 (wrap64 (l1 * un)) := h20
                                    simp only [Uni.fill, Uni.fillT, List.setIfInBounds_toArray, List.set_cons_zero, List.set_cons_succ, Nat.zero_add, Nat.reduceAdd, e21, e22, e0, e1, e2, e3, e4, e5, e6, e7, e8, e9, e10, e11, e12, e13, e14, e15, e16, e17, e18, e19, e20] at ha
                                    subst ha
                                    clear e21 e22 e0 e1 e2 e3 e4 e5 e6 e7 e8 e9 e10 e11 e12 e13 e14 e15 e16 e17 e18 e19 e20
                                    refine event_step (by rfl) (w1 := w') (v := .int .i64 yy) ?_ (hK _ _ hI (Below.refl _ _) rfl)
                                    go_simp
                                    try rfl
                                  · intro v w' hI hR a' ha
                                    have e22 : v 22 = .int .i64 xx := hR 22 (by decide)
                                    have e23 : v 23 = .int .i64 yy := hR 23 (by decide)
                                    simp only [Uni.fill, Uni.fillT, List.setIfInBounds_toArray, List.set_cons_zero, List.set_cons_succ, Nat.zero_add, Nat.reduceAdd, e22, e23] at ha
                                    subst ha
                                    go_wp2_with (fail)
                                    go_meet
                                    case rel => exact ⟨rfl, rfl, ⟨hI⟩⟩
                                case rest =>
                                  clear HS
                                  obtain ⟨rfl, rfl, HS⟩ := hcut
                                  obtain ⟨W9, rfl⟩ : ∃ x, x = wc := ⟨_, rfl⟩
                                  replace BK4 := Aside0.mk (blk_below BK4.out HS.out)
                                  replace BK6 := Aside0.mk (blk_below BK6.out HS.out)
                                  replace BK21 := Aside0.mk (blk_below BK21.out HS.out)
                                  replace HB := Aside0.mk (below_step HB.out HS.out)
                                  clear HS
                                  have HS := Aside0.mk (Below.refl W9.heap.size W9)
                                  have c0 : decide (0 ≤ xx) = true := decide_eq_true X0.out
                                  have c1 : decide (xx < un) = true := decide_eq_true X1.out
                                  have c2 : decide (0 ≤ yy) = true := decide_eq_true Y0.out
                                  have c3 : decide (yy < un) = true := decide_eq_true Y1.out
                                  go_upto_region 28 with (fail)
                                  refine Uni.uni_ (fun w1 => Below W9.heap.size W9 w1) (fun w1 w2 => Below w1.heap.size w1 w2) (Uni.RV [some (.int .i64 xx), some (.bool true), some (.bool true), some (.int .i64 xx), some (.int .i64 un), some (.bool true), some (.bool true), some (.bool true), some (.int .i64 yy), some (.bool true), some (.bool true), some (.bool true), some (.int .i64 yy), some (.int .i64 un), some (.bool true), some (.bool true), some (.bool true), some (.agg #[.int .i64 a0, .int .i64 a1, .int .i64 a2]), some (.agg #[.int .i64 p0, .int .i64 p1]), some (.agg #[.int .i64 w0, .int .i64 w1]), some (.agg #[.int .i64 w0, .int .i64 w1]), some (.bool true), some (.bool true), some (.bool true)] (fun i x w1 => True)) [some 246, some 247, some 248, some 249, some 250, some 251, some 252, some 253, some 254, some 255, some 256, some 257, some 258, some 259, some 260, some 261, some 262, some 263, some 264, some 265, some 266, some 267, some 268, some 8] [[], [0], [1], [2], [2], [3, 4, 2], [2, 5], [6, 2], [7], [8, 7], [7, 9], [10, 7], [11], [11], [12, 13, 11], [11, 14], [15, 11], [16], [16], [17, 18, 16, 16], [16], [19, 20, 16], [16, 21], [22, 19, 0, 1, 2, 3, 4, 5, 6, 7, 8, 9, 10, 11, 12, 13, 14, 15, 16, 17, 18, 19, 20, 21, 22]] (by kernel_rfl) (by kernel_rfl) (by kernel_rfl) (by kernel_rfl) (by kernel_rfl) (Uni.RV_st (fun _ _ _ _ _ _ h => h)) (below_drew1 HS.out) ⟨?_, ?_, ?_, ?_, ?_, ?_, ?_, ?_, ?_, ?_, ?_, ?_, ?_, ?_, ?_, ?_, ?_, ?_, ?_, ?_, ?_, ?_, ?_, ?_, trivial⟩ ?_
                                  · rintro v w' hI - a' ha K hK
                                    simp only [Uni.fill, Uni.fillT, List.setIfInBounds_toArray, List.set_cons_zero, List.set_cons_succ, Nat.zero_add, Nat.reduceAdd] at ha
                                    subst ha
                                    skip
                                    refine event_step (by rfl) (w1 := w') (v := .int .i64 xx) ?_ (hK _ _ hI (Below.refl _ _) rfl)
                                    go_simp
                                    try rfl
                                  · rintro v w' hI ⟨h0, -⟩ a' ha K hK
                                    have e0 : v 0 = .int .i64 xx := h0
                                    simp only [Uni.fill, Uni.fillT, List.setIfInBounds_toArray, List.set_cons_zero, List.set_cons_succ, Nat.zero_add, Nat.reduceAdd, e0] at ha
                                    subst ha
                                    clear e0
                                    refine event_step (by rfl) (w1 := w') (v := .bool true) ?_ (hK _ _ hI (Below.refl _ _) rfl)
                                    go_simp
                                    try rfl
                                  · rintro v w' hI ⟨h1, -⟩ a' ha K hK
                                    have e1 : v 1 = .bool true := h1
                                    simp only [Uni.fill, Uni.fillT, List.setIfInBounds_toArray, List.set_cons_zero, List.set_cons_succ, Nat.zero_add, Nat.reduceAdd, e1] at ha
                                    subst ha
                                    clear e1
                                    refine event_step (by rfl) (w1 := w') (v := .bool true) ?_ (hK _ _ hI (Below.refl _ _) rfl)
                                    go_simp
                                    try rfl
                                  · rintro v w' hI ⟨h2, -⟩ a' ha K hK
                                    have e2 : v 2 = .bool true := h2
                                    simp only [Uni.fill, Uni.fillT, List.setIfInBounds_toArray, List.set_cons_zero, List.set_cons_succ, Nat.zero_add, Nat.reduceAdd, e2] at ha
                                    subst ha
                                    clear e2
                                    refine event_step (by rfl) (w1 := w') (v := .int .i64 xx) ?_ (hK _ _ hI (Below.refl _ _) rfl)
                                    go_simp
                                    try rfl
                                  · rintro v w' hI ⟨h2, -⟩ a' ha K hK
                                    have e2 : v 2 = .bool true := h2
                                    simp only [Uni.fill, Uni.fillT, List.setIfInBounds_toArray, List.set_cons_zero, List.set_cons_succ, Nat.zero_add, Nat.reduceAdd, e2] at ha
                                    subst ha
                                    clear e2
                                    refine event_step (by rfl) (w1 := w') (v := .int .i64 un) ?_ (hK _ _ hI (Below.refl _ _) rfl)
                                    go_simp
                                    try rfl
                                  · rintro v w' hI ⟨h3, h4, h2, -⟩ a' ha K hK
                                    have e3 : v 3 = .int .i64 xx := h3
                                    have e4 : v 4 = .int .i64 un := h4
                                    have e2 : v 2 = .bool true := h2
                                    simp only [Uni.fill, Uni.fillT, List.setIfInBounds_toArray, List.set_cons_zero, List.set_cons_succ, Nat.zero_add, Nat.reduceAdd, e3, e4, e2] at ha
                                    subst ha
                                    clear e3 e4 e2
                                    refine event_step (by rfl) (w1 := w') (v := .bool true) ?_ (hK _ _ hI (Below.refl _ _) rfl)
                                    go_simp
                                    try rfl
                                  · rintro v w' hI ⟨h2, h5, -⟩ a' ha K hK
                                    have e2 : v 2 = .bool true := h2
                                    have e5 : v 5 = .bool true := h5
                                    simp only [Uni.fill, Uni.fillT, List.setIfInBounds_toArray, List.set_cons_zero, List.set_cons_succ, Nat.zero_add, Nat.reduceAdd, e2, e5] at ha
                                    subst ha
                                    clear e2 e5
                                    refine event_step (by rfl) (w1 := w') (v := .bool true) ?_ (hK _ _ hI (Below.refl _ _) rfl)
                                    go_simp
                                    try rfl
                                  · rintro v w' hI ⟨h6, h2, -⟩ a' ha K hK
                                    have e6 : v 6 = .bool true := h6
                                    have e2 : v 2 = .bool true := h2
                                    simp only [Uni.fill, Uni.fillT, List.setIfInBounds_toArray, List.set_cons_zero, List.set_cons_succ, Nat.zero_add, Nat.reduceAdd, e6, e2] at ha
                                    subst ha
                                    clear e6 e2
                                    refine event_step (by rfl) (w1 := w') (v := .bool true) ?_ (hK _ _ hI (Below.refl _ _) rfl)
                                    go_simp
                                    try rfl
                                  · rintro v w' hI ⟨h7, -⟩ a' ha K hK
                                    have e7 : v 7 = .bool true := h7
                                    simp only [Uni.fill, Uni.fillT, List.setIfInBounds_toArray, List.set_cons_zero, List.set_cons_succ, Nat.zero_add, Nat.reduceAdd, e7] at ha
                                    subst ha
                                    clear e7
                                    refine event_step (by rfl) (w1 := w') (v := .int .i64 yy) ?_ (hK _ _ hI (Below.refl _ _) rfl)
                                    go_simp
                                    try rfl
                                  · rintro v w' hI ⟨h8, h7, -⟩ a' ha K hK
                                    have e8 : v 8 = .int .i64 yy := h8
                                    have e7 : v 7 = .bool true := h7
                                    simp only [Uni.fill, Uni.fillT, List.setIfInBounds_toArray, List.set_cons_zero, List.set_cons_succ, Nat.zero_add, Nat.reduceAdd, e8, e7] at ha
                                    subst ha
                                    clear e8 e7
                                    refine event_step (by rfl) (w1 := w') (v := .bool true) ?_ (hK _ _ hI (Below.refl _ _) rfl)
                                    go_simp
                                    try rfl
                                  · rintro v w' hI ⟨h7, h9, -⟩ a' ha K hK
                                    have e7 : v 7 = .bool true := h7
                                    have e9 : v 9 = .bool true := h9
                                    simp only [Uni.fill, Uni.fillT, List.setIfInBounds_toArray, List.set_cons_zero, List.set_cons_succ, Nat.zero_add, Nat.reduceAdd, e7, e9] at ha
                                    subst ha
                                    clear e7 e9
                                    refine event_step (by rfl) (w1 := w') (v := .bool true) ?_ (hK _ _ hI (Below.refl _ _) rfl)
                                    go_simp
                                    try rfl
                                  · rintro v w' hI ⟨h10, h7, -⟩ a' ha K hK
                                    have e10 : v 10 = .bool true := h10
                                    have e7 : v 7 = .bool true := h7
                                    simp only [Uni.fill, Uni.fillT, List.setIfInBounds_toArray, List.set_cons_zero, List.set_cons_succ, Nat.zero_add, Nat.reduceAdd, e10, e7] at ha
                                    subst ha
                                    clear e10 e7
                                    refine event_step (by rfl) (w1 := w') (v := .bool true) ?_ (hK _ _ hI (Below.refl _ _) rfl)
                                    go_simp
                                    try rfl
                                  · rintro v w' hI ⟨h11, -⟩ a' ha K hK
                                    have e11 : v 11 = .bool true := h11
                                    simp only [Uni.fill, Uni.fillT, List.setIfInBounds_toArray, List.set_cons_zero, List.set_cons_succ, Nat.zero_add, Nat.reduceAdd, e11] at ha
                                    subst ha
                                    clear e11
                                    refine event_step (by rfl) (w1 := w') (v := .int .i64 yy) ?_ (hK _ _ hI (Below.refl _ _) rfl)
                                    go_simp
                                    try rfl
                                  · rintro v w' hI ⟨h11, -⟩ a' ha K hK
                                    have e11 : v 11 = .bool true := h11
                                    simp only [Uni.fill, Uni.fillT, List.setIfInBounds_toArray, List.set_cons_zero, List.set_cons_succ, Nat.zero_add, Nat.reduceAdd, e11] at ha
                                    subst ha
                                    clear e11
                                    refine event_step (by rfl) (w1 := w') (v := .int .i64 un) ?_ (hK _ _ hI (Below.refl _ _) rfl)
                                    go_simp
                                    try rfl
                                  · rintro v w' hI ⟨h12, h13, h11, -⟩ a' ha K hK
                                    have e12 : v 12 = .int .i64 yy := h12
                                    have e13 : v 13 = .int .i64 un := h13
                                    have e11 : v 11 = .bool true := h11
                                    simp only [Uni.fill, Uni.fillT, List.setIfInBounds_toArray, List.set_cons_zero, List.set_cons_succ, Nat.zero_add, Nat.reduceAdd, e12, e13, e11] at ha
                                    subst ha
                                    clear e12 e13 e11
                                    refine event_step (by rfl) (w1 := w') (v := .bool true) ?_ (hK _ _ hI (Below.refl _ _) rfl)
                                    go_simp
                                    try rfl
                                  · rintro v w' hI ⟨h11, h14, -⟩ a' ha K hK
                                    have e11 : v 11 = .bool true := h11
                                    have e14 : v 14 = .bool true := h14
                                    simp only [Uni.fill, Uni.fillT, List.setIfInBounds_toArray, List.set_cons_zero, List.set_cons_succ, Nat.zero_add, Nat.reduceAdd, e11, e14] at ha
                                    subst ha
                                    clear e11 e14
                                    refine event_step (by rfl) (w1 := w') (v := .bool true) ?_ (hK _ _ hI (Below.refl _ _) rfl)
                                    go_simp
                                    try rfl
                                  · rintro v w' hI ⟨h15, h11, -⟩ a' ha K hK
                                    have e15 : v 15 = .bool true := h15
                                    have e11 : v 11 = .bool true := h11
                                    simp only [Uni.fill, Uni.fillT, List.setIfInBounds_toArray, List.set_cons_zero, List.set_cons_succ, Nat.zero_add, Nat.reduceAdd, e15, e11] at ha
                                    subst ha
                                    clear e15 e11
                                    refine event_step (by rfl) (w1 := w') (v := .bool true) ?_ (hK _ _ hI (Below.refl _ _) rfl)
                                    go_simp
                                    try rfl
                                  · rintro v w' hI ⟨h16, -⟩ a' ha K hK
                                    have e16 : v 16 = .bool true := h16
                                    simp only [Uni.fill, Uni.fillT, List.setIfInBounds_toArray, List.set_cons_zero, List.set_cons_succ, Nat.zero_add, Nat.reduceAdd, e16] at ha
                                    subst ha
                                    clear e16
                                    have hs4_0 : w'.cell? ⟨g4, 0, none⟩ = some (.int .i64 a0) := (blk_cell (blk_below BK4.out hI) 0).trans rfl
                                    have hs4_1 : w'.cell? ⟨g4, 1, none⟩ = some (.int .i64 a1) := (blk_cell (blk_below BK4.out hI) 1).trans rfl
                                    have hs4_2 : w'.cell? ⟨g4, 2, none⟩ = some (.int .i64 a2) := (blk_cell (blk_below BK4.out hI) 2).trans rfl
                                    refine event_step (by rfl) (w1 := w') (v := .agg #[.int .i64 a0, .int .i64 a1, .int .i64 a2]) ?_ (hK _ _ hI (Below.refl _ _) rfl)
                                    go_simp
                                    try rfl
                                  · rintro v w' hI ⟨h16, -⟩ a' ha K hK
                                    have e16 : v 16 = .bool true := h16
                                    simp only [Uni.fill, Uni.fillT, List.setIfInBounds_toArray, List.set_cons_zero, List.set_cons_succ, Nat.zero_add, Nat.reduceAdd, e16] at ha
                                    subst ha
                                    clear e16
                                    have hs6_0 : w'.cell? ⟨g6, 0, none⟩ = some (.int .i64 p0) := (blk_cell (blk_below BK6.out hI) 0).trans rfl
                                    have hs6_1 : w'.cell? ⟨g6, 1, none⟩ = some (.int .i64 p1) := (blk_cell (blk_below BK6.out hI) 1).trans rfl
                                    refine event_step (by rfl) (w1 := w') (v := .agg #[.int .i64 p0, .int .i64 p1]) ?_ (hK _ _ hI (Below.refl _ _) rfl)
                                    go_simp
                                    try rfl
                                  · rintro v w' hI ⟨h17, h18, h16, _, -⟩ a' ha K hK
                                    have e17 : v 17 = .agg #[.int .i64 a0, .int .i64 a1, .int .i64 a2] := h17
                                    have e18 : v 18 = .agg #[.int .i64 p0, .int .i64 p1] := h18
                                    have e16 : v 16 = .bool true := h16
                                    simp only [Uni.fill, Uni.fillT, List.setIfInBounds_toArray, List.set_cons_zero, List.set_cons_succ, Nat.zero_add, Nat.reduceAdd, e17, e18, e16] at ha
                                    subst ha
                                    clear e17 e18 e16
                                    refine goes_ Try.func18 (by kernel_rfl) rfl #[.agg #[.int .i64 a0, .int .i64 a1, .int .i64 a2], .agg #[.int .i64 p0, .int .i64 p1]] (by rfl) rfl rfl (by (try simp only [List.map_toArray, List.map_cons, List.map_nil]); first | done | rfl) ?_
                                    refine (tile_World.calls a0 a1 a2 p0 p1 w0 w1 _ SH.out).mono ?_
                                    rintro e_ w2 ⟨rfl, hb⟩
                                    exact ⟨_, rfl, hK _ _ (below_step hI hb) hb rfl⟩
                                  · rintro v w' hI ⟨h16, -⟩ a' ha K hK
                                    have e16 : v 16 = .bool true := h16
                                    simp only [Uni.fill, Uni.fillT, List.setIfInBounds_toArray, List.set_cons_zero, List.set_cons_succ, Nat.zero_add, Nat.reduceAdd, e16] at ha
                                    subst ha
                                    clear e16
                                    have hs21_0 : w'.cell? ⟨g21, 0, none⟩ = some (.int .i64 w0) := (blk_cell (blk_below BK21.out hI) 0).trans rfl
                                    have hs21_1 : w'.cell? ⟨g21, 1, none⟩ = some (.int .i64 w1) := (blk_cell (blk_below BK21.out hI) 1).trans rfl
                                    refine event_step (by rfl) (w1 := w') (v := .agg #[.int .i64 w0, .int .i64 w1]) ?_ (hK _ _ hI (Below.refl _ _) rfl)
                                    go_simp
                                    try rfl
                                  · rintro v w' hI ⟨h19, h20, h16, -⟩ a' ha K hK
                                    have e19 : v 19 = .agg #[.int .i64 w0, .int .i64 w1] := h19
                                    have e20 : v 20 = .agg #[.int .i64 w0, .int .i64 w1] := h20
                                    have e16 : v 16 = .bool true := h16
                                    simp only [Uni.fill, Uni.fillT, List.setIfInBounds_toArray, List.set_cons_zero, List.set_cons_succ, Nat.zero_add, Nat.reduceAdd, e19, e20, e16] at ha
                                    subst ha
                                    clear e19 e20 e16
                                    refine event_step (by rfl) (w1 := w') (v := .bool true) ?_ (hK _ _ hI (Below.refl _ _) rfl)
                                    go_simp
                                    try rfl
                                  · rintro v w' hI ⟨h16, h21, -⟩ a' ha K hK
                                    have e16 : v 16 = .bool true := h16
                                    have e21 : v 21 = .bool true := h21
                                    simp only [Uni.fill, Uni.fillT, List.setIfInBounds_toArray, List.set_cons_zero, List.set_cons_succ, Nat.zero_add, Nat.reduceAdd, e16, e21] at ha
                                    subst ha
                                    clear e16 e21
                                    refine event_step (by rfl) (w1 := w') (v := .bool true) ?_ (hK _ _ hI (Below.refl _ _) rfl)
                                    go_simp
                                    try rfl
                                  · rintro v w' hI ⟨h22, h19, h0, h1, h2, h3, h4, h5, h6, h7, h8, h9, h10, h11, h12, h13, h14, h15, h16, h17, h18, _, h20, h21, _, -⟩ a' ha K hK
                                    have e22 : v 22 = .bool true := h22
                                    have e19 : v 19 = .agg #[.int .i64 w0, .int .i64 w1] := h19
                                    have e0 : v 0 = .int .i64 xx := h0
                                    have e1 : v 1 = .bool true := h1
                                    have e2 : v 2 = .bool true := h2
                                    have e3 : v 3 = .int .i64 xx := h3
                                    have e4 : v 4 = .int .i64 un := h4
                                    have e5 : v 5 = .bool true := h5
                                    have e6 : v 6 = .bool true := h6
                                    have e7 : v 7 = .bool true := h7
                                    have e8 : v 8 = .int .i64 yy := h8
                                    have e9 : v 9 = .bool true := h9
                                    have e10 : v 10 = .bool true := h10
                                    have e11 : v 11 = .bool true := h11
                                    have e12 : v 12 = .int .i64 yy := h12
                                    have e13 : v 13 = .int .i64 un := h13
                                    have e14 : v 14 = .bool true := h14
                                    have e15 : v 15 = .bool true := h15
                                    have e16 : v 16 = .bool true := h16
                                    have e17 : v 17 = .agg #[.int .i64 a0, .int .i64 a1, .int .i64 a2] := h17
                                    have e18 : v 18 = .agg #[.int .i64 p0, .int .i64 p1] := h18
                                    have e20 : v 20 = .agg #[.int .i64 w0, .int .i64 w1] := h20
                                    have e21 : v 21 = .bool true := h21
                                    simp only [Uni.fill, Uni.fillT, List.setIfInBounds_toArray, List.set_cons_zero, List.set_cons_succ, Nat.zero_add, Nat.reduceAdd, e22, e19, e0, e1, e2, e3, e4, e5, e6, e7, e8, e9, e10, e11, e12, e13, e14, e15, e16, e17, e18, e20, e21] at ha
                                    subst ha
                                    clear e22 e19 e0 e1 e2 e3 e4 e5 e6 e7 e8 e9 e10 e11 e12 e13 e14 e15 e16 e17 e18 e20 e21
                                    refine event_step (by rfl) (w1 := w') (v := .bool true) ?_ (hK _ _ hI (Below.refl _ _) rfl)
                                    go_simp
                                    try rfl
                                  · intro v w' hI hR a' ha
                                    have e23 : v 23 = .bool true := hR 23 (by decide)
                                    simp only [Uni.fill, Uni.fillT, List.setIfInBounds_toArray, List.set_cons_zero, List.set_cons_succ, Nat.zero_add, Nat.reduceAdd, e23] at ha
                                    subst ha
                                    go_wp2_with (fail)
                                    go_ret
                                    exact ⟨rfl, below_step HB.out hI⟩
end Go.Proofs.Ytojehbkadlmbjaa.Q
