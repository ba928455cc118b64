/- The walk of the law PackTells: it answers true where what it calls answers as is said. Condition: the answers of what it calls. -/
import Derived.Test.YtjgoehhhjffpmaaZtUni
import Derived.Test.YtjgoehhhjffpmaaZtQf25
import Derived.Test.YtjgoehhhjffpmaaZtQf26
import Derived.Test.YtjgoehhhjffpmaaZtQf27
import Derived.Test.YtjgoehhhjffpmaaZtQf28
import Derived.Test.YtjgoehhhjffpmaaZtQf29
import Derived.Test.YtjgoehhhjffpmaaZtQf30
import Derived.Test.YtjgoehhhjffpmaaZtQf31
import Derived.Test.YtjgoehhhjffpmaaZtQf32
import Derived.Test.YtjgoehhhjffpmaaZtQf33
import Derived.Test.YtjgoehhhjffpmaaZtQf34
import Derived.Test.YtjgoehhhjffpmaaZtQf14
namespace Go.Proofs.Ytjgoehhhjffpmaa.Q
open Go.RowKit Go.Proofs.YtjgoehhhjffpmaaW.PrintWords Go.Proofs.YtjgoehhhjffpmaaW.PrintLast Go.Proofs.YtjgoehhhjffpmaaW.PrintMore
attribute [local go_sem] max2_int min2_int max_two min_two max_three min_three max_four min_four
set_option linter.unusedVariables false
set_option linter.unusedSimpArgs false
/-- A row of one struct. -/
theorem C_one48 {W : World} {g : Nat} {A : Option Addr} {c : Nat} (x : S48) (hg : W.heap[g]? = some (.cells #[.int .i64 x.f0, .int .i64 x.f1, .int .i64 x.f2, .int .i64 x.f3, .slice A x.f4.length c, .string x.f5] 48 (0, 0))) (hc : x.f4.length ≤ c) (hC : Kd.C (Kd.slice 44 k44) W A x.f4.length x.f4) : Kd.C k48 W (some ⟨g, 0, none⟩) 1 [x] := by
  refine ⟨rfl, by decide, fun _ => ⟨_, rfl, fun j p hj => ?_⟩⟩
  have hj2 : j < 1 := (List.getElem?_eq_some_iff.1 hj).1
  obtain rfl : j = 0 := by omega
  obtain rfl : x = p := by simpa using hj
  refine ⟨_, rfl, k48_mk W x hc hC, fun i u hu => ?_⟩
  rw [add_plain, blk_cell hg]
  have e : 0 * k48.sz + i = i := by omega
  rw [e]
  simpa using hu
set_option maxHeartbeats 8000000 in
set_option maxRecDepth 100000 in
theorem tells_calls (k : Nat) (A0 : Option Addr) (c0 : Nat) (l : List S48) (a b : S48) (Aa : Option Addr) (ca : Nat) (Ab : Option Addr) (cb : Nat) (A3 : Option Addr) (c3 : Nat) (c : List Int) (x8 : List Int) (t : Int) (s : Bool) (m f : Int) (d : List Int) (e : Int) (w : World)
    (hr0 : Kd.C k48 w A0 l.length l) (hc0 : l.length ≤ c0) (hra : Kd.C (Kd.slice 44 k44) w Aa a.f4.length a.f4) (hca : a.f4.length ≤ ca) (hrb : Kd.C (Kd.slice 44 k44) w Ab b.f4.length b.f4) (hcb : b.f4.length ≤ cb) (hr3 : Kd.C (Kd.int .u8) w A3 c.length c) (hc3 : c.length ≤ c3)
    (x1 : pack_Write.f k [] = some (x8, 0)) (x2 : x8.length = 8) (y1 : pack_Check.f k a.f0 a.f1 a.f2 a.f3 a.f4 a.f5 = some t) (y2 : terrref5_DrawFault.f k a.f0 a.f1 a.f2 a.f3 a.f4 a.f5 = some t) (y3 : pack_Same.f k a.f0 a.f1 a.f2 a.f3 a.f4 a.f5 b.f0 b.f1 b.f2 b.f3 b.f4 b.f5 = some s) (y4 : terrref5_SameDraws.f k [a] [b] = some s) (y5 : pack_Sum.f k c = some m) (y6 : terrref5_Adler.f k c = some m)
    (y7 : terrref5_DrawsFault.f k l = some f) (y8 : pack_All.f k l = some f) (y9 : pack_Write.f k l = some (d, e))
    (z : (f ≠ 0 ∧ e = f ∧ d = []) ∨ (f = 0 ∧ ∃ p, terrref5_Packed.f k l = some p ∧ ((65536 < p.length ∧ e = 2 ∧ d = []) ∨ (p.length ≤ 65536 ∧ e = 0 ∧ d = p ∧ slices_Equal_byte_byte.f k p p = some true)))) :
    Calls Try.prog 7 #[.slice A0 l.length c0, .agg #[.int .i64 a.f0, .int .i64 a.f1, .int .i64 a.f2, .int .i64 a.f3, .slice Aa a.f4.length ca, .string a.f5], .agg #[.int .i64 b.f0, .int .i64 b.f1, .int .i64 b.f2, .int .i64 b.f3, .slice Ab b.f4.length cb, .string b.f5], .slice A3 c.length c3] w fun e w' => e = .returned (.bool true) ∧ Below w.heap.size w w' := by
  have hu48 := Try.underlying48
  have HR0 := Aside0.mk hr0
  have HC0 := Aside0.mk hc0
  have HRa := Aside0.mk hra
  have HCa := Aside0.mk hca
  have HRb := Aside0.mk hrb
  have HCb := Aside0.mk hcb
  have HR3 := Aside0.mk hr3
  have HC3 := Aside0.mk hc3
  have X1 := Aside0.mk x1
  have Y1 := Aside0.mk y1
  have Y2 := Aside0.mk y2
  have Y3 := Aside0.mk y3
  have Y4 := Aside0.mk y4
  have Y5 := Aside0.mk y5
  have Y6 := Aside0.mk y6
  have Y7 := Aside0.mk y7
  have Y8 := Aside0.mk y8
  have Y9 := Aside0.mk y9
  have Z := Aside0.mk z
  have cx0 : ((x8.length : Int) != 8) = false := by rw [x2]; rfl
  have cx1 : ((x8.length : Int) == 8) = true := by rw [x2]; rfl
  have cx2 : (x8.length == 8) = true := by rw [x2]; rfl
  clear hr0 hc0 hra hca hrb hcb hr3 hc3 x1 x2 y1 y2 y3 y4 y5 y6 y7 y8 y9 z
  have HB := Aside0.mk (Below.refl w.heap.size w)
  go_enter Try.func7, Try.ntmps7
  go_upto_region 4 with (first | ((with_reducible refine gate_dst (N := 5) rfl ?_); refine box_event ?hg (N := 5) ?hd (cs := #[.int .i64 a.f0, .int .i64 a.f1, .int .i64 a.f2, .int .i64 a.f3, .slice Aa a.f4.length ca, .string a.f5]) (t := 48) ?hr ?_; (case hd => rfl); (case hg => rfl); (case hr => first | (go_simp; done) | (go_simp; rfl)); intro g5 hg w5 hbox hb; have BK5 := Aside0.mk hbox; replace HB := Aside0.mk (below_step (by repeat (first | (with_reducible first | exact HB.out | apply below_alloc | apply pw_below_drewN | apply below_drew1) | exact HB.out)) hb); clear hb hbox hg) | ((with_reducible refine gate_dst (N := 6) rfl ?_); refine box_event ?hg (N := 6) ?hd (cs := #[.int .i64 b.f0, .int .i64 b.f1, .int .i64 b.f2, .int .i64 b.f3, .slice Ab b.f4.length cb, .string b.f5]) (t := 48) ?hr ?_; (case hd => rfl); (case hg => rfl); (case hr => first | (go_simp; done) | (go_simp; rfl)); intro g6 hg w6 hbox hb; have BK6 := Aside0.mk hbox; replace BK5 := Aside0.mk (blk_below BK5.out hb); replace HB := Aside0.mk (below_step (by repeat (first | (with_reducible first | exact HB.out | apply below_alloc | apply pw_below_drewN | apply below_drew1) | exact HB.out)) hb); clear hb hbox hg) | ((with_reducible refine gate_callee (f := 25) rfl ?_); refine goesL_ (some 15) rfl rfl Try.func25 (by kernel_rfl) rfl #[.slice none 0 0] rfl (by (try simp only [List.map_toArray, List.map_cons, List.map_nil]); first | done | rfl) ?_; (refine (pack_Write.calls k none 0 [] x8 0 _ (Kd.C_nil _ _) (Nat.le_refl _) X1.out).mono ?_); rintro e_ w7 ⟨v_, rfl, ho0, hb⟩; obtain ⟨A8, c8, e8⟩ := Kd.R_slice ho0; subst e8; refine ⟨_, rfl, ?_⟩; replace BK5 := Aside0.mk (blk_below BK5.out hb); replace BK6 := Aside0.mk (blk_below BK6.out hb); clear ho0; replace HB := Aside0.mk (below_step (by repeat (first | (with_reducible first | exact HB.out | apply below_alloc | apply pw_below_drewN | apply below_drew1) | exact HB.out)) hb); clear hb))
  (try simp only [Act.put, List.setIfInBounds_toArray, List.set_cons_zero, List.set_cons_succ])
  go_cut [47] (fun v47 wd => v47 = .bool false ∧ Aside0 (Below w7.heap.size w7 wd))
  case first =>
    refine Uni.uni_ (fun w1 => Below w7.heap.size w7 w1) (fun w1 w2 => Below w1.heap.size w1 w2) (Uni.RV [some (.agg #[.int .i64 a.f0, .int .i64 a.f1, .int .i64 a.f2, .int .i64 a.f3, .slice Aa a.f4.length ca, .string a.f5]), some (.int .i64 t), some (.agg #[.int .i64 a.f0, .int .i64 a.f1, .int .i64 a.f2, .int .i64 a.f3, .slice Aa a.f4.length ca, .string a.f5]), some (.int .i64 t), some (.bool false), some (.bool false), some (.agg #[.int .i64 a.f0, .int .i64 a.f1, .int .i64 a.f2, .int .i64 a.f3, .slice Aa a.f4.length ca, .string a.f5]), some (.agg #[.int .i64 b.f0, .int .i64 b.f1, .int .i64 b.f2, .int .i64 b.f3, .slice Ab b.f4.length cb, .string b.f5]), some (.bool s), some (.agg #[.int .i64 a.f0, .int .i64 a.f1, .int .i64 a.f2, .int .i64 a.f3, .slice Aa a.f4.length ca, .string a.f5]), none, some (.agg #[.int .i64 b.f0, .int .i64 b.f1, .int .i64 b.f2, .int .i64 b.f3, .slice Ab b.f4.length cb, .string b.f5]), none, some (.bool s), some (.bool false), some (.bool false), some (.bool false), some (.slice A3 c.length c3), some (.int .u32 m), some (.slice A3 c.length c3), some (.int .u32 m), some (.bool false), some (.bool false)] (fun i x w1 => ∃ g : Nat, x = .slice (some ⟨g, 0, none⟩) 1 1 ∧ Kd.C k48 w1 (some ⟨g, 0, none⟩) 1 [if i = 10 then a else b])) [some 25, some 26, some 27, some 28, some 29, some 30, some 31, some 32, some 33, some 34, some 35, some 36, some 37, some 38, some 39, some 40, some 41, some 42, some 43, some 44, some 45, some 46, some 47] [[], [0], [], [2, 1], [1, 3], [4, 3], [5], [5], [6, 7, 5, 5], [5], [9, 5], [5], [11, 5], [10, 12, 8, 5], [8, 13, 5], [5, 14], [15, 13], [16], [17, 16, 16], [16], [19, 18, 16], [18, 20, 16], [16, 21]] (by kernel_rfl) (by kernel_rfl) (by kernel_rfl) (by kernel_rfl) (by kernel_rfl) (Uni.RV_st (fun i x w1 w2 _ hS h => by obtain ⟨g, h1, h2⟩ := h; exact ⟨g, h1, Kd.C_below h2 hS⟩)) (below_drew1 (Below.refl _ _)) ⟨?_, ?_, ?_, ?_, ?_, ?_, ?_, ?_, ?_, ?_, ?_, ?_, ?_, ?_, ?_, ?_, ?_, ?_, ?_, ?_, ?_, ?_, ?_, trivial⟩ ?_
    · rintro v w' hI - a' ha K hK
      simp only [Uni.fill, Uni.fillT, List.setIfInBounds_toArray, List.set_cons_zero, List.set_cons_succ, Nat.zero_add, Nat.reduceAdd] at ha
      subst ha
      skip
      have hbk := blk_below BK5.out hI
      have hs0 : w'.cell? ⟨g5, 0, none⟩ = some (.int .i64 a.f0) := (blk_cell hbk 0).trans rfl
      have hs1 : w'.cell? ⟨g5, 1, none⟩ = some (.int .i64 a.f1) := (blk_cell hbk 1).trans rfl
      have hs2 : w'.cell? ⟨g5, 2, none⟩ = some (.int .i64 a.f2) := (blk_cell hbk 2).trans rfl
      have hs3 : w'.cell? ⟨g5, 3, none⟩ = some (.int .i64 a.f3) := (blk_cell hbk 3).trans rfl
      have hs4 : w'.cell? ⟨g5, 4, none⟩ = some (.slice Aa a.f4.length ca) := (blk_cell hbk 4).trans rfl
      have hs5 : w'.cell? ⟨g5, 5, none⟩ = some (.string a.f5) := (blk_cell hbk 5).trans rfl
      clear hbk
      refine event_step (by rfl) (w1 := w') (v := .agg #[.int .i64 a.f0, .int .i64 a.f1, .int .i64 a.f2, .int .i64 a.f3, .slice Aa a.f4.length ca, .string a.f5]) ?_ (hK _ _ hI (Below.refl _ _) rfl)
      go_simp
      try rfl
    · rintro v w' hI ⟨h0, -⟩ a' ha K hK
      have e0 : v 0 = .agg #[.int .i64 a.f0, .int .i64 a.f1, .int .i64 a.f2, .int .i64 a.f3, .slice Aa a.f4.length ca, .string a.f5] := h0
      simp only [Uni.fill, Uni.fillT, List.setIfInBounds_toArray, List.set_cons_zero, List.set_cons_succ, Nat.zero_add, Nat.reduceAdd, e0] at ha
      subst ha
      clear e0
      refine goes_ Try.func26 (by kernel_rfl) rfl #[.agg #[.int .i64 a.f0, .int .i64 a.f1, .int .i64 a.f2, .int .i64 a.f3, .slice Aa a.f4.length ca, .string a.f5]] (by rfl) rfl rfl (by (try simp only [List.map_toArray, List.map_cons, List.map_nil]); first | done | rfl) ?_
      refine (pack_Check.calls k a.f0 a.f1 a.f2 a.f3 Aa ca a.f4 a.f5 t _ (Kd.C_below HRa.out (below_step HB.out hI)) HCa.out Y1.out).mono ?_
      rintro e_ w2 ⟨rfl, hb⟩
      exact ⟨_, rfl, hK _ _ (below_step hI hb) hb rfl⟩
    · rintro v w' hI - a' ha K hK
      simp only [Uni.fill, Uni.fillT, List.setIfInBounds_toArray, List.set_cons_zero, List.set_cons_succ, Nat.zero_add, Nat.reduceAdd] at ha
      subst ha
      skip
      have hbk := blk_below BK5.out hI
      have hs0 : w'.cell? ⟨g5, 0, none⟩ = some (.int .i64 a.f0) := (blk_cell hbk 0).trans rfl
      have hs1 : w'.cell? ⟨g5, 1, none⟩ = some (.int .i64 a.f1) := (blk_cell hbk 1).trans rfl
      have hs2 : w'.cell? ⟨g5, 2, none⟩ = some (.int .i64 a.f2) := (blk_cell hbk 2).trans rfl
      have hs3 : w'.cell? ⟨g5, 3, none⟩ = some (.int .i64 a.f3) := (blk_cell hbk 3).trans rfl
      have hs4 : w'.cell? ⟨g5, 4, none⟩ = some (.slice Aa a.f4.length ca) := (blk_cell hbk 4).trans rfl
      have hs5 : w'.cell? ⟨g5, 5, none⟩ = some (.string a.f5) := (blk_cell hbk 5).trans rfl
      clear hbk
      refine event_step (by rfl) (w1 := w') (v := .agg #[.int .i64 a.f0, .int .i64 a.f1, .int .i64 a.f2, .int .i64 a.f3, .slice Aa a.f4.length ca, .string a.f5]) ?_ (hK _ _ hI (Below.refl _ _) rfl)
      go_simp
      try rfl
    · rintro v w' hI ⟨h2, h1, -⟩ a' ha K hK
      have e2 : v 2 = .agg #[.int .i64 a.f0, .int .i64 a.f1, .int .i64 a.f2, .int .i64 a.f3, .slice Aa a.f4.length ca, .string a.f5] := h2
      have e1 : v 1 = .int .i64 t := h1
      simp only [Uni.fill, Uni.fillT, List.setIfInBounds_toArray, List.set_cons_zero, List.set_cons_succ, Nat.zero_add, Nat.reduceAdd, e2, e1] at ha
      subst ha
      clear e2 e1
      refine goes_ Try.func27 (by kernel_rfl) rfl #[.agg #[.int .i64 a.f0, .int .i64 a.f1, .int .i64 a.f2, .int .i64 a.f3, .slice Aa a.f4.length ca, .string a.f5]] (by rfl) rfl rfl (by (try simp only [List.map_toArray, List.map_cons, List.map_nil]); first | done | rfl) ?_
      refine (terrref5_DrawFault.calls k a.f0 a.f1 a.f2 a.f3 Aa ca a.f4 a.f5 t _ (Kd.C_below HRa.out (below_step HB.out hI)) HCa.out Y2.out).mono ?_
      rintro e_ w2 ⟨rfl, hb⟩
      exact ⟨_, rfl, hK _ _ (below_step hI hb) hb rfl⟩
    · rintro v w' hI ⟨h1, h3, -⟩ a' ha K hK
      have e1 : v 1 = .int .i64 t := h1
      have e3 : v 3 = .int .i64 t := h3
      simp only [Uni.fill, Uni.fillT, List.setIfInBounds_toArray, List.set_cons_zero, List.set_cons_succ, Nat.zero_add, Nat.reduceAdd, e1, e3] at ha
      subst ha
      clear e1 e3
      refine event_step (by rfl) (w1 := w') (v := .bool false) ?_ (hK _ _ hI (Below.refl _ _) rfl)
      go_simp
      try rfl
    · rintro v w' hI ⟨h4, h3, -⟩ a' ha K hK
      have e4 : v 4 = .bool false := h4
      have e3 : v 3 = .int .i64 t := h3
      simp only [Uni.fill, Uni.fillT, List.setIfInBounds_toArray, List.set_cons_zero, List.set_cons_succ, Nat.zero_add, Nat.reduceAdd, e4, e3] at ha
      subst ha
      clear e4 e3
      refine event_step (by rfl) (w1 := w') (v := .bool false) ?_ (hK _ _ hI (Below.refl _ _) rfl)
      go_simp
      try rfl
    · rintro v w' hI ⟨h5, -⟩ a' ha K hK
      have e5 : v 5 = .bool false := h5
      simp only [Uni.fill, Uni.fillT, List.setIfInBounds_toArray, List.set_cons_zero, List.set_cons_succ, Nat.zero_add, Nat.reduceAdd, e5] at ha
      subst ha
      clear e5
      have hbk := blk_below BK5.out hI
      have hs0 : w'.cell? ⟨g5, 0, none⟩ = some (.int .i64 a.f0) := (blk_cell hbk 0).trans rfl
      have hs1 : w'.cell? ⟨g5, 1, none⟩ = some (.int .i64 a.f1) := (blk_cell hbk 1).trans rfl
      have hs2 : w'.cell? ⟨g5, 2, none⟩ = some (.int .i64 a.f2) := (blk_cell hbk 2).trans rfl
      have hs3 : w'.cell? ⟨g5, 3, none⟩ = some (.int .i64 a.f3) := (blk_cell hbk 3).trans rfl
      have hs4 : w'.cell? ⟨g5, 4, none⟩ = some (.slice Aa a.f4.length ca) := (blk_cell hbk 4).trans rfl
      have hs5 : w'.cell? ⟨g5, 5, none⟩ = some (.string a.f5) := (blk_cell hbk 5).trans rfl
      clear hbk
      refine event_step (by rfl) (w1 := w') (v := .agg #[.int .i64 a.f0, .int .i64 a.f1, .int .i64 a.f2, .int .i64 a.f3, .slice Aa a.f4.length ca, .string a.f5]) ?_ (hK _ _ hI (Below.refl _ _) rfl)
      go_simp
      try rfl
    · rintro v w' hI ⟨h5, -⟩ a' ha K hK
      have e5 : v 5 = .bool false := h5
      simp only [Uni.fill, Uni.fillT, List.setIfInBounds_toArray, List.set_cons_zero, List.set_cons_succ, Nat.zero_add, Nat.reduceAdd, e5] at ha
      subst ha
      clear e5
      have hbk := blk_below BK6.out hI
      have hs0 : w'.cell? ⟨g6, 0, none⟩ = some (.int .i64 b.f0) := (blk_cell hbk 0).trans rfl
      have hs1 : w'.cell? ⟨g6, 1, none⟩ = some (.int .i64 b.f1) := (blk_cell hbk 1).trans rfl
      have hs2 : w'.cell? ⟨g6, 2, none⟩ = some (.int .i64 b.f2) := (blk_cell hbk 2).trans rfl
      have hs3 : w'.cell? ⟨g6, 3, none⟩ = some (.int .i64 b.f3) := (blk_cell hbk 3).trans rfl
      have hs4 : w'.cell? ⟨g6, 4, none⟩ = some (.slice Ab b.f4.length cb) := (blk_cell hbk 4).trans rfl
      have hs5 : w'.cell? ⟨g6, 5, none⟩ = some (.string b.f5) := (blk_cell hbk 5).trans rfl
      clear hbk
      refine event_step (by rfl) (w1 := w') (v := .agg #[.int .i64 b.f0, .int .i64 b.f1, .int .i64 b.f2, .int .i64 b.f3, .slice Ab b.f4.length cb, .string b.f5]) ?_ (hK _ _ hI (Below.refl _ _) rfl)
      go_simp
      try rfl
    · rintro v w' hI ⟨h6, h7, h5, _, -⟩ a' ha K hK
      have e6 : v 6 = .agg #[.int .i64 a.f0, .int .i64 a.f1, .int .i64 a.f2, .int .i64 a.f3, .slice Aa a.f4.length ca, .string a.f5] := h6
      have e7 : v 7 = .agg #[.int .i64 b.f0, .int .i64 b.f1, .int .i64 b.f2, .int .i64 b.f3, .slice Ab b.f4.length cb, .string b.f5] := h7
      have e5 : v 5 = .bool false := h5
      simp only [Uni.fill, Uni.fillT, List.setIfInBounds_toArray, List.set_cons_zero, List.set_cons_succ, Nat.zero_add, Nat.reduceAdd, e6, e7, e5] at ha
      subst ha
      clear e6 e7 e5
      refine goes_ Try.func28 (by kernel_rfl) rfl #[.agg #[.int .i64 a.f0, .int .i64 a.f1, .int .i64 a.f2, .int .i64 a.f3, .slice Aa a.f4.length ca, .string a.f5], .agg #[.int .i64 b.f0, .int .i64 b.f1, .int .i64 b.f2, .int .i64 b.f3, .slice Ab b.f4.length cb, .string b.f5]] (by rfl) rfl rfl (by (try simp only [List.map_toArray, List.map_cons, List.map_nil]); first | done | rfl) ?_
      refine (pack_Same.calls k a.f0 a.f1 a.f2 a.f3 Aa ca a.f4 a.f5 b.f0 b.f1 b.f2 b.f3 Ab cb b.f4 b.f5 s _ (Kd.C_below HRa.out (below_step HB.out hI)) HCa.out (Kd.C_below HRb.out (below_step HB.out hI)) HCb.out Y3.out).mono ?_
      rintro e_ w2 ⟨rfl, hb⟩
      exact ⟨_, rfl, hK _ _ (below_step hI hb) hb rfl⟩
    · rintro v w' hI ⟨h5, -⟩ a' ha K hK
      have e5 : v 5 = .bool false := h5
      simp only [Uni.fill, Uni.fillT, List.setIfInBounds_toArray, List.set_cons_zero, List.set_cons_succ, Nat.zero_add, Nat.reduceAdd, e5] at ha
      subst ha
      clear e5
      have hbk := blk_below BK5.out hI
      have hs0 : w'.cell? ⟨g5, 0, none⟩ = some (.int .i64 a.f0) := (blk_cell hbk 0).trans rfl
      have hs1 : w'.cell? ⟨g5, 1, none⟩ = some (.int .i64 a.f1) := (blk_cell hbk 1).trans rfl
      have hs2 : w'.cell? ⟨g5, 2, none⟩ = some (.int .i64 a.f2) := (blk_cell hbk 2).trans rfl
      have hs3 : w'.cell? ⟨g5, 3, none⟩ = some (.int .i64 a.f3) := (blk_cell hbk 3).trans rfl
      have hs4 : w'.cell? ⟨g5, 4, none⟩ = some (.slice Aa a.f4.length ca) := (blk_cell hbk 4).trans rfl
      have hs5 : w'.cell? ⟨g5, 5, none⟩ = some (.string a.f5) := (blk_cell hbk 5).trans rfl
      clear hbk
      refine event_step (by rfl) (w1 := w') (v := .agg #[.int .i64 a.f0, .int .i64 a.f1, .int .i64 a.f2, .int .i64 a.f3, .slice Aa a.f4.length ca, .string a.f5]) ?_ (hK _ _ hI (Below.refl _ _) rfl)
      go_simp
      try rfl
    · rintro v w' hI ⟨h9, h5, -⟩ a' ha K hK
      have e9 : v 9 = .agg #[.int .i64 a.f0, .int .i64 a.f1, .int .i64 a.f2, .int .i64 a.f3, .slice Aa a.f4.length ca, .string a.f5] := h9
      have e5 : v 5 = .bool false := h5
      simp only [Uni.fill, Uni.fillT, List.setIfInBounds_toArray, List.set_cons_zero, List.set_cons_succ, Nat.zero_add, Nat.reduceAdd, e9, e5] at ha
      subst ha
      clear e9 e5
      refine event_step (by rfl) (w1 := w'.alloc (.cells #[.int .i64 a.f0, .int .i64 a.f1, .int .i64 a.f2, .int .i64 a.f3, .slice Aa a.f4.length ca, .string a.f5] 48)) (v := .slice (some ⟨w'.heap.size, 0, none⟩) 1 1) ?_ (hK _ _ (below_alloc hI _) (below_alloc (Below.refl _ _) _) ⟨w'.heap.size, rfl, C_one48 a (blk_new w' (.cells #[.int .i64 a.f0, .int .i64 a.f1, .int .i64 a.f2, .int .i64 a.f3, .slice Aa a.f4.length ca, .string a.f5] 48)) HCa.out (Kd.C_below HRa.out (below_alloc (below_step HB.out hI) _))⟩)
      go_simp
      try rfl
    · rintro v w' hI ⟨h5, -⟩ a' ha K hK
      have e5 : v 5 = .bool false := h5
      simp only [Uni.fill, Uni.fillT, List.setIfInBounds_toArray, List.set_cons_zero, List.set_cons_succ, Nat.zero_add, Nat.reduceAdd, e5] at ha
      subst ha
      clear e5
      have hbk := blk_below BK6.out hI
      have hs0 : w'.cell? ⟨g6, 0, none⟩ = some (.int .i64 b.f0) := (blk_cell hbk 0).trans rfl
      have hs1 : w'.cell? ⟨g6, 1, none⟩ = some (.int .i64 b.f1) := (blk_cell hbk 1).trans rfl
      have hs2 : w'.cell? ⟨g6, 2, none⟩ = some (.int .i64 b.f2) := (blk_cell hbk 2).trans rfl
      have hs3 : w'.cell? ⟨g6, 3, none⟩ = some (.int .i64 b.f3) := (blk_cell hbk 3).trans rfl
      have hs4 : w'.cell? ⟨g6, 4, none⟩ = some (.slice Ab b.f4.length cb) := (blk_cell hbk 4).trans rfl
      have hs5 : w'.cell? ⟨g6, 5, none⟩ = some (.string b.f5) := (blk_cell hbk 5).trans rfl
      clear hbk
      refine event_step (by rfl) (w1 := w') (v := .agg #[.int .i64 b.f0, .int .i64 b.f1, .int .i64 b.f2, .int .i64 b.f3, .slice Ab b.f4.length cb, .string b.f5]) ?_ (hK _ _ hI (Below.refl _ _) rfl)
      go_simp
      try rfl
    · rintro v w' hI ⟨h11, h5, -⟩ a' ha K hK
      have e11 : v 11 = .agg #[.int .i64 b.f0, .int .i64 b.f1, .int .i64 b.f2, .int .i64 b.f3, .slice Ab b.f4.length cb, .string b.f5] := h11
      have e5 : v 5 = .bool false := h5
      simp only [Uni.fill, Uni.fillT, List.setIfInBounds_toArray, List.set_cons_zero, List.set_cons_succ, Nat.zero_add, Nat.reduceAdd, e11, e5] at ha
      subst ha
      clear e11 e5
      refine event_step (by rfl) (w1 := w'.alloc (.cells #[.int .i64 b.f0, .int .i64 b.f1, .int .i64 b.f2, .int .i64 b.f3, .slice Ab b.f4.length cb, .string b.f5] 48)) (v := .slice (some ⟨w'.heap.size, 0, none⟩) 1 1) ?_ (hK _ _ (below_alloc hI _) (below_alloc (Below.refl _ _) _) ⟨w'.heap.size, rfl, C_one48 b (blk_new w' (.cells #[.int .i64 b.f0, .int .i64 b.f1, .int .i64 b.f2, .int .i64 b.f3, .slice Ab b.f4.length cb, .string b.f5] 48)) HCb.out (Kd.C_below HRb.out (below_alloc (below_step HB.out hI) _))⟩)
      go_simp
      try rfl
    · rintro v w' hI ⟨h10, h12, h8, h5, -⟩ a' ha K hK
      obtain ⟨g10, e10, c10⟩ := h10
      obtain ⟨g12, e12, c12⟩ := h12
      have e8 : v 8 = .bool s := h8
      have e5 : v 5 = .bool false := h5
      simp only [Uni.fill, Uni.fillT, List.setIfInBounds_toArray, List.set_cons_zero, List.set_cons_succ, Nat.zero_add, Nat.reduceAdd, e10, e12, e8, e5] at ha
      subst ha
      clear e10 e12 e8 e5
      refine goes_ Try.func29 (by kernel_rfl) rfl #[.slice (some ⟨g10, 0, none⟩) 1 1, .slice (some ⟨g12, 0, none⟩) 1 1] (by rfl) rfl rfl (by (try simp only [List.map_toArray, List.map_cons, List.map_nil]); first | done | rfl) ?_
      refine (terrref5_SameDraws.calls k _ _ [a] _ _ [b] s _ c10 (Nat.le_refl 1) c12 (Nat.le_refl 1) Y4.out).mono ?_
      rintro e_ w2 ⟨rfl, hb⟩
      exact ⟨_, rfl, hK _ _ (below_step hI hb) hb rfl⟩
    · rintro v w' hI ⟨h8, h13, h5, -⟩ a' ha K hK
      have e8 : v 8 = .bool s := h8
      have e13 : v 13 = .bool s := h13
      have e5 : v 5 = .bool false := h5
      simp only [Uni.fill, Uni.fillT, List.setIfInBounds_toArray, List.set_cons_zero, List.set_cons_succ, Nat.zero_add, Nat.reduceAdd, e8, e13, e5] at ha
      subst ha
      clear e8 e13 e5
      refine event_step (by rfl) (w1 := w') (v := .bool false) ?_ (hK _ _ hI (Below.refl _ _) rfl)
      go_simp
      try rfl
    · rintro v w' hI ⟨h5, h14, -⟩ a' ha K hK
      have e5 : v 5 = .bool false := h5
      have e14 : v 14 = .bool false := h14
      simp only [Uni.fill, Uni.fillT, List.setIfInBounds_toArray, List.set_cons_zero, List.set_cons_succ, Nat.zero_add, Nat.reduceAdd, e5, e14] at ha
      subst ha
      clear e5 e14
      refine event_step (by rfl) (w1 := w') (v := .bool false) ?_ (hK _ _ hI (Below.refl _ _) rfl)
      go_simp
      try rfl
    · rintro v w' hI ⟨h15, h13, -⟩ a' ha K hK
      have e15 : v 15 = .bool false := h15
      have e13 : v 13 = .bool s := h13
      simp only [Uni.fill, Uni.fillT, List.setIfInBounds_toArray, List.set_cons_zero, List.set_cons_succ, Nat.zero_add, Nat.reduceAdd, e15, e13] at ha
      subst ha
      clear e15 e13
      refine event_step (by rfl) (w1 := w') (v := .bool false) ?_ (hK _ _ hI (Below.refl _ _) rfl)
      go_simp
      try rfl
    · rintro v w' hI ⟨h16, -⟩ a' ha K hK
      have e16 : v 16 = .bool false := h16
      simp only [Uni.fill, Uni.fillT, List.setIfInBounds_toArray, List.set_cons_zero, List.set_cons_succ, Nat.zero_add, Nat.reduceAdd, e16] at ha
      subst ha
      clear e16
      refine event_step (by rfl) (w1 := w') (v := .slice A3 c.length c3) ?_ (hK _ _ hI (Below.refl _ _) rfl)
      go_simp
      try rfl
    · rintro v w' hI ⟨h17, h16, _, -⟩ a' ha K hK
      have e17 : v 17 = .slice A3 c.length c3 := h17
      have e16 : v 16 = .bool false := h16
      simp only [Uni.fill, Uni.fillT, List.setIfInBounds_toArray, List.set_cons_zero, List.set_cons_succ, Nat.zero_add, Nat.reduceAdd, e17, e16] at ha
      subst ha
      clear e17 e16
      refine goes_ Try.func30 (by kernel_rfl) rfl #[.slice A3 c.length c3] (by rfl) rfl rfl (by (try simp only [List.map_toArray, List.map_cons, List.map_nil]); first | done | rfl) ?_
      refine (pack_Sum.calls k A3 c3 c m _ (Kd.C_below HR3.out (below_step HB.out hI)) HC3.out Y5.out).mono ?_
      rintro e_ w2 ⟨rfl, hb0⟩; have hb := hb0.below
      exact ⟨_, rfl, hK _ _ (below_step hI hb) hb rfl⟩
    · rintro v w' hI ⟨h16, -⟩ a' ha K hK
      have e16 : v 16 = .bool false := h16
      simp only [Uni.fill, Uni.fillT, List.setIfInBounds_toArray, List.set_cons_zero, List.set_cons_succ, Nat.zero_add, Nat.reduceAdd, e16] at ha
      subst ha
      clear e16
      refine event_step (by rfl) (w1 := w') (v := .slice A3 c.length c3) ?_ (hK _ _ hI (Below.refl _ _) rfl)
      go_simp
      try rfl
    · rintro v w' hI ⟨h19, h18, h16, -⟩ a' ha K hK
      have e19 : v 19 = .slice A3 c.length c3 := h19
      have e18 : v 18 = .int .u32 m := h18
      have e16 : v 16 = .bool false := h16
      simp only [Uni.fill, Uni.fillT, List.setIfInBounds_toArray, List.set_cons_zero, List.set_cons_succ, Nat.zero_add, Nat.reduceAdd, e19, e18, e16] at ha
      subst ha
      clear e19 e18 e16
      refine goes_ Try.func31 (by kernel_rfl) rfl #[.slice A3 c.length c3] (by rfl) rfl rfl (by (try simp only [List.map_toArray, List.map_cons, List.map_nil]); first | done | rfl) ?_
      refine (terrref5_Adler.calls k A3 c3 c m _ (Kd.C_below HR3.out (below_step HB.out hI)) HC3.out Y6.out).mono ?_
      rintro e_ w2 ⟨rfl, hb0⟩; have hb := hb0.below
      exact ⟨_, rfl, hK _ _ (below_step hI hb) hb rfl⟩
    · rintro v w' hI ⟨h18, h20, h16, -⟩ a' ha K hK
      have e18 : v 18 = .int .u32 m := h18
      have e20 : v 20 = .int .u32 m := h20
      have e16 : v 16 = .bool false := h16
      simp only [Uni.fill, Uni.fillT, List.setIfInBounds_toArray, List.set_cons_zero, List.set_cons_succ, Nat.zero_add, Nat.reduceAdd, e18, e20, e16] at ha
      subst ha
      clear e18 e20 e16
      refine event_step (by rfl) (w1 := w') (v := .bool false) ?_ (hK _ _ hI (Below.refl _ _) rfl)
      go_simp
      try rfl
    · rintro v w' hI ⟨h16, h21, -⟩ a' ha K hK
      have e16 : v 16 = .bool false := h16
      have e21 : v 21 = .bool false := h21
      simp only [Uni.fill, Uni.fillT, List.setIfInBounds_toArray, List.set_cons_zero, List.set_cons_succ, Nat.zero_add, Nat.reduceAdd, e16, e21] at ha
      subst ha
      clear e16 e21
      refine event_step (by rfl) (w1 := w') (v := .bool false) ?_ (hK _ _ hI (Below.refl _ _) rfl)
      go_simp
      try rfl
    · intro v w' hI hR a' ha
      have e22 : v 22 = .bool false := hR 22 (by decide)
      simp only [Uni.fill, Uni.fillT, List.setIfInBounds_toArray, List.set_cons_zero, List.set_cons_succ, Nat.zero_add, Nat.reduceAdd, e22] at ha
      subst ha
      go_wp2_with (fail)
      go_meet
      case rel => exact ⟨rfl, ⟨hI⟩⟩
  case rest =>
    obtain ⟨rfl, HB1⟩ := hcut
    replace HB := Aside0.mk (below_step HB.out HB1.out)
    clear HB1 BK5 BK6 cx0 cx1 cx2
    rcases Z.out with ⟨z1, rfl, rfl⟩ | ⟨rfl, p, zp, ⟨z1, rfl, rfl⟩ | ⟨z1, rfl, rfl, ze⟩⟩
    · clear Z
      have cf0 : (e == 0) = false := beq_eq_false_iff_ne.mpr z1
      have cf1 : (e != 0) = true := bne_iff_ne.mpr z1
      have cf2 : (e != e) = false := bne_self_eq_false e
      have cf3 : (e == e) = true := beq_self_eq_true e
      clear z1
      go_wp2_with (first | ((with_reducible refine gate_callee (f := 32) rfl ?_); refine goesL_ (some 49) rfl rfl Try.func32 (by kernel_rfl) rfl #[.slice A0 l.length c0] rfl (by (try simp only [List.map_toArray, List.map_cons, List.map_nil]); first | done | rfl) ?_; (refine (terrref5_DrawsFault.calls k _ _ l _ _ (Kd.C_below HR0.out HB.out) HC0.out Y7.out).mono ?_); rintro e_ w8 ⟨rfl, hb⟩; refine ⟨_, rfl, ?_⟩; replace HB := Aside0.mk (below_step (by repeat (first | (with_reducible first | exact HB.out | apply below_alloc | apply pw_below_drewN | apply below_drew1) | exact HB.out)) hb); clear hb) | ((with_reducible refine gate_callee (f := 33) rfl ?_); refine goesL_ (some 51) rfl rfl Try.func33 (by kernel_rfl) rfl #[.slice A0 l.length c0] rfl (by (try simp only [List.map_toArray, List.map_cons, List.map_nil]); first | done | rfl) ?_; (refine (pack_All.calls k _ _ l _ _ (Kd.C_below HR0.out HB.out) HC0.out Y8.out).mono ?_); rintro e_ w9 ⟨rfl, hb⟩; refine ⟨_, rfl, ?_⟩; replace HB := Aside0.mk (below_step (by repeat (first | (with_reducible first | exact HB.out | apply below_alloc | apply pw_below_drewN | apply below_drew1) | exact HB.out)) hb); clear hb) | ((with_reducible refine gate_callee (f := 25) rfl ?_); refine goesL_ (some 56) rfl rfl Try.func25 (by kernel_rfl) rfl #[.slice A0 l.length c0] rfl (by (try simp only [List.map_toArray, List.map_cons, List.map_nil]); first | done | rfl) ?_; (refine (pack_Write.calls k _ _ l [] e _ (Kd.C_below HR0.out HB.out) HC0.out Y9.out).mono ?_); rintro e_ w10 ⟨v_, rfl, ho0, hb⟩; obtain ⟨Ad, cd, ed, hd_, hD_⟩ := Kd.R_reads ho0; subst ed; have HRd := Aside0.mk hD_; have HCd := Aside0.mk hd_; refine ⟨_, rfl, ?_⟩; clear ho0 hD_ hd_; replace HB := Aside0.mk (below_step (by repeat (first | (with_reducible first | exact HB.out | apply below_alloc | apply pw_below_drewN | apply below_drew1) | exact HB.out)) hb); clear hb))
      go_ret
      exact ⟨rfl, HB.out⟩
    · clear Z
      have ZP := Aside0.mk zp
      have cp0 : decide (65536 < (p.length : Int)) = true := decide_eq_true (by omega)
      have cp1 : decide (65536 < p.length) = true := decide_eq_true z1
      clear zp z1
      go_wp2_with (first | ((with_reducible refine gate_callee (f := 32) rfl ?_); refine goesL_ (some 49) rfl rfl Try.func32 (by kernel_rfl) rfl #[.slice A0 l.length c0] rfl (by (try simp only [List.map_toArray, List.map_cons, List.map_nil]); first | done | rfl) ?_; (refine (terrref5_DrawsFault.calls k _ _ l _ _ (Kd.C_below HR0.out HB.out) HC0.out Y7.out).mono ?_); rintro e_ w8 ⟨rfl, hb⟩; refine ⟨_, rfl, ?_⟩; replace HB := Aside0.mk (below_step (by repeat (first | (with_reducible first | exact HB.out | apply below_alloc | apply pw_below_drewN | apply below_drew1) | exact HB.out)) hb); clear hb) | ((with_reducible refine gate_callee (f := 33) rfl ?_); refine goesL_ (some 51) rfl rfl Try.func33 (by kernel_rfl) rfl #[.slice A0 l.length c0] rfl (by (try simp only [List.map_toArray, List.map_cons, List.map_nil]); first | done | rfl) ?_; (refine (pack_All.calls k _ _ l _ _ (Kd.C_below HR0.out HB.out) HC0.out Y8.out).mono ?_); rintro e_ w9 ⟨rfl, hb⟩; refine ⟨_, rfl, ?_⟩; replace HB := Aside0.mk (below_step (by repeat (first | (with_reducible first | exact HB.out | apply below_alloc | apply pw_below_drewN | apply below_drew1) | exact HB.out)) hb); clear hb) | ((with_reducible refine gate_callee (f := 25) rfl ?_); refine goesL_ (some 56) rfl rfl Try.func25 (by kernel_rfl) rfl #[.slice A0 l.length c0] rfl (by (try simp only [List.map_toArray, List.map_cons, List.map_nil]); first | done | rfl) ?_; (refine (pack_Write.calls k _ _ l [] 2 _ (Kd.C_below HR0.out HB.out) HC0.out Y9.out).mono ?_); rintro e_ w10 ⟨v_, rfl, ho0, hb⟩; obtain ⟨Ad, cd, ed, hd_, hD_⟩ := Kd.R_reads ho0; subst ed; have HRd := Aside0.mk hD_; have HCd := Aside0.mk hd_; refine ⟨_, rfl, ?_⟩; clear ho0 hD_ hd_; replace HB := Aside0.mk (below_step (by repeat (first | (with_reducible first | exact HB.out | apply below_alloc | apply pw_below_drewN | apply below_drew1) | exact HB.out)) hb); clear hb) | (go_at_call 34; refine (terrref5_Packed.calls k _ _ l p _ (Kd.C_below HR0.out HB.out) HC0.out ZP.out).mono ?_; rintro e_ w11 ⟨v_, rfl, ho0, hb⟩; obtain ⟨Ap, cp, ep, hp_, hP_⟩ := Kd.R_reads ho0; subst ep; replace HRd := Aside0.mk (Kd.C_below HRd.out hb); have HRp := Aside0.mk hP_; have HCp := Aside0.mk hp_; clear ho0 hP_ hp_; replace HB := Aside0.mk (below_step (by repeat (first | (with_reducible first | exact HB.out | apply below_alloc | apply pw_below_drewN | apply below_drew1) | exact HB.out)) hb); clear hb))
      go_ret
      exact ⟨rfl, HB.out⟩
    · clear Z
      have ZP := Aside0.mk zp
      have ZE := Aside0.mk ze
      have cp0 : decide (65536 < (d.length : Int)) = false := decide_eq_false (by omega)
      have cp1 : decide (65536 < d.length) = false := decide_eq_false (by omega)
      clear zp z1 ze
      go_wp2_with (first | ((with_reducible refine gate_callee (f := 32) rfl ?_); refine goesL_ (some 49) rfl rfl Try.func32 (by kernel_rfl) rfl #[.slice A0 l.length c0] rfl (by (try simp only [List.map_toArray, List.map_cons, List.map_nil]); first | done | rfl) ?_; (refine (terrref5_DrawsFault.calls k _ _ l _ _ (Kd.C_below HR0.out HB.out) HC0.out Y7.out).mono ?_); rintro e_ w8 ⟨rfl, hb⟩; refine ⟨_, rfl, ?_⟩; replace HB := Aside0.mk (below_step (by repeat (first | (with_reducible first | exact HB.out | apply below_alloc | apply pw_below_drewN | apply below_drew1) | exact HB.out)) hb); clear hb) | ((with_reducible refine gate_callee (f := 33) rfl ?_); refine goesL_ (some 51) rfl rfl Try.func33 (by kernel_rfl) rfl #[.slice A0 l.length c0] rfl (by (try simp only [List.map_toArray, List.map_cons, List.map_nil]); first | done | rfl) ?_; (refine (pack_All.calls k _ _ l _ _ (Kd.C_below HR0.out HB.out) HC0.out Y8.out).mono ?_); rintro e_ w9 ⟨rfl, hb⟩; refine ⟨_, rfl, ?_⟩; replace HB := Aside0.mk (below_step (by repeat (first | (with_reducible first | exact HB.out | apply below_alloc | apply pw_below_drewN | apply below_drew1) | exact HB.out)) hb); clear hb) | ((with_reducible refine gate_callee (f := 25) rfl ?_); refine goesL_ (some 56) rfl rfl Try.func25 (by kernel_rfl) rfl #[.slice A0 l.length c0] rfl (by (try simp only [List.map_toArray, List.map_cons, List.map_nil]); first | done | rfl) ?_; (refine (pack_Write.calls k _ _ l d 0 _ (Kd.C_below HR0.out HB.out) HC0.out Y9.out).mono ?_); rintro e_ w10 ⟨v_, rfl, ho0, hb⟩; obtain ⟨Ad, cd, ed, hd_, hD_⟩ := Kd.R_reads ho0; subst ed; have HRd := Aside0.mk hD_; have HCd := Aside0.mk hd_; refine ⟨_, rfl, ?_⟩; clear ho0 hD_ hd_; replace HB := Aside0.mk (below_step (by repeat (first | (with_reducible first | exact HB.out | apply below_alloc | apply pw_below_drewN | apply below_drew1) | exact HB.out)) hb); clear hb) | (go_at_call 34; refine (terrref5_Packed.calls k _ _ l d _ (Kd.C_below HR0.out HB.out) HC0.out ZP.out).mono ?_; rintro e_ w11 ⟨v_, rfl, ho0, hb⟩; obtain ⟨Ap, cp, ep, hp_, hP_⟩ := Kd.R_reads ho0; subst ep; replace HRd := Aside0.mk (Kd.C_below HRd.out hb); have HRp := Aside0.mk hP_; have HCp := Aside0.mk hp_; clear ho0 hP_ hp_; replace HB := Aside0.mk (below_step (by repeat (first | (with_reducible first | exact HB.out | apply below_alloc | apply pw_below_drewN | apply below_drew1) | exact HB.out)) hb); clear hb) | (go_at_call 14; refine (slices_Equal_byte_byte.calls k _ _ d _ _ d true _ HRd.out HCd.out HRp.out HCp.out ZE.out).mono ?_; rintro e_ w14 ⟨rfl, hb0⟩; have hb := hb0.below; replace HB := Aside0.mk (below_step HB.out hb); clear hb hb0))
      go_ret
      exact ⟨rfl, HB.out⟩
end Go.Proofs.Ytjgoehhhjffpmaa.Q

