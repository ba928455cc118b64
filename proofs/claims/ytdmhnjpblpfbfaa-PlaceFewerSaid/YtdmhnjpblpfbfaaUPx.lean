/- Plain facts on the labels that wants makes: they pass Check. No condition. -/
import Derived.Test.YtdmhnjpblpfbfaaUPm
import Derived.Test.YtdmhnjpblpfbfaaQf16
namespace Go.Proofs.Ytdmhnjpblpfbfaa.U
open Go.RowKit Go.Proofs.Ytdmhnjpblpfbfaa.Q Go.Proofs.YtdmhnjpblpfbfaaW.PrintWords Go.Proofs.YtdmhnjpblpfbfaaW.PrintLast Go.Proofs.YtdmhnjpblpfbfaaW.PrintMore
set_option linter.unusedSimpArgs false
set_option linter.unusedVariables false
/-- A box in the grid. -/
def GB (b : S42) : Prop := -1048576 ≤ b.f0.f0 ∧ b.f0.f0 ≤ b.f1.f0 ∧ b.f1.f0 ≤ 1048576 ∧ -1048576 ≤ b.f0.f1 ∧ b.f0.f1 ≤ b.f1.f1 ∧ b.f1.f1 ≤ 1048576
/-- A label that passes Check. -/
def GW (x : S36) : Prop := x.f1.length ≤ 5 ∧ (∀ b, b ∈ x.f1 → GB b) ∧ 0 ≤ x.f2 ∧ x.f2 ≤ 1000
theorem gb_ok {b : S42} (h : GB b) : box_Ok.f b.f0.f0 b.f0.f1 b.f1.f0 b.f1.f1 = some true := by
  obtain ⟨h1, h2, h3, h4, h5, h6⟩ := h
  unfold box_Ok.f
  rw [ok_in h1 (by omega) h4 (by omega), Option.bind_some, if_pos rfl, ok_in (by omega) h3 (by omega) h6, Option.bind_some, if_pos rfl, if_pos h2, decide_eq_true h5]
theorem mem_rd {L : List S36} {i : Nat} (h : i < L.length) : rd_T36 L (i : Int) ∈ L := by
  have e : rd_T36 L (i : Int) = L[i] := by unfold rd_T36; simp [List.getD, h]
  rw [e]; exact List.getElem_mem h
theorem mem_rd42 {B : List S42} {i : Nat} (h : i < B.length) : rd_T42 B (i : Int) ∈ B := by
  have e : rd_T42 B (i : Int) = B[i] := by unfold rd_T42; simp [List.getD, h]
  rw [e]; exact List.getElem_mem h
theorem zero_boxes {L : List S36} (hL : L.length ≤ 10) {i : Nat} (hi : i < L.length) (B : List S42) (hB : B.length ≤ 5) (hg : ∀ b, b ∈ B → GB b) (hn : Ev (fun k => place_Check.l0 k L (L.length : Int) ((i + 1 : Nat) : Int)) 0) : ∀ e q, q + e = B.length → Ev (fun k => place_Check.l1 k L (L.length : Int) (i : Int) B (B.length : Int) (q : Int)) 0
  | 0, q, hq => by
    obtain ⟨k, h⟩ := hn
    refine ⟨k + 1, ?_⟩
    simp only at h ⊢
    rw [place_Check.l1, if_neg (by omega), wrap64_eq _ (by omega) (by omega)]; exact h
  | e + 1, q, hq => by
    obtain ⟨k, h⟩ := zero_boxes hL hi B hB hg hn e (q + 1) (by omega)
    have w : wrap64 ((q : Int) + 1) = ((q + 1 : Nat) : Int) := by rw [wrap64_eq _ (by omega) (by omega)]; omega
    refine ⟨k + 1, ?_⟩
    simp only at h ⊢
    rw [place_Check.l1, if_pos (by omega), if_pos (by omega), if_pos (by omega), gb_ok (hg _ (mem_rd42 (by omega))), Option.bind_some, if_pos rfl, w]; exact h
theorem zero_labels {L : List S36} (hL : L.length ≤ 10) (hg : ∀ x, x ∈ L → GW x) : ∀ d i, i + d = L.length → Ev (fun k => place_Check.l0 k L (L.length : Int) (i : Int)) 0
  | 0, i, hi => ⟨1, by simp only; rw [place_Check.l0, if_neg (by omega)]⟩
  | d + 1, i, hi => by
    obtain ⟨g1, g2, g3, g4⟩ := hg _ (mem_rd (show i < L.length by omega))
    obtain ⟨k, h⟩ := zero_boxes hL (show i < L.length by omega) (rd_T36 L (i : Int)).f1 g1 g2 (zero_labels hL hg d (i + 1) (by omega)) _ 0 (Nat.zero_add _)
    refine ⟨k + 2, ?_⟩
    simp only at h ⊢
    rw [place_Check.l0, if_pos (by omega), if_pos (by omega), if_pos (by omega), if_neg (by omega), if_neg (by omega), place_Check.j1, if_neg (by simp; omega)]
    exact h
theorem check_zero {L : List S36} (hL : L.length ≤ 10) (hg : ∀ x, x ∈ L → GW x) : Ev (fun k => place_Check.f k L) 0 := by
  obtain ⟨k, h⟩ := zero_labels hL hg L.length 0 (Nat.zero_add _)
  refine ⟨k, ?_⟩
  simp only at h ⊢
  unfold place_Check.f
  rw [if_neg (by omega)]
  exact h
/-- The boxes that wants makes lie near the origin. -/
def Near0 (b : S42) : Prop := 0 ≤ b.f0.f0 ∧ b.f0.f0 ≤ b.f1.f0 ∧ b.f1.f0 ≤ 90 ∧ 0 ≤ b.f0.f1 ∧ b.f0.f1 ≤ b.f1.f1 ∧ b.f1.f1 ≤ 52
theorem boxes_all : ∀ (m : Nat) (l : List Int) (acc : List S42), (∀ b, b ∈ acc → Near0 b) → (∀ b, b ∈ (boxesOf m l acc).1 → Near0 b) ∧ (boxesOf m l acc).1.length = acc.length + m
  | 0, l, acc, h => ⟨h, rfl⟩
  | m + 1, l, acc, h => by
    have bX := nextv_in l 60 (by omega)
    have bY := nextv_in l.tail 40 (by omega)
    have bU := nextv_in l.tail.tail 30 (by omega)
    have bV := nextv_in l.tail.tail.tail 12 (by omega)
    rw [boxesOf]
    obtain ⟨h1, h2⟩ := boxes_all m l.tail.tail.tail.tail (acc ++ [⟨⟨nextv l 60, nextv l.tail 40⟩, ⟨nextv l 60 + nextv l.tail.tail 30, nextv l.tail 40 + nextv l.tail.tail.tail 12⟩⟩]) (fun b hb => by
      rcases List.mem_append.1 hb with hb | hb
      · exact h b hb
      · rw [List.mem_singleton.1 hb]; unfold Near0; simp only; omega)
    exact ⟨h1, by rw [h2, List.length_append, List.length_singleton]; omega⟩
/-- A label that wants makes. -/
def GN (x : S36) : Prop := x.f1.length ≤ 3 ∧ (∀ b, b ∈ x.f1 → Near0 b) ∧ 0 ≤ x.f2 ∧ x.f2 ≤ 19
theorem gn_gw {x : S36} (h : GN x) : GW x := ⟨by have := h.1; omega, fun b hb => by have := h.2.1 b hb; unfold Near0 at this; unfold GB; omega, h.2.2.1, by have := h.2.2.2; omega⟩
theorem wants_all : ∀ (m : Nat) (l : List Int) (acc : List S36), (∀ x, x ∈ acc → GN x) → (∀ x, x ∈ wantsOf m l acc → GN x) ∧ (wantsOf m l acc).length = acc.length + m
  | 0, l, acc, h => ⟨h, rfl⟩
  | m + 1, l, acc, h => by
    have b20 := nextv_in l 20 (by omega)
    have b4 := nextv_in l.tail 4 (by omega)
    obtain ⟨e1, e2⟩ := boxes_all (nextv l.tail 4).toNat l.tail.tail [] (fun b hb => by cases hb)
    rw [wantsOf]
    obtain ⟨h1, h2⟩ := wants_all m (boxesOf (nextv l.tail 4).toNat l.tail.tail []).2 (acc ++ [⟨z33, (boxesOf (nextv l.tail 4).toNat l.tail.tail []).1, nextv l 20⟩]) (fun x hx => by
      rcases List.mem_append.1 hx with hx | hx
      · exact h x hx
      · rw [List.mem_singleton.1 hx]
        exact ⟨by simp only; rw [e2]; simp; omega, e1, b20.1, by simp only; omega⟩)
    exact ⟨h1, by rw [h2, List.length_append, List.length_singleton]; omega⟩
/-- What wants makes. -/
def wantsL (l : List Int) : List S36 := wantsOf (nextv l 7).toNat l.tail []
theorem wantsL_eq (l : List Int) : terrkeep5_wants.f l = some (wantsL l) := rfl
theorem wantsL_in (l : List Int) : (∀ x, x ∈ wantsL l → GN x) ∧ (wantsL l).length ≤ 6 := by
  have b7 := nextv_in l 7 (by omega)
  obtain ⟨h1, h2⟩ := wants_all (nextv l 7).toNat l.tail [] (fun x hx => by cases hx)
  exact ⟨h1, by unfold wantsL; rw [h2]; simp; omega⟩
theorem wantsL_check (l : List Int) : Ev (fun k => place_Check.f k (wantsL l)) 0 := by
  obtain ⟨h1, h2⟩ := wantsL_in l
  exact check_zero (by omega) (fun x hx => gn_gw (h1 x hx))
end Go.Proofs.Ytdmhnjpblpfbfaa.U
