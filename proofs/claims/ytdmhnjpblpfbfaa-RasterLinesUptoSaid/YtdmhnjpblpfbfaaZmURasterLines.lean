/- The plain law of RasterLines: the printed function answers true. Condition: the lines and the dots have no more than 1099511627776 points. -/
import Derived.Test.YtdmhnjpblpfbfaaZmULb
namespace Go.Proofs.Ytdmhnjpblpfbfaa.UL
set_option linter.unusedSimpArgs false
set_option linter.unusedVariables false
open Go.RowKit Go.Proofs.Ytdmhnjpblpfbfaa.Q Go.Proofs.Ytdmhnjpblpfbfaa.U Go.Proofs.YtdmhnjpblpfbfaaW.PrintWords Go.Proofs.YtdmhnjpblpfbfaaW.PrintLast Go.Proofs.YtdmhnjpblpfbfaaW.PrintMore
/-- The pixel that a number names. -/
theorem pix (a : Int) : ∃ x : Nat, x < 64 ∧ Int.tmod (wrap64 (Int.tmod a 64 + 64)) 64 = (x : Int) := by
  have h1 := Int.tmod_lt_of_pos a (b := 64) (by decide)
  have h2 : -64 < Int.tmod a 64 := by
    rw [Int.tmod_eq_emod]
    have e := Int.emod_nonneg a (b := 64) (by decide)
    have e2 : ((64 : Int).natAbs : Int) = 64 := rfl
    split
    · omega
    · rw [e2]
      by_cases c : a % 64 = 0
      · next hn => exact absurd (Or.inr (Int.dvd_of_emod_eq_zero c)) hn
      · omega
  generalize Int.tmod a 64 = t at *
  rw [wrap_id (by omega) (by omega), Int.tmod_eq_emod_of_nonneg (by omega)]
  exact ⟨((t + 64) % 64).toNat, by omega, by omega⟩
theorem l3_all (n : Nat) (hn : n = 4096) (x y : Nat) (hx : x < 64) (hy : y < 64) (f : Nat → Int) (h : Int) (hf : f (64 * y + x) = h) (l : List S40) (hl : l.length ≤ 1099511627776) :
    ∀ (d t : Nat), t + d = l.length → Is (fun k => terrlaw5_RasterLines.l3 k (x : Int) (y : Int) (tab n f) (tab n (fun i => ((cD l i l.length : Nat) : Int))) h ((cD l (64 * y + x) t : Nat) : Int) l (l.length : Int) (t : Int) (4 * (x : Int)) (4 * (y : Int)) (4 * (x : Int) + 4) (4 * (y : Int) + 4)) true := by
  intro d
  induction d with
  | zero =>
    intro t ht
    obtain rfl : t = l.length := by omega
    have e1 : wrap64 (64 * (y : Int)) = 64 * (y : Int) := wrap_id (by omega) (by omega)
    have e2 : wrap64 (64 * (y : Int) + x) = ((64 * y + x : Nat) : Int) := by rw [wrap_id (by omega) (by omega)]; omega
    have hq : 64 * y + x < n := by omega
    refine Is.step (f := fun _ => some true) (Is.pure _) (fun k => ?_)
    rw [terrlaw5_RasterLines.l3, if_neg (by omega), e1, e2, if_pos (by omega), if_pos (by rw [tab_length]; omega), tab_rd n f _ hq, if_pos hf, if_pos (by rw [tab_length]; omega), tab_rd n _ _ hq, beq_self_eq_true]
  | succ d ih =>
    intro t ht
    have e : wrap64 ((t : Int) + 1) = ((t + 1 : Nat) : Int) := wrap_up rfl (by omega)
    have next := ih (t + 1) (by omega)
    have hc := cD_le l (64 * y + x) t
    have key : dP (rd_T40 l (t : Int)) (64 * y + x) = true ↔ ((rd_T40 l (t : Int)).f0 ≥ 4 * (x : Int) ∧ (rd_T40 l (t : Int)).f0 < 4 * (x : Int) + 4 ∧ (rd_T40 l (t : Int)).f1 ≥ 4 * (y : Int) ∧ (rd_T40 l (t : Int)).f1 < 4 * (y : Int) + 4) := by
      unfold dP
      rw [decide_eq_true_iff]
      generalize (rd_T40 l (t : Int)).f0 = p0
      generalize (rd_T40 l (t : Int)).f1 = p1
      omega
    rw [cD] at next
    by_cases c : dP (rd_T40 l (t : Int)) (64 * y + x) = true
    · rw [if_pos c] at next
      obtain ⟨k1, k2, k3, k4⟩ := key.1 c
      have e3 : wrap64 (((cD l (64 * y + x) t : Nat) : Int) + 1) = ((cD l (64 * y + x) t + 1 : Nat) : Int) := wrap_up rfl (by omega)
      exact Is.step next (fun k => by rw [terrlaw5_RasterLines.l3, if_pos (by omega), if_pos (by omega), if_pos (by omega), if_pos k1, if_pos k2, if_pos k3, if_pos k4, e, e3])
    · rw [if_neg c, Nat.add_zero] at next
      have nk := fun h => c (key.2 h)
      refine Is.step next (fun k => ?_)
      rw [terrlaw5_RasterLines.l3, if_pos (by omega), if_pos (by omega), if_pos (by omega), e]
      by_cases k1 : (rd_T40 l (t : Int)).f0 ≥ 4 * (x : Int)
      · rw [if_pos k1]
        by_cases k2 : (rd_T40 l (t : Int)).f0 < 4 * (x : Int) + 4
        · rw [if_pos k2]
          by_cases k3 : (rd_T40 l (t : Int)).f1 ≥ 4 * (y : Int)
          · rw [if_pos k3, if_neg (fun k4 => nk ⟨k1, k2, k3, k4⟩)]
          · rw [if_neg k3]
        · rw [if_neg k2]
      · rw [if_neg k1]
theorem l2_all (ds : List S40) (x y : Nat) (hx : x < 64) (hy : y < 64) (X D : List Int) (c : Int) (ls : List (List S40)) (m A : Nat) (l : List S40) (hA : A + l.length ≤ 4398046511104)
    (next : Is (fun k => terrlaw5_RasterLines.l1 k ds (x : Int) (y : Int) X D ((A + cH l x y (l.length - 1) : Nat) : Int) c ls (ls.length : Int) (wrap64 ((m : Int) + 1)) (4 * (x : Int)) (4 * (y : Int)) (4 * (x : Int) + 4) (4 * (y : Int) + 4)) true) :
    ∀ (d t : Nat), t + d = l.length - 1 → Is (fun k => terrlaw5_RasterLines.l2 k ds (x : Int) (y : Int) X D ((A + cH l x y t : Nat) : Int) c l ((t + 1 : Nat) : Int) ls (ls.length : Int) (m : Int) (4 * (x : Int)) (4 * (y : Int)) (4 * (x : Int) + 4) (4 * (y : Int) + 4)) true := by
  intro d
  induction d with
  | zero =>
    intro t ht
    obtain rfl : t = l.length - 1 := by omega
    exact Is.step next (fun k => by rw [terrlaw5_RasterLines.l2, if_neg (by omega)])
  | succ d ih =>
    intro t ht
    have e1 : wrap64 (((t + 1 : Nat) : Int) - 1) = (t : Int) := by rw [wrap_id (by omega) (by omega)]; omega
    have e2 : wrap64 (((t + 1 : Nat) : Int) + 1) = ((t + 1 + 1 : Nat) : Int) := wrap_up rfl (by omega)
    have hc := cH_le l x y t
    have hh := hits_all x y hx hy (cl (rd_T40 l (t : Int)).f0) (cl (rd_T40 l (t : Int)).f1) (cl (rd_T40 l ((t + 1 : Nat) : Int)).f0) (cl (rd_T40 l ((t + 1 : Nat) : Int)).f1) (cl_rng _) (cl_rng _) (cl_rng _) (cl_rng _)
    have nx := ih (t + 1) (by omega)
    rw [cH] at nx
    refine Is.step (f := fun k => (terrref5_Hits.f k (4 * (x : Int)) (4 * (y : Int)) (4 * (x : Int) + 4) (4 * (y : Int) + 4) (cl (rd_T40 l (t : Int)).f0) (cl (rd_T40 l (t : Int)).f1) (cl (rd_T40 l ((t + 1 : Nat) : Int)).f0) (cl (rd_T40 l ((t + 1 : Nat) : Int)).f1)).bind fun t424 => (if t424 = true then (terrlaw5_RasterLines.l2 k ds (x : Int) (y : Int) X D (wrap64 (((A + cH l x y t : Nat) : Int) + 1)) c l ((t + 1 + 1 : Nat) : Int) ls (ls.length : Int) (m : Int) (4 * (x : Int)) (4 * (y : Int)) (4 * (x : Int) + 4) (4 * (y : Int) + 4)) else (terrlaw5_RasterLines.l2 k ds (x : Int) (y : Int) X D ((A + cH l x y t : Nat) : Int) c l ((t + 1 + 1 : Nat) : Int) ls (ls.length : Int) (m : Int) (4 * (x : Int)) (4 * (y : Int)) (4 * (x : Int) + 4) (4 * (y : Int) + 4)))) (Is.bind hh ?_) (fun k => ?_)
    · unfold hitS at nx
      by_cases p : hitP (cl (rd_T40 l (t : Int)).f0) (cl (rd_T40 l (t : Int)).f1) (cl (rd_T40 l ((t + 1 : Nat) : Int)).f0) (cl (rd_T40 l ((t + 1 : Nat) : Int)).f1) x y = true
      · rw [if_pos p] at nx
        rw [wrap_up (a := A + cH l x y t) rfl (by omega)]
        exact Is.pos p nx
      · rw [if_neg p] at nx
        exact Is.neg p nx
    · rw [terrlaw5_RasterLines.l2, if_pos (by omega), e1, if_pos (by omega), if_pos (by omega), short_all, Option.bind_some, short_all, Option.bind_some, if_pos (by omega), short_all, Option.bind_some, short_all, Option.bind_some, e2]
theorem l1_all (n : Nat) (hn : n = 4096) (ds : List S40) (hd : ds.length ≤ 1099511627776) (x y : Nat) (hx : x < 64) (hy : y < 64) (ls : List (List S40)) (hB : tots ls ls.length ≤ 1099511627776) (hl : ls.length ≤ 1099511627776) :
    ∀ (d m : Nat), m + d = ls.length → Is (fun k => terrlaw5_RasterLines.l1 k ds (x : Int) (y : Int) (tab n (fun i => ((cL ls (i % 64) (i / 64) ls.length : Nat) : Int))) (tab n (fun i => ((cD ds i ds.length : Nat) : Int))) ((cL ls x y m : Nat) : Int) 0 ls (ls.length : Int) (m : Int) (4 * (x : Int)) (4 * (y : Int)) (4 * (x : Int) + 4) (4 * (y : Int) + 4)) true := by
  intro d
  induction d with
  | zero =>
    intro m hm
    obtain rfl : m = ls.length := by omega
    have h3 := l3_all n hn x y hx hy (fun i => ((cL ls (i % 64) (i / 64) ls.length : Nat) : Int)) ((cL ls x y ls.length : Nat) : Int) (by
      rw [show (64 * y + x) % 64 = x by omega, show (64 * y + x) / 64 = y by omega]) ds hd ds.length 0 (by omega)
    exact Is.step h3 (fun k => by rw [terrlaw5_RasterLines.l1, if_neg (by omega)]; rfl)
  | succ d ih =>
    intro m hm
    have e : wrap64 ((m : Int) + 1) = ((m + 1 : Nat) : Int) := wrap_up rfl (by omega)
    have hb : tots ls (m + 1) ≤ tots ls ls.length := by
      have := tots_mono ls (m + 1) d
      rw [show m + 1 + d = ls.length by omega] at this
      exact this
    rw [tots] at hb
    have hc := cL_le ls x y m
    have next := ih (m + 1) (by omega)
    rw [← e, cL] at next
    have h2 := l2_all ds x y hx hy _ _ 0 ls m (cL ls x y m) (rd_L2 ls (m : Int)) (by omega) next ((rd_L2 ls (m : Int)).length - 1) 0 (by omega)
    exact Is.step h2 (fun k => by rw [terrlaw5_RasterLines.l1, if_pos (by omega), if_pos (by omega), if_pos (by omega)]; rfl)
theorem tail_all (n : Nat) (hn : n = 4096) (ds : List S40) (hd : ds.length ≤ 1099511627776) (x y : Nat) (hx : x < 64) (hy : y < 64) (ls : List (List S40)) (hB : tots ls ls.length ≤ 1099511627776) (hl : ls.length ≤ 1099511627776) :
    Is (fun k => terrlaw5_RasterLines.j1 k ls ds (x : Int) (y : Int) false (4 * (x : Int)) (4 * (y : Int)) (4 * (x : Int) + 4) (4 * (y : Int) + 4)) true := by
  have h1 := l1_all n hn ds hd x y hx hy ls hB hl ls.length 0 (by omega)
  have hj2 : Is (fun k => terrlaw5_RasterLines.j2 k ls ds (x : Int) (y : Int) (tab n (fun i => ((cL ls (i % 64) (i / 64) ls.length : Nat) : Int))) (tab n (fun i => ((cD ds i ds.length : Nat) : Int))) false (4 * (x : Int)) (4 * (y : Int)) (4 * (x : Int) + 4) (4 * (y : Int) + 4)) true :=
    Is.step h1 (fun k => by rw [terrlaw5_RasterLines.j2, if_neg (by decide)]; rfl)
  refine Is.step (f := fun k => (raster_Lines.f k ls).bind fun t407 => ((raster_Dots.f k ds).bind fun t410 => (if (t407.length : Int) = 4096 then (terrlaw5_RasterLines.j2 k ls ds (x : Int) (y : Int) t407 t410 ((t410.length : Int) != 4096) (4 * (x : Int)) (4 * (y : Int)) (4 * (x : Int) + 4) (4 * (y : Int) + 4)) else (terrlaw5_RasterLines.j2 k ls ds (x : Int) (y : Int) t407 t410 true (4 * (x : Int)) (4 * (y : Int)) (4 * (x : Int) + 4) (4 * (y : Int) + 4))))) (Is.bind (lines_all n hn ls hB hl) (Is.bind (dots_all n hn ds hd) (Is.pos (by rw [tab_length]; omega) ?_))) (fun k => by rw [terrlaw5_RasterLines.j1, if_neg (by decide)])
  rw [tab_length, bne_eq_false_iff_eq.2 (by omega : (n : Int) = 4096)]
  exact hj2
theorem l0_all (n : Nat) (hn : n = 4096) (ds : List S40) (hd : ds.length ≤ 1099511627776) (x y : Nat) (hx : x < 64) (hy : y < 64) (ls : List (List S40)) (hB : tots ls ls.length ≤ 1099511627776) (hl : ls.length ≤ 1099511627776) :
    ∀ (d t : Nat), t + d = ds.length → Is (fun k => terrlaw5_RasterLines.l0 k ls ds (x : Int) (y : Int) (lim ds t) ds (ds.length : Int) (t : Int) (4 * (x : Int)) (4 * (y : Int)) (4 * (x : Int) + 4) (4 * (y : Int) + 4)) true := by
  intro d
  induction d with
  | zero =>
    intro t ht
    obtain rfl : t = ds.length := by omega
    have hL : (lim ds ds.length).length ≤ 2199023255552 := by rw [lim_length]; omega
    have h1 := total_all' (lim_small ds ds.length) hL
    have h2 := sum_all' (lim_small ds ds.length) hL
    have hs := square_in (x : Int) (y : Int) (by omega) (by omega) (by omega) (by omega)
    refine Is.step (f := fun k => (raster_Total.f k (lim ds ds.length)).bind fun t405 => ((terrlaw5_sum.f k (lim ds ds.length)).bind fun t406 => (terrlaw5_RasterLines.j1 k ls ds (x : Int) (y : Int) (t405 != t406) (4 * (x : Int)) (4 * (y : Int)) (4 * (x : Int) + 4) (4 * (y : Int) + 4)))) (Is.bind h1 (Is.bind h2 ?_)) (fun k => ?_)
    · rw [bne_self_eq_false]
      exact tail_all n hn ds hd x y hx hy ls hB hl
    · rw [terrlaw5_RasterLines.l0, if_neg (by omega), hs, Option.bind_some, if_neg (by simp)]
  | succ d ih =>
    intro t ht
    have e : wrap64 ((t : Int) + 1) = ((t + 1 : Nat) : Int) := wrap_up rfl (by omega)
    have hL := lim_length ds t
    refine Is.step (ih (t + 1) (by omega)) (fun k => ?_)
    rw [terrlaw5_RasterLines.l0, if_pos (by omega), if_pos (by omega), if_pos (by omega), short_all, Option.bind_some, short_all, Option.bind_some, Option.bind_some, if_pos (by rw [hL]; show 2 * t + 2 < _; omega), e]
    rfl
theorem RasterLines (ls : List (List S40)) (ds : List S40) (a2 a3 : Int) (hB : tots ls ls.length ≤ 1099511627776) (hl : ls.length ≤ 1099511627776) (hd : ds.length ≤ 1099511627776) :
    Is (fun k => terrlaw5_RasterLines.f k ls ds a2 a3) true := by
  obtain ⟨n, hn⟩ : ∃ n : Nat, n = 4096 := ⟨_, rfl⟩
  obtain ⟨F, hF⟩ : ∃ F : Nat, F = 4000 := ⟨_, rfl⟩
  have hcov : Is (fun k => terrlaw5_covers.f k) true := ⟨12 + F, fun k hk => Pure.covers_in F hF k hk⟩
  obtain ⟨x, hx, ex⟩ := pix a2
  obtain ⟨y, hy, ey⟩ := pix a3
  have h0 := l0_all n hn ds hd x y hx hy ls hB hl ds.length 0 (by omega)
  have w1 : wrap64 (4 * (x : Int)) = 4 * (x : Int) := wrap_id (by omega) (by omega)
  have w2 : wrap64 (4 * (y : Int)) = 4 * (y : Int) := wrap_id (by omega) (by omega)
  have w3 : wrap64 (4 * (x : Int) + 4) = 4 * (x : Int) + 4 := wrap_id (by omega) (by omega)
  have w4 : wrap64 (4 * (y : Int) + 4) = 4 * (y : Int) + 4 := wrap_id (by omega) (by omega)
  obtain ⟨K, hK⟩ := h0
  obtain ⟨K', hK'⟩ := hcov
  refine ⟨K + K', fun k hk => ?_⟩
  show terrlaw5_RasterLines.f k ls ds a2 a3 = _
  unfold terrlaw5_RasterLines.f raster_Square.f
  have hc : terrlaw5_covers.f k = some true := hK' k (by omega)
  rw [hc, Option.bind_some, if_pos rfl, short_all, Option.bind_some, short_all, Option.bind_some, clamp_all, clamp_all]
  simp only [Option.bind_some]
  rw [if_neg (by simp), ex, ey, w1, w2, w3, w4]
  exact hK k (by omega)
end Go.Proofs.Ytdmhnjpblpfbfaa.UL

