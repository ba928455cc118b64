/- The plain law of RasterLines, second part: the counts over all segments and dots, in both implementations. Conditions: stated at each. -/
import Derived.Test.YtdmhnjpblpfbfaaZmULa
import Derived.Test.YtdmhnjpblpfbfaaZmULc
import Derived.Test.YtdmhnjpblpfbfaaZmQRasterLines
namespace Go.Proofs.Ytdmhnjpblpfbfaa.UL
set_option linter.unusedSimpArgs false
set_option linter.unusedVariables false
open Go.RowKit Go.Proofs.Ytdmhnjpblpfbfaa.Q Go.Proofs.Ytdmhnjpblpfbfaa.U Go.Proofs.YtdmhnjpblpfbfaaW.PrintWords Go.Proofs.YtdmhnjpblpfbfaaW.PrintLast Go.Proofs.YtdmhnjpblpfbfaaW.PrintMore
theorem wrap_up {a b : Nat} (hb : b = a + 1) (h : a ≤ 4398046511104) : wrap64 ((a : Int) + 1) = (b : Int) := by
  subst hb
  rw [wrap_id (by omega) (by omega)]
  omega
/-! ### segments -/
/-- Does segment t (from point t to point t + 1) meet the pixel? -/
def hitS (l : List S40) (x y t : Nat) : Bool := hitP (cl (rd_T40 l (t : Int)).f0) (cl (rd_T40 l (t : Int)).f1) (cl (rd_T40 l ((t + 1 : Nat) : Int)).f0) (cl (rd_T40 l ((t + 1 : Nat) : Int)).f1) x y
def cH (l : List S40) (x y : Nat) : Nat → Nat
  | 0 => 0
  | t + 1 => cH l x y t + if hitS l x y t = true then 1 else 0
theorem cH_le (l : List S40) (x y : Nat) : ∀ t, cH l x y t ≤ t
  | 0 => Nat.le_refl 0
  | t + 1 => by have := cH_le l x y t; rw [cH]; split <;> omega
def cL (ls : List (List S40)) (x y : Nat) : Nat → Nat
  | 0 => 0
  | m + 1 => cL ls x y m + cH (rd_L2 ls (m : Int)) x y ((rd_L2 ls (m : Int)).length - 1)
def tots (ls : List (List S40)) : Nat → Nat
  | 0 => 0
  | m + 1 => tots ls m + (rd_L2 ls (m : Int)).length
theorem tots_mono (ls : List (List S40)) (a : Nat) : ∀ d, tots ls a ≤ tots ls (a + d)
  | 0 => Nat.le_refl _
  | d + 1 => by have := tots_mono ls a d; show _ ≤ tots ls (a + d + 1); rw [tots]; omega
theorem cL_le (ls : List (List S40)) (x y : Nat) : ∀ m, cL ls x y m ≤ tots ls m
  | 0 => Nat.le_refl 0
  | m + 1 => by
    have h1 := cL_le ls x y m
    have h2 := cH_le (rd_L2 ls (m : Int)) x y ((rd_L2 ls (m : Int)).length - 1)
    rw [cL, tots]; omega
/-! ### raster.Lines -/
theorem addH_tab (n : Nat) (l : List S40) (A : Nat → Nat) (t : Nat) (hA : ∀ i, A i + t ≤ 4398046511104) :
    tab n (addH (cl (rd_T40 l (t : Int)).f0) (cl (rd_T40 l (t : Int)).f1) (cl (rd_T40 l ((t + 1 : Nat) : Int)).f0) (cl (rd_T40 l ((t + 1 : Nat) : Int)).f1) (fun i => ((A i + cH l (i % 64) (i / 64) t : Nat) : Int))) = tab n (fun i => ((A i + cH l (i % 64) (i / 64) (t + 1) : Nat) : Int)) := by
  refine tab_congr fun i _ => ?_
  unfold addH
  rw [cH]
  unfold hitS
  have h1 := cH_le l (i % 64) (i / 64) t
  have h2 := hA i
  by_cases c : hitP (cl (rd_T40 l (t : Int)).f0) (cl (rd_T40 l (t : Int)).f1) (cl (rd_T40 l ((t + 1 : Nat) : Int)).f0) (cl (rd_T40 l ((t + 1 : Nat) : Int)).f1) (i % 64) (i / 64) = true
  · rw [if_pos c, if_pos c]
    exact wrap_up rfl (by omega)
  · rw [if_neg c, if_neg c, Nat.add_zero]
theorem lines_l1 (n : Nat) (hn : n = 4096) (ls : List (List S40)) (m : Nat) (A : Nat → Nat) (r : List Int) (l : List S40) (hA : ∀ i, A i + l.length ≤ 4398046511104)
    (next : Is (fun k => raster_Lines.l0 k (tab n (fun i => ((A i + cH l (i % 64) (i / 64) (l.length - 1) : Nat) : Int))) ls (ls.length : Int) (wrap64 ((m : Int) + 1))) r) :
    ∀ (d t : Nat), t + d = l.length - 1 → Is (fun k => raster_Lines.l1 k (tab n (fun i => ((A i + cH l (i % 64) (i / 64) t : Nat) : Int))) l ((t + 1 : Nat) : Int) ls (ls.length : Int) (m : Int)) r := by
  intro d
  induction d with
  | zero =>
    intro t ht
    obtain rfl : t = l.length - 1 := by omega
    exact Is.step next (fun k => by rw [raster_Lines.l1, if_neg (by omega)])
  | succ d ih =>
    intro t ht
    have hL := hA 0
    have e1 : wrap64 (((t + 1 : Nat) : Int) - 1) = (t : Int) := by rw [wrap_id (by omega) (by omega)]; omega
    have e2 : wrap64 (((t + 1 : Nat) : Int) + 1) = ((t + 1 + 1 : Nat) : Int) := wrap_up rfl (by omega)
    have st := stroke_all n hn (cl (rd_T40 l (t : Int)).f0) (cl (rd_T40 l (t : Int)).f1) (cl (rd_T40 l ((t + 1 : Nat) : Int)).f0) (cl (rd_T40 l ((t + 1 : Nat) : Int)).f1) (cl_rng _) (cl_rng _) (cl_rng _) (cl_rng _) (fun i => ((A i + cH l (i % 64) (i / 64) t : Nat) : Int))
    rw [addH_tab n l A t (fun i => by have := hA i; omega)] at st
    refine Is.step (Is.bind (f := fun k t207 => raster_Lines.l1 k t207 l ((t + 1 + 1 : Nat) : Int) ls (ls.length : Int) (m : Int)) st (ih (t + 1) (by omega))) (fun k => ?_)
    rw [raster_Lines.l1, if_pos (by omega), e1, if_pos (by omega), if_pos (by omega), clamp_all, Option.bind_some, clamp_all, Option.bind_some, if_pos (by omega), clamp_all, Option.bind_some, clamp_all, Option.bind_some, e2]
theorem lines_l0 (n : Nat) (hn : n = 4096) (ls : List (List S40)) (hB : tots ls ls.length ≤ 1099511627776) (hl : ls.length ≤ 1099511627776) :
    ∀ (d m : Nat), m + d = ls.length → Is (fun k => raster_Lines.l0 k (tab n (fun i => ((cL ls (i % 64) (i / 64) m : Nat) : Int))) ls (ls.length : Int) (m : Int)) (tab n (fun i => ((cL ls (i % 64) (i / 64) ls.length : Nat) : Int))) := by
  intro d
  induction d with
  | zero =>
    intro m hm
    obtain rfl : m = ls.length := by omega
    exact Is.step (Is.pure _) (fun k => by rw [raster_Lines.l0, if_neg (by omega)])
  | succ d ih =>
    intro m hm
    have e : wrap64 ((m : Int) + 1) = ((m + 1 : Nat) : Int) := wrap_up rfl (by omega)
    have hb : tots ls (m + 1) ≤ tots ls ls.length := by
      have := tots_mono ls (m + 1) d
      rw [show m + 1 + d = ls.length by omega] at this
      exact this
    rw [tots] at hb
    have next := ih (m + 1) (by omega)
    rw [← e] at next
    have h1 := lines_l1 n hn ls m (fun i => cL ls (i % 64) (i / 64) m) _ (rd_L2 ls (m : Int)) (fun i => by have := cL_le ls (i % 64) (i / 64) m; omega) next ((rd_L2 ls (m : Int)).length - 1) 0 (by omega)
    exact Is.step h1 (fun k => by rw [raster_Lines.l0, if_pos (by omega), if_pos (by omega), if_pos (by omega)]; rfl)
theorem lines_all (n : Nat) (hn : n = 4096) (ls : List (List S40)) (hB : tots ls ls.length ≤ 1099511627776) (hl : ls.length ≤ 1099511627776) : Is (fun k => raster_Lines.f k ls) (tab n (fun i => ((cL ls (i % 64) (i / 64) ls.length : Nat) : Int))) := by
  obtain ⟨K, hK⟩ := lines_l0 n hn ls hB hl ls.length 0 (by omega)
  refine ⟨K, fun k hk => ?_⟩
  show raster_Lines.f k ls = _
  unfold raster_Lines.f
  rw [if_pos (by decide), ← hn, tab_zero]
  exact hK k hk
/-! ### raster.Dots -/
def dP (p : S40) (i : Nat) : Bool := decide (0 ≤ p.f0 ∧ 0 ≤ p.f1 ∧ p.f0 < 256 ∧ p.f1 < 256 ∧ p.f1 / 4 * 64 + p.f0 / 4 = (i : Int))
def cD (l : List S40) (i : Nat) : Nat → Nat
  | 0 => 0
  | t + 1 => cD l i t + if dP (rd_T40 l (t : Int)) i = true then 1 else 0
theorem cD_le (l : List S40) (i : Nat) : ∀ t, cD l i t ≤ t
  | 0 => Nat.le_refl 0
  | t + 1 => by have := cD_le l i t; rw [cD]; split <;> omega
theorem mn_ge {a b : Int} : mn a b ≥ 0 ↔ 0 ≤ a ∧ 0 ≤ b := by unfold mn; split <;> omega
theorem mx_lt {a b : Int} : mx a b < 256 ↔ a < 256 ∧ b < 256 := by unfold mx; split <;> omega
theorem dots_l0 (n : Nat) (hn : n = 4096) (l : List S40) (hl : l.length ≤ 1099511627776) :
    ∀ (d t : Nat), t + d = l.length → Is (fun k => raster_Dots.l0 k (tab n (fun i => ((cD l i t : Nat) : Int))) l (l.length : Int) (t : Int)) (tab n (fun i => ((cD l i l.length : Nat) : Int))) := by
  intro d
  induction d with
  | zero =>
    intro t ht
    obtain rfl : t = l.length := by omega
    exact Is.step (Is.pure _) (fun k => by rw [raster_Dots.l0, if_neg (by omega)])
  | succ d ih =>
    intro t ht
    have e : wrap64 ((t : Int) + 1) = ((t + 1 : Nat) : Int) := wrap_up rfl (by omega)
    have next := ih (t + 1) (by omega)
    have out : ¬ (0 ≤ (rd_T40 l (t : Int)).f0 ∧ 0 ≤ (rd_T40 l (t : Int)).f1 ∧ (rd_T40 l (t : Int)).f0 < 256 ∧ (rd_T40 l (t : Int)).f1 < 256) → tab n (fun i => ((cD l i (t + 1) : Nat) : Int)) = tab n (fun i => ((cD l i t : Nat) : Int)) := by
      intro hn'
      refine tab_congr fun i _ => ?_
      rw [cD]
      unfold dP
      rw [decide_eq_false (fun h => hn' ⟨h.1, h.2.1, h.2.2.1, h.2.2.2.1⟩), if_neg (by decide), Nat.add_zero]
    by_cases c1 : mn (rd_T40 l (t : Int)).f0 (rd_T40 l (t : Int)).f1 ≥ 0
    case neg =>
      rw [out (fun h => c1 (mn_ge.2 ⟨h.1, h.2.1⟩))] at next
      exact Is.step next (fun k => by rw [raster_Dots.l0, if_pos (by omega), if_pos (by omega), if_pos (by omega), if_neg c1, e])
    by_cases c2 : mx (rd_T40 l (t : Int)).f0 (rd_T40 l (t : Int)).f1 < 256
    case neg =>
      rw [out (fun h => c2 (mx_lt.2 ⟨h.2.2.1, h.2.2.2⟩))] at next
      exact Is.step next (fun k => by rw [raster_Dots.l0, if_pos (by omega), if_pos (by omega), if_pos (by omega), if_pos c1, if_neg c2, e])
    obtain ⟨u0, u1⟩ := mn_ge.1 c1
    obtain ⟨u2, u3⟩ := mx_lt.1 c2
    have cc : cD l 0 t ≤ t := cD_le l 0 t
    have hset : ∀ (q : Nat), (q : Int) = (rd_T40 l (t : Int)).f1 / 4 * 64 + (rd_T40 l (t : Int)).f0 / 4 → (tab n (fun i => ((cD l i t : Nat) : Int))).set q (wrap64 ((cD l q t : Nat) + 1)) = tab n (fun i => ((cD l i (t + 1) : Nat) : Int)) := by
      intro q hq
      have hc := cD_le l q t
      rw [tab_set]
      refine tab_congr fun i _ => ?_
      rw [cD]
      unfold dP
      by_cases c : i = q
      · rw [if_pos c, c, decide_eq_true ⟨u0, u1, u2, u3, hq.symm⟩, if_pos rfl]
        exact wrap_up rfl (by omega)
      · rw [if_neg c, decide_eq_false (fun h => c (by have := h.2.2.2.2; omega)), if_neg (by decide), Nat.add_zero]
    generalize hp0 : (rd_T40 l (t : Int)).f0 = p0 at *
    generalize hp1 : (rd_T40 l (t : Int)).f1 = p1 at *
    obtain ⟨q, hq⟩ : ∃ q : Nat, (q : Int) = p1 / 4 * 64 + p0 / 4 := ⟨(p1 / 4 * 64 + p0 / 4).toNat, by omega⟩
    have hqn : q < n := by omega
    have ed1 : wrap64 (Int.tdiv p1 4) = p1 / 4 := by rw [tdiv_pos u1, wrap_id (by omega) (by omega)]
    have ed0 : wrap64 (Int.tdiv p0 4) = p0 / 4 := by rw [tdiv_pos u0, wrap_id (by omega) (by omega)]
    have em : wrap64 (p1 / 4 * 64) = p1 / 4 * 64 := wrap_id (by omega) (by omega)
    have ea : wrap64 (p1 / 4 * 64 + p0 / 4) = (q : Int) := by rw [wrap_id (by omega) (by omega), hq]
    have hs := hset q hq
    refine Is.step next (fun k => ?_)
    rw [raster_Dots.l0, if_pos (by omega), if_pos (by omega), if_pos (by omega), hp0, hp1, if_pos c1, if_pos c2, ed1, ed0, em, ea, if_pos (by omega), if_pos (by rw [tab_length]; omega), tab_rd n _ q hqn, Int.toNat_natCast, hs, e]
theorem dots_all (n : Nat) (hn : n = 4096) (l : List S40) (hl : l.length ≤ 1099511627776) : Is (fun k => raster_Dots.f k l) (tab n (fun i => ((cD l i l.length : Nat) : Int))) := by
  obtain ⟨K, hK⟩ := dots_l0 n hn l hl l.length 0 (by omega)
  refine ⟨K, fun k hk => ?_⟩
  show raster_Dots.f k l = _
  unfold raster_Dots.f
  rw [if_pos (by decide), ← hn, tab_zero]
  exact hK k hk
/-! ### sums -/
def sm (l : List Int) : Nat → Int
  | 0 => 0
  | j + 1 => sm l j + rd l (j : Int)
def Sml (l : List Int) : Prop := ∀ j : Nat, -4096 ≤ rd l (j : Int) ∧ rd l (j : Int) ≤ 4096
theorem sm_rng {l : List Int} (h : Sml l) : ∀ j : Nat, -(4096 * (j : Int)) ≤ sm l j ∧ sm l j ≤ 4096 * (j : Int)
  | 0 => by simp [sm]
  | j + 1 => by have h1 := sm_rng h j; have h2 := h j; rw [sm]; omega
theorem total_all' {l : List Int} (h : Sml l) (hl : l.length ≤ 2199023255552) : Is (fun k => raster_Total.f k l) (sm l l.length) := by
  have go : ∀ (d j : Nat), j + d = l.length → Is (fun k => raster_Total.l0 k (sm l j) l (l.length : Int) (j : Int)) (sm l l.length) := by
    intro d
    induction d with
    | zero =>
      intro j hj
      obtain rfl : j = l.length := by omega
      exact Is.step (Is.pure _) (fun k => by rw [raster_Total.l0, if_neg (by omega)])
    | succ d ih =>
      intro j hj
      have h1 := sm_rng h j
      have h2 := h j
      have e : wrap64 ((j : Int) + 1) = ((j + 1 : Nat) : Int) := wrap_up rfl (by omega)
      have e2 : wrap64 (sm l j + rd l (j : Int)) = sm l (j + 1) := by rw [sm]; exact wrap_id (by omega) (by omega)
      exact Is.step (ih (j + 1) (by omega)) (fun k => by rw [raster_Total.l0, if_pos (by omega), if_pos (by omega), if_pos (by omega), e, e2])
  obtain ⟨K, hK⟩ := go l.length 0 (by omega)
  exact ⟨K, fun k hk => hK k hk⟩
theorem sum_all' {l : List Int} (h : Sml l) (hl : l.length ≤ 2199023255552) : Is (fun k => terrlaw5_sum.f k l) (sm l l.length) := by
  have go : ∀ (d j : Nat), j + d = l.length → Is (fun k => terrlaw5_sum.l0 k l (sm l l.length - sm l d) (l.length : Int) (j : Int)) (sm l l.length) := by
    intro d
    induction d with
    | zero =>
      intro j hj
      obtain rfl : j = l.length := by omega
      have e0 : sm l l.length - sm l 0 = sm l l.length := by rw [sm]; omega
      rw [e0]
      exact Is.step (Is.pure _) (fun k => by rw [terrlaw5_sum.l0, if_neg (by omega)])
    | succ d ih =>
      intro j hj
      have h1 := sm_rng h l.length
      have h3 := sm_rng h d
      have h2 := h d
      have e : wrap64 ((j : Int) + 1) = ((j + 1 : Nat) : Int) := wrap_up rfl (by omega)
      have e1 : wrap64 (wrap64 ((l.length : Int) - 1) - j) = (d : Int) := by
        rw [wrap_id (x := (l.length : Int) - 1) (by omega) (by omega), wrap_id (by omega) (by omega)]; omega
      have e2 : wrap64 (sm l l.length - sm l (d + 1) + rd l (d : Int)) = sm l l.length - sm l d := by
        rw [sm, wrap_id (by omega) (by omega)]; omega
      exact Is.step (ih (j + 1) (by omega)) (fun k => by rw [terrlaw5_sum.l0, if_pos (by omega), e1, if_pos (by omega), if_pos (by omega), e, e2])
  obtain ⟨K, hK⟩ := go l.length 0 (by omega)
  refine ⟨K, fun k hk => ?_⟩
  have := hK k hk
  rw [Int.sub_self] at this
  exact this
/-- The list of the limited coordinates. -/
def lim (l : List S40) : Nat → List Int
  | 0 => []
  | t + 1 => lim l t ++ [cl (rd_T40 l (t : Int)).f0, cl (rd_T40 l (t : Int)).f1]
theorem lim_length (l : List S40) : ∀ t, (lim l t).length = 2 * t
  | 0 => rfl
  | t + 1 => by rw [lim, List.length_append, lim_length l t]; simp; omega
theorem lim_mem (l : List S40) : ∀ t, ∀ x ∈ lim l t, -4096 ≤ x ∧ x ≤ 4096
  | 0 => fun x hx => by cases hx
  | t + 1 => by
    intro x hx
    rw [lim] at hx
    rcases List.mem_append.1 hx with hx | hx
    · exact lim_mem l t x hx
    · have c1 := cl_rng (rd_T40 l (t : Int)).f0
      have c2 := cl_rng (rd_T40 l (t : Int)).f1
      rcases List.mem_cons.1 hx with rfl | hx
      · exact c1
      · rcases List.mem_cons.1 hx with rfl | hx
        · exact c2
        · cases hx
theorem lim_small (l : List S40) (t : Nat) : Sml (lim l t) := by
  intro j
  unfold rd
  rw [Int.toNat_natCast]
  by_cases c : j < (lim l t).length
  · rw [List.getD_eq_getElem?_getD, List.getElem?_eq_getElem c]
    exact lim_mem l t _ (List.getElem_mem c)
  · rw [List.getD_eq_getElem?_getD, List.getElem?_eq_none (by omega)]
    decide
end Go.Proofs.Ytdmhnjpblpfbfaa.UL

