/- PackOnly's pure statement: bytes that are read are just those that are written, and no beginning of them is read. No condition but the statement's own. -/
import Derived.Test.YtjgoehhhjffpmaaUPc
import Derived.Test.YtjgoehhhjffpmaaQPackOnly
namespace Go.Proofs.Ytjgoehhhjffpmaa.U
open Go Go.RowKit Go.Proofs.Ytjgoehhhjffpmaa.Q Go.Proofs.YtjgoehhhjffpmaaW.PrintWords Go.Proofs.YtjgoehhhjffpmaaW.PrintLast Go.Proofs.YtjgoehhhjffpmaaW.PrintMore
set_option linter.unusedSimpArgs false
set_option linter.unusedVariables false
theorem below_in (x n : Int) (hn : 0 < n) (hb : n ≤ 4611686018427387904) : ∃ r, terrmake_Below.f x n = some r ∧ 0 ≤ r ∧ r < n := by
  have h1 : Int.tmod x n < n := Int.tmod_lt_of_pos x (by omega)
  have h2 : -n < Int.tmod x n := by have := Int.lt_tmod_of_pos x (b := n) (by omega); omega
  unfold terrmake_Below.f
  rw [if_neg (by omega)]
  generalize Int.tmod x n = y at h1 h2
  by_cases c : y < 0
  · exact ⟨y + n, by rw [if_pos c, wrap_id (by omega) (by omega)], by omega, by omega⟩
  · exact ⟨y, by rw [if_neg c], by omega, h1⟩
theorem read_short (b : List Int) (h : b.length < 8) : Tot (fun k => pack_Read.f k b) (fun r => r = ([], 14)) :=
  Tot.same (f := fun _ => some ([], 14)) (Tot.pure (P := fun r => r = ([], 14)) rfl) (fun k => by unfold pack_Read.f; rw [if_neg (by omega), if_pos (by omega)])
theorem only_j1 (x : Int) (c : List Int) (h8 : 8 ≤ c.length) (hc : c.length ≤ 65536) : Tot (fun k => terrkeep5_PackOnly.j1 k x c false) (fun t => t = true) := by
  obtain ⟨r, e, r0, r1⟩ := below_in x (c.length : Int) (by omega) (by omega)
  have m0 : 0 ≤ mn r 7 ∧ mn r 7 ≤ 7 := by unfold mn; split <;> omega
  refine Tot.step (f := fun k => (terrmake_Below.f x (c.length : Int)).bind fun t280 => (if 0 ≤ (mn t280 7) then (if (mn t280 7) ≤ (c.length : Int) then ((pack_Read.f k (c.take ((mn t280 7) : Int).toNat)).bind fun bt285 => (some (bt285.2 == 14))) else (none)) else (none))) ?_ (fun k => by rw [terrkeep5_PackOnly.j1, if_neg (by decide)])
  rw [e]
  refine Tot.bind (P := fun t => t = r) (Tot.pure rfl) (fun t ht => ?_)
  subst ht
  refine Tot.ite (fun _ => Tot.ite (fun _ => ?_) (fun q => absurd (by omega) q)) (fun q => absurd m0.1 q)
  exact Tot.bind (read_short _ (by rw [List.length_take]; omega)) (fun p hp => Tot.pure (by rw [hp]; rfl))
theorem only_j0 (lim : Nat) (hlim : lim = 140737488355328) (l : List Int) (x : Int) : Tot (fun k => terrkeep5_PackOnly.j0 k l x) (fun t => t = true) := by
  obtain ⟨s, hw, h4, h800, _⟩ := draws_write lim hlim l
  refine Tot.step (f := fun k => (some (drawsL l)).bind fun t273 => ((pack_Write.f k t273).bind fun bt276 => (if bt276.2 = 0 then (terrkeep5_PackOnly.j1 k x bt276.1 (decide ((bt276.1.length : Int) < 8))) else (terrkeep5_PackOnly.j1 k x bt276.1 true)))) ?_ (fun k => by rw [terrkeep5_PackOnly.j0, drawsL_eq])
  refine Tot.bind (P := fun t => t = drawsL l) (Tot.pure rfl) (fun t ht => ?_)
  subst ht
  refine Tot.bind hw (fun r hr => ?_)
  subst hr
  have hl : (bodyOf (drawsL l) ++ fourL s).length = (bodyOf (drawsL l)).length + 4 := by rw [List.length_append]; rfl
  refine Tot.ite (fun _ => ?_) (fun q => absurd rfl q)
  have hd : decide (((bodyOf (drawsL l) ++ fourL s).length : Int) < 8) = false := decide_eq_false (by omega)
  show Tot (fun k => terrkeep5_PackOnly.j1 k x (bodyOf (drawsL l) ++ fourL s) (decide (((bodyOf (drawsL l) ++ fourL s).length : Int) < 8))) _
  rw [hd]
  exact only_j1 x _ (by omega) (by omega)
theorem packonly (lim : Nat) (hlim : lim = 140737488355328) (b : List Int) (hb : Bytes b) (l : List Int) (x : Int) : Tot (fun k => terrkeep5_PackOnly.f k b l x) (fun t => t = true) := by
  unfold terrkeep5_PackOnly.f
  refine Tot.bind (read_short [] (by simp)) (fun r hr => ?_)
  subst hr
  refine Tot.ite (fun _ => ?_) (fun q => absurd rfl q)
  refine Tot.bind (read_tot lim hlim b hb) (fun r hr => Tot.ite (fun c => ?_) (fun _ => only_j0 lim hlim l x))
  obtain ⟨s, g1, g2, g3, g4, g5, g6⟩ := hr c
  have hl := congrArg List.length g5
  rw [List.length_append, show (fourL s).length = 4 from rfl] at hl
  refine Tot.bind (write_tot lim hlim r.1 g1 g2 g3 (by omega) s g4) (fun p hp => ?_)
  subst hp
  refine Tot.ite (fun _ => ?_) (fun q => absurd rfl q)
  rw [← g5]
  exact Tot.bind (eqb_same b (by omega)) (fun t ht => Tot.ite (fun _ => only_j0 lim hlim l x) (fun q => absurd ht q))
end Go.Proofs.Ytjgoehhhjffpmaa.U
namespace Go.Proofs.Ytjgoehhhjffpmaa.Pure
open Go.RowKit Go.Proofs.Ytjgoehhhjffpmaa.Q
theorem PackOnly : terrkeep5_PackOnly.Pure := by
  intro l0 l1 a2 _ _ hw _ _ _ _
  obtain ⟨t, rfl, K, hK⟩ := U.packonly 140737488355328 rfl l0 (fun x hx => (by
    have := hw x hx
    simp only [Lit.wf, Bool.and_eq_true, decide_eq_true_eq] at this
    exact this)) l1 a2
  exact ⟨K, hK K (Nat.le_refl _)⟩
end Go.Proofs.Ytjgoehhhjffpmaa.Pure
