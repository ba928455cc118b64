/- Plain facts on commands: the second way to check them answers the same. No condition but those stated. -/
import Derived.Test.YtjgoehhhjffpmaaZtUVa
namespace Go.Proofs.Ytjgoehhhjffpmaa.U
open Go.RowKit Go.Proofs.Ytjgoehhhjffpmaa.Q Go.Proofs.YtjgoehhhjffpmaaW.PrintWords Go.Proofs.YtjgoehhhjffpmaaW.PrintLast Go.Proofs.YtjgoehhhjffpmaaW.PrintMore
set_option linter.unusedSimpArgs false
set_option linter.unusedVariables false
/-- The least number of points of a part. -/
def least (kd : Int) : Int := rd ([0, 1, 2, 3, 1] : List Int) kd
theorem kinds {kd : Int} (h : ¬ BadK kd) : kd = 1 ∨ kd = 2 ∨ kd = 3 ∨ kd = 4 := by unfold BadK at h; omega
theorem least_is {kd : Int} (h : ¬ BadK kd) (n : Nat) : ((n : Int) < least kd ∨ ((n : Int) > 1 ∧ Int.tmod kd 3 = 1)) ↔ BadN kd n := by
  unfold BadN
  rcases kinds h with rfl | rfl | rfl | rfl
  · rw [show least 1 = 1 from rfl, show Int.tmod 1 3 = 1 from rfl]; omega
  · rw [show least 2 = 2 from rfl, show Int.tmod 2 3 = 2 from rfl]; omega
  · rw [show least 3 = 3 from rfl, show Int.tmod 3 3 = 0 from rfl]; omega
  · rw [show least 4 = 1 from rfl, show Int.tmod 4 3 = 1 from rfl]; omega
theorem fault_l2 (kd la co wi : Int) (ps : List (List S44)) (tx : ByteArray) (i : Nat) (hi : i < ps.length) (hp : ps.length ≤ 20) (R : Int) (hr : Is (fun k => terrref5_DrawFault.l1 k (least kd) ps (ps.length : Int) ((i + 1 : Nat) : Int) kd la co wi ps tx) R) (p : List S44) (hl : p.length ≤ 400) :
    ∀ (d j : Nat), j + d = p.length → Is (fun k => terrref5_DrawFault.l2 k (least kd) ps (ps.length : Int) (i : Int) p (p.length : Int) (j : Int) kd la co wi ps tx) (if ptsC (p.drop j) = 0 then R else 1)
  | 0, j, hj => by
    rw [drop_end (by omega), if_pos (show ptsC [] = 0 from rfl)]
    exact Is.step hr (fun k => by rw [terrref5_DrawFault.l2, if_neg (by omega), nx hi (by omega)])
  | d + 1, j, hj => by
    have ih := fault_l2 kd la co wi ps tx i hi hp R hr p hl d (j + 1) (by omega)
    have hlt : j < p.length := by omega
    rw [drop_is hlt, ptsC]
    refine Is.step (f := fun k => if ((rd_T44 p (j : Int)).f0) < (-4096) then (some 1) else (if ((rd_T44 p (j : Int)).f0) > 4096 then (some 1) else (if ((rd_T44 p (j : Int)).f1) < (-4096) then (some 1) else (if ((rd_T44 p (j : Int)).f1) > 4096 then (some 1) else (terrref5_DrawFault.l2 k (least kd) ps (ps.length : Int) (i : Int) p (p.length : Int) ((j + 1 : Nat) : Int) kd la co wi ps tx))))) ?_ (fun k => by rw [terrref5_DrawFault.l2, if_pos (by omega), if_pos (by omega), if_pos (by omega), nx hlt (by omega)])
    rw [rd44_at hlt]
    have bad : BadP p[j] → Is (fun _ : Nat => (some 1 : Option Int)) (if (if BadP p[j] then 1 else ptsC (p.drop (j + 1))) = 0 then R else 1) := fun h => by
      rw [if_pos h, if_neg (by decide)]; exact Is.pure _
    refine Is.ite (fun c => bad (by unfold BadP; omega)) (fun c => Is.ite (fun c' => bad (by unfold BadP; omega)) (fun c' => Is.ite (fun c2 => bad (by unfold BadP; omega)) (fun c2 => Is.ite (fun c3 => bad (by unfold BadP; omega)) (fun c3 => ?_))))
    rw [if_neg (c := BadP p[j]) (by unfold BadP; omega)]
    exact ih
theorem fault_l1 (kd la co wi : Int) (ps : List (List S44)) (tx : ByteArray) (hk : ¬ BadK kd) (hp : ps.length ≤ 20) :
    ∀ (d i : Nat), i + d = ps.length → Is (fun k => terrref5_DrawFault.l1 k (least kd) ps (ps.length : Int) (i : Int) kd la co wi ps tx) (partsC kd (ps.drop i))
  | 0, i, hi => by
    rw [drop_end (by omega)]
    exact Is.step (f := fun _ => some 0) (Is.pure _) (fun k => by rw [terrref5_DrawFault.l1, if_neg (by omega)])
  | d + 1, i, hi => by
    have ih := fault_l1 kd la co wi ps tx hk hp d (i + 1) (by omega)
    have hlt : i < ps.length := by omega
    rw [drop_is hlt, partsC]
    obtain ⟨p, hpe⟩ : ∃ p, p = ps[i] := ⟨_, rfl⟩
    refine Is.step (f := fun k => if (p.length : Int) > 400 then (some 2) else (if (p.length : Int) < least kd then (terrref5_DrawFault.j6 k (least kd) p ps (ps.length : Int) (i : Int) true kd la co wi ps tx) else (if (p.length : Int) > 1 then (terrref5_DrawFault.j6 k (least kd) p ps (ps.length : Int) (i : Int) ((Int.tmod kd 3) == 1) kd la co wi ps tx) else (terrref5_DrawFault.j6 k (least kd) p ps (ps.length : Int) (i : Int) false kd la co wi ps tx)))) ?_ (fun k => by rw [terrref5_DrawFault.l1, if_pos (by omega), if_pos (by omega), if_pos (by omega), rdL4_at hlt, ← hpe])
    rw [← hpe]
    refine Is.ite (fun c => ?_) (fun c => ?_)
    · unfold partC; rw [if_pos (show 400 < p.length by omega), if_neg (by decide)]; exact Is.pure _
    have j6 : ∀ x : Bool, (x = true ↔ BadN kd p.length) → Is (fun k => terrref5_DrawFault.j6 k (least kd) p ps (ps.length : Int) (i : Int) x kd la co wi ps tx) (if partC kd p = 0 then partsC kd (ps.drop (i + 1)) else partC kd p) := fun x hx => by
      refine Is.step (f := fun k => if x = true then (some 3) else (terrref5_DrawFault.l2 k (least kd) ps (ps.length : Int) (i : Int) p (p.length : Int) 0 kd la co wi ps tx)) ?_ (fun k => by rw [terrref5_DrawFault.j6])
      unfold partC
      rw [if_neg (show ¬ 400 < p.length by omega)]
      refine Is.ite (fun c => ?_) (fun c => ?_)
      · rw [if_pos (hx.1 c), if_neg (by decide)]; exact Is.pure _
      · rw [hx] at c
        rw [if_neg c]
        refine (fault_l2 kd la co wi ps tx i hlt hp _ ih p (by omega) p.length 0 (by omega)).eq ?_
        rw [List.drop_zero]
        have h01 : ∀ l : List S44, ptsC l = 0 ∨ ptsC l = 1 := fun l => by
          induction l with
          | nil => exact .inl rfl
          | cons q l ih => unfold ptsC; split; exact .inr rfl; exact ih
        rcases h01 p with h | h
        · rw [if_pos h, if_pos h]
        · rw [if_neg (by omega), if_neg (by omega), h]
    have hB := least_is hk p.length
    refine Is.ite (fun c1 => j6 _ ⟨fun _ => hB.1 (.inl c1), fun _ => rfl⟩) (fun c1 => Is.ite (fun c2 => j6 _ ?_) (fun c2 => j6 _ ⟨fun h => (by cases h), fun h => ?_⟩))
    · rw [beq_iff_eq, ← hB]; omega
    · rcases hB.2 h with h | h <;> omega
theorem fault_j4 (kd la co wi : Int) (ps : List (List S44)) (tx : ByteArray) (hk : ¬ BadK kd) (x : Bool) (hx : x = true ↔ BadM kd ps.length) :
    Is (fun k => terrref5_DrawFault.j4 k x kd la co wi ps tx) (tailC kd ps) := by
  have b := kinds hk
  refine Is.step (f := fun k => if x = true then (some 3) else (terrref5_DrawFault.l1 k (least kd) ps (ps.length : Int) 0 kd la co wi ps tx)) ?_ (fun k => by
    rw [terrref5_DrawFault.j4, Option.bind_some, if_pos (show 0 ≤ kd by omega), if_pos (show kd < (([0, 1, 2, 3, 1] : List Int).length : Int) by show kd < 5; omega)]
    rfl)
  unfold tailC
  refine Is.ite (fun c => ?_) (fun c => ?_)
  · rw [if_pos (hx.1 c)]; exact Is.pure _
  · rw [hx] at c
    rw [if_neg c]
    exact fault_l1 kd la co wi ps tx hk (by unfold BadM at c; omega) ps.length 0 (by omega)
theorem fault_l0 (kd la co wi : Int) (ps : List (List S44)) (tx : ByteArray) (hk : ¬ BadK kd) (hs : tx.size ≤ 40) : ∀ (d i : Nat), i + d = tx.size → Is (fun k => terrref5_DrawFault.l0 k tx (tx.size : Int) (i : Int) kd la co wi ps tx) (if txtL ((bytesOf tx).drop i) = 0 then tailC kd ps else 3)
  | 0, i, hi => by
    rw [drop_end (by rw [bytesOf_length]; omega), if_pos (show txtL [] = 0 from rfl)]
    refine Is.step (f := fun k => if (ps.length : Int) < 1 then (terrref5_DrawFault.j4 k true kd la co wi ps tx) else (if (ps.length : Int) > 20 then (terrref5_DrawFault.j4 k true kd la co wi ps tx) else (if kd = 4 then (terrref5_DrawFault.j4 k (decide ((ps.length : Int) > 1)) kd la co wi ps tx) else (terrref5_DrawFault.j4 k false kd la co wi ps tx)))) ?_ (fun k => by rw [terrref5_DrawFault.l0, if_neg (by omega)])
    have j4 := fault_j4 kd la co wi ps tx hk
    refine Is.ite (fun c => j4 _ ⟨fun _ => by unfold BadM; omega, fun _ => rfl⟩) (fun c => Is.ite (fun c => j4 _ ⟨fun _ => by unfold BadM; omega, fun _ => rfl⟩) (fun c1 => Is.ite (fun c2 => j4 _ ?_) (fun c2 => j4 _ ⟨fun h => (by cases h), fun h => by unfold BadM at h; omega⟩)))
    rw [decide_eq_true_iff]; unfold BadM; omega
  | d + 1, i, hi => by
    have ih := fault_l0 kd la co wi ps tx hk hs d (i + 1) (by omega)
    have hlt : i < tx.size := by omega
    rw [drop_is (by rw [bytesOf_length]; exact hlt), txtL]
    refine Is.step (f := fun k => if (bt tx (i : Int)) < 32 then (some 3) else (if (bt tx (i : Int)) > 126 then (some 3) else (terrref5_DrawFault.l0 k tx (tx.size : Int) ((i + 1 : Nat) : Int) kd la co wi ps tx))) ?_ (fun k => by rw [terrref5_DrawFault.l0, if_pos (by omega), if_pos (by omega), if_pos (by omega), nx hlt (by omega)])
    rw [bt_bytes tx hlt]
    refine Is.ite (fun c => ?_) (fun c => Is.ite (fun c' => ?_) (fun c' => ?_))
    · rw [if_pos (by omega : _ ∨ _), if_neg (by decide)]; exact Is.pure _
    · rw [if_pos (by omega : _ ∨ _), if_neg (by decide)]; exact Is.pure _
    · rw [if_neg (c := _ ∨ _) (by omega)]; exact ih
theorem txt03 : ∀ l : List Int, txtL l = 0 ∨ txtL l = 3
  | [] => .inl rfl
  | c :: l => by unfold txtL; split; exact .inr rfl; exact txt03 l
theorem fault_j2 (kd la co wi : Int) (ps : List (List S44)) (tx : ByteArray) (hk : ¬ BadK kd) (x : Bool) (hx : x = true ↔ (tx.toList = [] ↔ kd = 4)) :
    Is (fun k => terrref5_DrawFault.j2 k x kd la co wi ps tx) (if textC kd tx = 0 then tailC kd ps else textC kd tx) := by
  refine Is.step (f := fun k => if x = true then (some 3) else (if (tx.size : Int) > 40 then (some 2) else (terrref5_DrawFault.l0 k tx (tx.size : Int) 0 kd la co wi ps tx))) ?_ (fun k => by rw [terrref5_DrawFault.j2])
  unfold textC
  refine Is.ite (fun c => ?_) (fun c => Is.ite (fun c' => ?_) (fun c' => ?_))
  · rw [if_pos (hx.1 c), if_neg (by decide)]; exact Is.pure _
  · rw [hx] at c
    rw [if_neg c, if_pos (show 40 < tx.size by omega), if_neg (by decide)]; exact Is.pure _
  · rw [hx] at c
    rw [if_neg c, if_neg (show ¬ 40 < tx.size by omega)]
    refine (fault_l0 kd la co wi ps tx hk (by omega) tx.size 0 (by omega)).eq ?_
    rw [List.drop_zero]
    rcases txt03 (bytesOf tx) with h | h
    · rw [if_pos h, if_pos h]
    · rw [if_neg (by omega), if_neg (by omega), h]
theorem fault_is (d : S48) : Is (fun k => terrref5_DrawFault.f k d.f0 d.f1 d.f2 d.f3 d.f4 d.f5) (chk d) := by
  obtain ⟨kd, la, co, wi, ps, tx⟩ := d
  unfold chk
  simp only
  have j1 : ∀ x : Bool, ¬ BadK kd → (x = true ↔ BadV la co wi) → Is (fun k => terrref5_DrawFault.j1 k x kd la co wi ps tx) (if BadV la co wi then 2 else if textC kd tx = 0 then tailC kd ps else textC kd tx) := fun x hk hx => by
    refine Is.step (f := fun k => if x = true then (some 2) else (if kd = 4 then (if tx.toList = ([] : List UInt8) then (terrref5_DrawFault.j2 k true kd la co wi ps tx) else (terrref5_DrawFault.j2 k false kd la co wi ps tx)) else (terrref5_DrawFault.j2 k (tx.toList != ([] : List UInt8)) kd la co wi ps tx))) ?_ (fun k => by rw [terrref5_DrawFault.j1])
    have j2 := fault_j2 kd la co wi ps tx hk
    refine Is.ite (fun c => ?_) (fun c => ?_)
    · rw [if_pos (hx.1 c)]; exact Is.pure _
    rw [hx] at c
    rw [if_neg c]
    refine Is.ite (fun c4 => Is.ite (fun c0 => j2 _ ⟨fun _ => ⟨fun _ => c4, fun _ => c0⟩, fun _ => rfl⟩) (fun c0 => j2 _ ⟨fun h => (by cases h), fun h => absurd (h.2 c4) c0⟩)) (fun c4 => j2 _ ?_)
    rw [bne_iff_ne]
    exact ⟨fun h => ⟨fun h' => absurd h' h, fun h' => absurd h' c4⟩, fun h h' => c4 (h.1 h')⟩
  have j0 : ∀ x : Bool, (x = true ↔ BadK kd) → Is (fun k => terrref5_DrawFault.j0 k x kd la co wi ps tx) (if BadK kd then 1 else if BadV la co wi then 2 else if textC kd tx = 0 then tailC kd ps else textC kd tx) := fun x hx => by
    refine Is.step (f := fun k => if x = true then (some 1) else (if la < 0 then (terrref5_DrawFault.j1 k true kd la co wi ps tx) else (if la > 100 then (terrref5_DrawFault.j1 k true kd la co wi ps tx) else (if co < 0 then (terrref5_DrawFault.j1 k true kd la co wi ps tx) else (if co > 255 then (terrref5_DrawFault.j1 k true kd la co wi ps tx) else (if wi < 0 then (terrref5_DrawFault.j1 k true kd la co wi ps tx) else (terrref5_DrawFault.j1 k (decide (wi > 64)) kd la co wi ps tx))))))) ?_ (fun k => by rw [terrref5_DrawFault.j0])
    refine Is.ite (fun c => ?_) (fun c => ?_)
    · rw [if_pos (hx.1 c)]; exact Is.pure _
    rw [hx] at c
    rw [if_neg c]
    have t : BadV la co wi → Is (fun k => terrref5_DrawFault.j1 k true kd la co wi ps tx) (if BadV la co wi then 2 else if textC kd tx = 0 then tailC kd ps else textC kd tx) := fun h => j1 true c ⟨fun _ => h, fun _ => rfl⟩
    refine Is.ite (fun c1 => t (by unfold BadV; omega)) (fun c1 => Is.ite (fun c2 => t (by unfold BadV; omega)) (fun c2 => Is.ite (fun c3 => t (by unfold BadV; omega)) (fun c3 => Is.ite (fun c4 => t (by unfold BadV; omega)) (fun c4 => Is.ite (fun c5 => t (by unfold BadV; omega)) (fun c5 => j1 _ c ?_)))))
    rw [decide_eq_true_iff]; unfold BadV; omega
  unfold terrref5_DrawFault.f
  refine Is.ite (fun c => j0 _ ⟨fun h => (by cases h), fun h => by unfold BadK at h; omega⟩) (fun c1 => Is.ite (fun c => j0 _ ⟨fun h => (by cases h), fun h => by unfold BadK at h; omega⟩) (fun c2 => Is.ite (fun c => j0 _ ⟨fun h => (by cases h), fun h => by unfold BadK at h; omega⟩) (fun c3 => j0 _ ?_)))
  rw [bne_iff_ne]; unfold BadK; omega
theorem draws_l0 (l : List S48) (hl : l.length ≤ 500) : ∀ (n i : Nat), i + n = l.length → Is (fun k => terrref5_DrawsFault.l0 k l (l.length : Int) (i : Int)) (chkAll (l.drop i))
  | 0, i, hi => by
    rw [drop_end (by omega)]
    exact Is.step (f := fun _ => some 0) (Is.pure _) (fun k => by rw [terrref5_DrawsFault.l0, if_neg (by omega)])
  | n + 1, i, hi => by
    have ih := draws_l0 l hl n (i + 1) (by omega)
    have hlt : i < l.length := by omega
    rw [drop_is hlt, chkAll]
    refine Is.step (f := fun k => (terrref5_DrawFault.f k ((rd_T48 l (i : Int)).f0) ((rd_T48 l (i : Int)).f1) ((rd_T48 l (i : Int)).f2) ((rd_T48 l (i : Int)).f3) ((rd_T48 l (i : Int)).f4) ((rd_T48 l (i : Int)).f5)).bind fun t => (if t = 0 then (terrref5_DrawsFault.l0 k l (l.length : Int) ((i + 1 : Nat) : Int)) else (some t))) ?_ (fun k => by rw [terrref5_DrawsFault.l0, if_pos (by omega), if_pos (by omega), if_pos (by omega), nx hlt (by omega)])
    rw [rd48_is hlt]
    refine Is.bind (fault_is _) (Is.ite (fun c => ?_) (fun c => ?_))
    · rw [if_pos c]; exact ih
    · rw [if_neg c]; exact Is.pure _
theorem draws_is (l : List S48) : Is (fun k => terrref5_DrawsFault.f k l) (draws l) := by
  unfold terrref5_DrawsFault.f draws
  refine Is.ite (fun c => ?_) (fun c => ?_)
  · rw [if_pos (by omega)]; exact Is.pure _
  · rw [if_neg (by omega)]
    exact draws_l0 l (by omega) l.length 0 (by omega)
end Go.Proofs.Ytjgoehhhjffpmaa.U

