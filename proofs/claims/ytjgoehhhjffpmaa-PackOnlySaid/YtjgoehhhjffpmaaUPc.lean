/- Plain facts on packs: what is written, and the commands that Draws makes. Conditions: stated at each. -/
import Derived.Test.YtjgoehhhjffpmaaUPb
import Derived.Test.YtjgoehhhjffpmaaQf37
namespace Go.Proofs.Ytjgoehhhjffpmaa.U
open Go Go.RowKit Go.Proofs.Ytjgoehhhjffpmaa.Q Go.Proofs.YtjgoehhhjffpmaaW.PrintWords Go.Proofs.YtjgoehhhjffpmaaW.PrintLast Go.Proofs.YtjgoehhhjffpmaaW.PrintMore
set_option linter.unusedSimpArgs false
set_option linter.unusedVariables false
/-! ### writing -/
theorem write_loop (lim : Nat) (hlim : lim = 140737488355328) (ds : List S48) (hn : ds.length ≤ 500) (hG : ∀ x ∈ ds, GD x) (body : List Int) (hb : body.length ≤ 65532) (s : Int) (hs : ∃ K, ∀ k, K ≤ k → pack_Sum.f k body = some s) :
    ∀ (d i : Nat) (acc : List Int), i + d = ds.length → acc ++ encDs (ds.drop i) = body → Tot (fun k => pack_Write.l0 k acc ds (ds.length : Int) (i : Int)) (fun r => r = (body ++ fourL s, 0))
  | 0, i, acc, hi, ha => by
    have ea : acc = body := by rw [← ha, List.drop_of_length_le (by omega), encDs, List.append_nil]
    subst ea
    refine Tot.step (f := fun k => (pack_Sum.f k acc).bind fun t183 => ((pack_four.f t183).bind fun t184 => (if acc.length + t184.length < 140737488355328 then ((some (acc ++ t184 : List Int)).bind fun y187 => (if (y187.length : Int) > 65536 then (some (([] : List Int), 2)) else (some (y187, 0)))) else (none)))) ?_ (fun k => by rw [pack_Write.l0, if_neg (by omega)])
    obtain ⟨K, hK⟩ := hs
    refine Tot.bind (P := fun t => t = s) ⟨s, rfl, K, hK⟩ (fun t ht => Tot.bind (P := fun f => f = fourL s) (Tot.pure (by rw [ht]; rfl)) (fun f hf => ?_))
    have h4 : f.length = 4 := by rw [hf]; rfl
    refine Tot.ite (fun _ => Tot.bind (P := fun y => y = acc ++ f) (Tot.pure rfl) (fun y hy => Tot.ite (fun c => ?_) (fun _ => Tot.pure (by rw [hy, hf])))) (fun c => absurd (by omega) c)
    rw [hy, List.length_append] at c; omega
  | d + 1, i, acc, hi, ha => by
    have hlt : i < ds.length := by omega
    have e : ds.drop i = ds[i] :: ds.drop (i + 1) := (List.getElem_cons_drop (h := hlt)).symm
    rw [e, encDs] at ha
    obtain ⟨g1, g2, g3⟩ := hG _ (List.getElem_mem hlt)
    have hal : acc.length ≤ 65532 := by rw [← ha, List.length_append] at hb; omega
    have hel := encAll_len ds[i].f4 g1 g2
    refine Tot.step (f := fun k => (delta_Write.f k ((rd_T48 ds (i : Int)).f4)).bind fun bt170 => (if bt170.2 = 0 then ((bytesO ((rd_T48 ds (i : Int)).f5)).bind fun t174 => ((slices_Concat_byte_byte.f k (([acc, (([((rd_T48 ds (i : Int)).f0) % 256, ((rd_T48 ds (i : Int)).f1) % 256, ((rd_T48 ds (i : Int)).f2) % 256, ((rd_T48 ds (i : Int)).f3) % 256, ((((rd_T48 ds (i : Int)).f5).size : Int)) % 256] : List Int)), t174, bt170.1] : List (List Int)))).bind fun t180 => (pack_Write.l0 k t180 ds (ds.length : Int) ((i + 1 : Nat) : Int)))) else (some (([] : List Int), bt170.2)))) ?_ (fun k => by
      rw [pack_Write.l0, if_pos (by omega), if_pos (by omega), if_pos (by omega), nx1 (n := ds.length) (by omega) (by omega)])
    rw [rd48_at hlt]
    obtain ⟨K, hK⟩ := write_enc lim hlim ds[i].f4 g1 g2
    refine Tot.bind (P := fun r => r = (encAll ds[i].f4, 0)) ⟨_, rfl, K, hK⟩ (fun r hr => ?_)
    subst hr
    refine Tot.ite (fun _ => ?_) (fun c => absurd rfl c)
    refine Tot.bind (P := fun t => t = bytesOf ds[i].f5) (Tot.same (f := fun _ => some (bytesOf ds[i].f5)) (Tot.pure (P := fun t => t = bytesOf ds[i].f5) rfl) (fun _ => by unfold bytesO; rw [if_pos (by omega)])) (fun t ht => ?_)
    subst ht
    refine Tot.bind (cat_tot _ (by simp) (by simp only [sumL, List.length_cons, List.length_nil, bytesOf_length]; omega)) (fun c hc => write_loop lim hlim ds hn hG body hb s hs d (i + 1) c (by omega) ?_)
    rw [hc, ← ha]
    simp [encD]
theorem write_tot (lim : Nat) (hlim : lim = 140737488355328) (ds : List S48) (hn : ds.length ≤ 500) (hG : ∀ x ∈ ds, GD x) (hA : ∃ K, ∀ k, K ≤ k → pack_All.f k ds = some 0) (hb : (bodyOf ds).length ≤ 65532) (s : Int) (hs : ∃ K, ∀ k, K ≤ k → pack_Sum.f k (bodyOf ds) = some s) :
    Tot (fun k => pack_Write.f k ds) (fun r => r = (bodyOf ds ++ fourL s, 0)) := by
  unfold pack_Write.f
  obtain ⟨K, hK⟩ := hA
  refine Tot.bind (P := fun t => t = 0) ⟨0, rfl, K, hK⟩ (fun t ht => Tot.ite (fun _ => ?_) (fun c => absurd ht c))
  have hin : In (ds.length : Int) := ⟨by omega, by omega⟩
  refine Tot.bind (P := fun t => t = [77, 84, 49] ++ enc (ds.length : Int)) ⟨_, rfl, 12, fun k hk => num_enc lim hlim hin k _ hk (by simp; omega)⟩ (fun t ht => ?_)
  exact write_loop lim hlim ds hn hG (bodyOf ds) hb s hs ds.length 0 t (by omega) (by rw [ht, List.drop_zero, List.append_assoc]; rfl)
/-! ### the commands that Draws makes -/
def okT (s : ByteArray) : Bool := (s.toList != ([] : List UInt8)) && (decide (s.size ≤ 5) && (List.range s.size).all fun j => decide (32 ≤ bt s (j : Int)) && decide (bt s (j : Int) ≤ 126))
theorem okT_of {s : ByteArray} (h : okT s = true) : (s.toList == ([] : List UInt8)) = false ∧ s.size ≤ 5 ∧ ∀ j : Nat, j < s.size → 32 ≤ bt s (j : Int) ∧ bt s (j : Int) ≤ 126 := by
  unfold okT at h
  simp only [Bool.and_eq_true, decide_eq_true_eq, List.all_eq_true, List.mem_range] at h
  exact ⟨by simpa using h.1, h.2.1, fun j hj => h.2.2 j hj⟩
theorem txt_ok {V : Int} (h : 0 ≤ V ∧ V < 5) : okT (txt V) = true := by
  have hV : V = 0 ∨ V = 1 ∨ V = 2 ∨ V = 3 ∨ V = 4 := by omega
  rcases hV with rfl | rfl | rfl | rfl | rfl
  · show okT ⟨#[65, 108, 100, 101, 114]⟩ = true; unfold okT; rw [toList_data]; decide +kernel
  · show okT ⟨#[66, 105, 114, 99, 104]⟩ = true; unfold okT; rw [toList_data]; decide +kernel
  · show okT ⟨#[67, 111, 118, 101]⟩ = true; unfold okT; rw [toList_data]; decide +kernel
  · show okT ⟨#[109, 109]⟩ = true; unfold okT; rw [toList_data]; decide +kernel
  · show okT ⟨#[105]⟩ = true; unfold okT; rw [toList_data]; decide +kernel
theorem pts_ok : ∀ (m : Nat) (l : List Int) (acc : List S44), (∀ p ∈ acc, VP p) → (ptsOf m l acc).1.length = acc.length + m ∧ ∀ p ∈ (ptsOf m l acc).1, VP p
  | 0, l, acc, h => ⟨rfl, h⟩
  | m + 1, l, acc, h => by
    have b1 := nextv_in l 300 (by omega)
    have b2 := nextv_in l.tail 300 (by omega)
    obtain ⟨e1, e2⟩ := pts_ok m l.tail.tail (acc ++ [⟨nextv l 300 - 20, nextv l.tail 300 - 20⟩]) (fun p hp => by
      rcases List.mem_append.1 hp with hp | hp
      · exact h p hp
      · rw [List.mem_singleton.1 hp]; unfold VP; simp only; omega)
    exact ⟨by rw [ptsOf, e1, List.length_append, List.length_singleton]; omega, e2⟩
theorem draw_ok (l : List Int) : VD (drawOf l) ∧ GD (drawOf l) ∧ (encD (drawOf l)).length ≤ 130 := by
  have b0 := nextv_in l 4 (by omega)
  have b1 := nextv_in l.tail 9 (by omega)
  have b2 := nextv_in l.tail.tail 256 (by omega)
  have b3 := nextv_in l.tail.tail.tail 5 (by omega)
  have b4 := nextv_in l.tail.tail.tail.tail 3 (by omega)
  have b5 := nextv_in l.tail.tail.tail.tail.tail 3 (by omega)
  have hK : kindv l = 1 ∨ kindv l = 2 ∨ kindv l = 3 ∨ kindv l = 4 := by unfold kindv; omega
  obtain ⟨p1, p2⟩ := pts_ok (cntv l).toNat l.tail.tail.tail.tail.tail.tail [] (fun p hp => by cases hp)
  rw [List.length_nil, Nat.zero_add] at p1
  have p1 : (ptv l).1.length = (cntv l).toNat := p1
  have p2 : ∀ p ∈ (ptv l).1, VP p := p2
  have hc : (kindv l = 1 → cntv l = 1) ∧ (kindv l = 2 → 2 ≤ cntv l ∧ cntv l ≤ 4) ∧ (kindv l = 3 → 3 ≤ cntv l ∧ cntv l ≤ 5) ∧ (kindv l = 4 → cntv l = 1) := by
    unfold cntv
    refine ⟨fun h => by rw [h]; rfl, fun h => ?_, fun h => ?_, fun h => by rw [h]; rfl⟩
    · rw [h]; show 2 ≤ 2 + nextv _ 3 ∧ 2 + nextv _ 3 ≤ 4; omega
    · rw [h]; show 3 ≤ 3 + nextv _ 3 ∧ 3 + nextv _ 3 ≤ 5; omega
  have hct : 1 ≤ (cntv l).toNat ∧ (cntv l).toNat ≤ 5 := by
    rcases hK with h | h | h | h
    · have := hc.1 h; omega
    · have := hc.2.1 h; omega
    · have := hc.2.2.1 h; omega
    · have := hc.2.2.2 h; omega
  obtain ⟨tx, htx⟩ : ∃ t, t = (if kindv l = 4 then txt (nextv (ptv l).2 5) else (⟨#[]⟩ : ByteArray)) := ⟨_, rfl⟩
  have ht : VText (kindv l) tx ∧ tx.size ≤ 5 := by
    rw [htx]
    by_cases c : kindv l = 4
    · obtain ⟨t1, t2, t3⟩ := okT_of (txt_ok (nextv_in (ptv l).2 5 (by omega)))
      rw [if_pos c]
      exact ⟨⟨by rw [t1, c]; rfl, by omega, t3⟩, t2⟩
    · rw [if_neg c]
      refine ⟨⟨?_, by decide, fun j hj => absurd hj (Nat.not_lt_zero _)⟩, by decide⟩
      rw [toList_data, show ((⟨#[]⟩ : ByteArray).data.toList == ([] : List UInt8)) = true from rfl, show (kindv l == 4) = false from by simpa using c]; rfl
  have hpt : VPart (kindv l) (ptv l).1 := by
    refine ⟨by omega, fun h1 h2 => ?_, fun h1 h2 => ?_, fun h1 => ⟨fun h2 => ?_, fun h2 => ?_⟩, by omega, p2⟩
    · have := hc.2.1 h2; omega
    · have := hc.2.2.1 h2; omega
    · have := hc.1 h2; omega
    · have := hc.2.2.2 h2; omega
  have htot : tot [(ptv l).1] ≤ 5 := by show (ptv l).1.length + 0 ≤ 5; omega
  have e : drawOf l = ⟨kindv l, nextv l.tail 9, nextv l.tail.tail 256, nextv l.tail.tail.tail 5, [(ptv l).1], tx⟩ := by rw [htx]; rfl
  rw [e]
  refine ⟨⟨by show 1 ≤ kindv l ∧ kindv l ≤ 4; omega, by show 0 ≤ nextv l.tail 9 ∧ nextv l.tail 9 ≤ 100; omega, by show 0 ≤ nextv l.tail.tail 256 ∧ nextv l.tail.tail 256 ≤ 255; omega, by show 0 ≤ nextv l.tail.tail.tail 5 ∧ nextv l.tail.tail.tail 5 ≤ 64; omega, ht.1, ⟨by simp, by simp, fun _ => rfl⟩, fun p hp => ?_⟩, ⟨by simp, by show tot [(ptv l).1] ≤ 20000; omega, by show tx.size < 256; omega⟩, ?_⟩
  · rw [List.mem_singleton.1 hp]; exact hpt
  · have h1 := enc_len (n := (([(ptv l).1] : List (List S44)).length : Int)) ⟨by simp, by simp⟩
    have h2 := encL_len [(ptv l).1] 0 0 (by omega)
    have h3 : ([(ptv l).1] : List (List S44)).length = 1 := rfl
    rw [h3] at h2
    have h6 : (encAll [(ptv l).1]).length ≤ 120 := by unfold encAll; rw [List.length_append]; omega
    unfold encD
    simp only [List.length_cons, List.length_append, bytesOf_length]
    have := ht.2
    omega
theorem draws_ok : ∀ (m : Nat) (l : List Int) (acc : List S48), (∀ d ∈ acc, VD d ∧ GD d ∧ (encD d).length ≤ 130) → (drawsOf m l acc).length = acc.length + m ∧ ∀ d ∈ drawsOf m l acc, VD d ∧ GD d ∧ (encD d).length ≤ 130
  | 0, l, acc, h => ⟨rfl, h⟩
  | m + 1, l, acc, h => by
    obtain ⟨e1, e2⟩ := draws_ok m (restOf l) (acc ++ [drawOf l]) (fun d hd => by
      rcases List.mem_append.1 hd with hd | hd
      · exact h d hd
      · rw [List.mem_singleton.1 hd]; exact draw_ok l)
    exact ⟨by rw [drawsOf, e1, List.length_append, List.length_singleton]; omega, e2⟩
theorem encDs_len : ∀ (ds : List S48), (∀ d ∈ ds, (encD d).length ≤ 130) → (encDs ds).length ≤ 130 * ds.length
  | [], _ => Nat.zero_le _
  | d :: r, h => by
    have h1 := h d (by simp)
    have h2 := encDs_len r (fun x hx => h x (by simp [hx]))
    rw [encDs, List.length_append, List.length_cons]; omega
/-- The commands out of a list of numbers. -/
def drawsL (l : List Int) : List S48 := drawsOf (nextv l 6).toNat l.tail []
theorem drawsL_eq (l : List Int) : terrkeep5_Draws.f l = some (drawsL l) := rfl
theorem drawsL_ok (l : List Int) : (drawsL l).length ≤ 5 ∧ ∀ d ∈ drawsL l, VD d ∧ GD d ∧ (encD d).length ≤ 130 := by
  have b := nextv_in l 6 (by omega)
  obtain ⟨e1, e2⟩ := draws_ok (nextv l 6).toNat l.tail [] (fun d hd => by cases hd)
  exact ⟨by unfold drawsL; rw [e1, List.length_nil]; omega, e2⟩
theorem enc_pos (n : Int) : 1 ≤ (enc n).length := by
  unfold enc
  by_cases c : (zig n).toNat ≤ 127
  · rw [dg_lo c]; simp
  · rw [dg_hi (by omega), List.length_cons]; omega
/-- Draws' commands are written. -/
theorem draws_write (lim : Nat) (hlim : lim = 140737488355328) (l : List Int) : ∃ s, Tot (fun k => pack_Write.f k (drawsL l)) (fun r => r = (bodyOf (drawsL l) ++ fourL s, 0)) ∧ 4 ≤ (bodyOf (drawsL l)).length ∧ (bodyOf (drawsL l)).length ≤ 800 ∧ ∃ K, ∀ k, K ≤ k → pack_Sum.f k (bodyOf (drawsL l)) = some s := by
  obtain ⟨h1, h2⟩ := drawsL_ok l
  have h3 := encDs_len (drawsL l) (fun d hd => (h2 d hd).2.2)
  have h4 := enc_len (n := ((drawsL l).length : Int)) ⟨by omega, by omega⟩
  have h5 := enc_pos ((drawsL l).length : Int)
  have hb : (bodyOf (drawsL l)).length = 3 + ((enc ((drawsL l).length : Int)).length + (encDs (drawsL l)).length) := by unfold bodyOf; rw [List.length_append, List.length_append]; rfl
  obtain ⟨s, _, Ks⟩ := sum_tot (bodyOf (drawsL l)) (by omega)
  obtain ⟨t, ht, Ka⟩ := all_tot (drawsL l)
  have ht0 := ht.2 (by omega) (fun d hd => (h2 d hd).1)
  subst ht0
  exact ⟨s, write_tot lim hlim (drawsL l) (by omega) (fun d hd => (h2 d hd).2.1) Ka (by omega) s Ks, by omega, by omega, Ks⟩
end Go.Proofs.Ytjgoehhhjffpmaa.U
