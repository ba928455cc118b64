/- The plain law of PackTells: commands are checked, compared, summed and written as by the second implementation. Condition: the lengths are at most 2000000. -/
import Derived.Test.YtjgoehhhjffpmaaZtUVw
namespace Go.Proofs.Ytjgoehhhjffpmaa.U
open Go.RowKit Go.Proofs.Ytjgoehhhjffpmaa.Q Go.Proofs.YtjgoehhhjffpmaaW.PrintWords Go.Proofs.YtjgoehhhjffpmaaW.PrintLast Go.Proofs.YtjgoehhhjffpmaaW.PrintMore
set_option linter.unusedSimpArgs false
set_option linter.unusedVariables false
/-! ### right commands are short -/
theorem parts_len (kd : Int) : ∀ ps : List (List S44), partsC kd ps = 0 → ∀ p ∈ ps, p.length ≤ 400
  | [], _, p, hp => by cases hp
  | q :: ps, h, p, hp => by
    unfold partsC at h
    by_cases c : partC kd q = 0
    · rw [if_pos c] at h
      rcases List.mem_cons.1 hp with rfl | hp
      · unfold partC at c
        by_cases c4 : 400 < p.length
        · rw [if_pos c4] at c; exact absurd c (by decide)
        · omega
      · exact parts_len kd ps h p hp
    · rw [if_neg c] at h; exact absurd h c
theorem tot_len : ∀ ps : List (List S44), (∀ p ∈ ps, p.length ≤ 400) → tot ps ≤ 400 * ps.length
  | [], _ => Nat.zero_le _
  | p :: ps, h => by
    have h1 := h p List.mem_cons_self
    have h2 := tot_len ps fun q hq => h q (List.mem_cons_of_mem _ hq)
    rw [tot, List.length_cons]
    omega
theorem chk_len {d : S48} (h : chk d = 0) : d.f5.size ≤ 40 ∧ d.f4.length ≤ 20 ∧ tot d.f4 ≤ 8000 := by
  unfold chk at h
  by_cases c1 : BadK d.f0
  · rw [if_pos c1] at h; exact absurd h (by decide)
  rw [if_neg c1] at h
  by_cases c2 : BadV d.f1 d.f2 d.f3
  · rw [if_pos c2] at h; exact absurd h (by decide)
  rw [if_neg c2] at h
  by_cases c3 : textC d.f0 d.f5 = 0
  · rw [if_pos c3] at h
    have hs : d.f5.size ≤ 40 := by
      unfold textC at c3
      split at c3
      · exact absurd c3 (by decide)
      · split at c3
        · exact absurd c3 (by decide)
        · omega
    unfold tailC at h
    by_cases c4 : BadM d.f0 d.f4.length
    · rw [if_pos c4] at h; exact absurd h (by decide)
    · rw [if_neg c4] at h
      have h20 : d.f4.length ≤ 20 := by unfold BadM at c4; omega
      have := tot_len d.f4 (parts_len _ _ h)
      exact ⟨hs, h20, by omega⟩
  · rw [if_neg c3] at h; exact absurd h c3
theorem chkAll_all : ∀ l : List S48, chkAll l = 0 → ∀ d ∈ l, chk d = 0
  | [], _, d, hd => by cases hd
  | e :: l, h, d, hd => by
    unfold chkAll at h
    by_cases c : chk e = 0
    · rw [if_pos c] at h
      rcases List.mem_cons.1 hd with rfl | hd
      · exact c
      · exact chkAll_all l h d hd
    · rw [if_neg c] at h; exact absurd h c
/-! ### the bytes -/
def encD (d : S48) : List Int := [d.f0 % 256, d.f1 % 256, d.f2 % 256, d.f3 % 256, (d.f5.size : Int) % 256] ++ (bytesOf d.f5 ++ encAll d.f4)
def encDs : List S48 → List Int
  | [] => []
  | d :: l => encD d ++ encDs l
theorem encA_len (ps : List (List S44)) (hp : ps.length ≤ 20) (ht : tot ps ≤ 8000) : (encAll ps).length ≤ 160210 := by
  have h1 := enc_len (n := (ps.length : Int)) ⟨by omega, by omega⟩
  have h2 := encL_len ps 0 0 (by omega)
  unfold encAll
  rw [List.length_append]
  omega
theorem encD_len {d : S48} (h : chk d = 0) : (encD d).length ≤ 160255 := by
  obtain ⟨h1, h2, h3⟩ := chk_len h
  have h4 := encA_len d.f4 h2 h3
  unfold encD
  rw [List.length_append, List.length_append, bytesOf_length]
  show 5 + _ ≤ _
  omega
theorem encDs_len : ∀ l : List S48, (∀ d ∈ l, chk d = 0) → (encDs l).length ≤ 160255 * l.length
  | [], _ => Nat.zero_le _
  | d :: l, h => by
    have h1 := encD_len (h d List.mem_cons_self)
    have h2 := encDs_len l fun q hq => h q (List.mem_cons_of_mem _ hq)
    rw [encDs, List.length_append, List.length_cons]
    omega
theorem bytes_app {u v : List Int} (h : Bytes u) (h' : Bytes v) : Bytes (u ++ v) := fun x hx => (List.mem_append.1 hx).elim (h x) (h' x)
theorem len_in {n : Nat} (h : n ≤ 100000) : In (n : Int) := ⟨by omega, by omega⟩
theorem encPb (r : List S44) : ∀ x y, Bytes (encP x y r) := by
  induction r with
  | nil => intro x y b hb; cases hb
  | cons q r ih => intro x y; rw [encP]; exact bytes_app (enc_bytes (in_wrap _)) (bytes_app (enc_bytes (in_wrap _)) (ih _ _))
theorem encLb (r : List (List S44)) : ∀ x y, tot r ≤ 20000 → Bytes (encL x y r) := by
  induction r with
  | nil => intro x y _ b hb; cases hb
  | cons l r ih =>
    intro x y ht
    rw [tot] at ht
    rw [encL]
    exact bytes_app (enc_bytes (len_in (by omega))) (bytes_app (encPb _ _ _) (ih _ _ (by omega)))
theorem strb (s : ByteArray) : Bytes (bytesOf s) := by
  intro x hx
  unfold bytesOf at hx
  obtain ⟨b, _, rfl⟩ := List.mem_map.1 hx
  have := b.toNat_lt
  omega
theorem encDb {d : S48} (h : chk d = 0) : Bytes (encD d) := by
  obtain ⟨h1, h2, h3⟩ := chk_len h
  unfold encD
  refine bytes_app (fun x hx => ?_) (bytes_app (strb _) (bytes_app (enc_bytes (len_in (by omega))) (encLb _ 0 0 (by omega))))
  simp only [List.mem_cons, List.not_mem_nil, or_false] at hx
  rcases hx with rfl | rfl | rfl | rfl | rfl <;> omega
theorem encDsb : ∀ l : List S48, (∀ d ∈ l, chk d = 0) → Bytes (encDs l)
  | [], _ => fun x hx => by cases hx
  | d :: l, h => by
    rw [encDs]
    exact bytes_app (encDb (h d List.mem_cons_self)) (encDsb l fun q hq => h q (List.mem_cons_of_mem _ hq))
def bodyOf (l : List S48) : List Int := [77, 84, 49] ++ enc (l.length : Int) ++ encDs l
theorem body_len {l : List S48} (hn : l.length ≤ 500) (h : ∀ d ∈ l, chk d = 0) : (bodyOf l).length ≤ 90000000 := by
  have h1 := encDs_len l h
  have h2 := enc_len (n := (l.length : Int)) (len_in (by omega))
  unfold bodyOf
  rw [List.length_append, List.length_append]
  show 3 + _ + _ ≤ _
  omega
theorem body_bytes {l : List S48} (hn : l.length ≤ 500) (h : ∀ d ∈ l, chk d = 0) : Bytes (bodyOf l) := by
  refine bytes_app (bytes_app (fun x hx => ?_) (enc_bytes (len_in (by omega)))) (encDsb l h)
  simp at hx
  omega
/-! ### packed, by the second implementation -/
theorem packed_l0 (lim : Nat) (hlim : lim = 140737488355328) (l : List S48) (hn : l.length ≤ 500) (h : ∀ d ∈ l, chk d = 0) (body : List Int) (hb : body.length ≤ 90000000) (hB : Bytes body) : ∀ (d i : Nat) (acc : List Int), i + d = l.length → acc ++ encDs (l.drop i) = body →
    Is (fun k => terrref5_Packed.l0 k acc l (l.length : Int) (i : Int)) (body ++ fourL (adl body 1 0))
  | 0, i, acc, hi, ha => by
    rw [drop_end (by omega), encDs, List.append_nil] at ha
    subst ha
    refine Is.step (f := fun k => (terrref5_Adler.f k acc).bind fun t => ((terrref5_Four.f t).bind fun t' => (if acc.length + t'.length < 140737488355328 then (some (acc ++ t')) else (none)))) ?_ (fun k => by rw [terrref5_Packed.l0, if_neg (by omega)])
    refine Is.bind (sum_both acc (by omega) hB).1 ?_
    simp only [four_is (adl_rng acc 1 0)]
    exact Is.bind (Is.pure _) (Is.pos (by show acc.length + 4 < _; omega) (Is.pure _))
  | d + 1, i, acc, hi, ha => by
    have hlt : i < l.length := by omega
    rw [drop_is hlt, encDs] at ha
    obtain ⟨x, hx⟩ : ∃ x, x = l[i] := ⟨_, rfl⟩
    rw [← hx] at ha
    have hc : chk x = 0 := h x (by rw [hx]; exact List.getElem_mem hlt)
    obtain ⟨h1, h2, h3⟩ := chk_len hc
    have hal : acc.length ≤ 90000000 := by rw [← ha, List.length_append] at hb; omega
    have hel := encA_len x.f4 h2 h3
    have ih := packed_l0 lim hlim l hn h body hb hB d (i + 1) (acc ++ [x.f0 % 256, x.f1 % 256, x.f2 % 256, x.f3 % 256, (x.f5.size : Int) % 256] ++ bytesOf x.f5 ++ encAll x.f4) (by omega) (by rw [← ha]; unfold encD; simp only [List.append_assoc])
    refine Is.step (f := fun k => (some ([x.f0 % 256, x.f1 % 256, x.f2 % 256, x.f3 % 256, (x.f5.size : Int) % 256] : List Int)).bind fun y => (if acc.length + y.length < 140737488355328 then ((some (acc ++ y : List Int)).bind fun y1 => ((bytesT x.f5).bind fun t => (if y1.length + t.length < 140737488355328 then ((some (y1 ++ t : List Int)).bind fun y2 => ((terrref5_Lists.f k x.f4).bind fun t2 => (if y2.length + t2.length < 140737488355328 then (terrref5_Packed.l0 k (y2 ++ t2) l (l.length : Int) ((i + 1 : Nat) : Int)) else (none)))) else (none)))) else (none))) ?_ (fun k => by rw [terrref5_Packed.l0, if_pos (by omega), if_pos (by omega), if_pos (by omega), rd48_is hlt, ← hx, nx (n := l.length) (by omega) (by omega)])
    have hbt : bytesT x.f5 = some (bytesOf x.f5) := by unfold bytesT; rw [if_pos (by omega)]
    simp only [hbt]
    refine Is.bind (Is.pure _) (Is.pos (by show acc.length + 5 < _; omega) (Is.bind (Is.pure _) (Is.bind (Is.pure _) (Is.pos ?_ (Is.bind (Is.pure _) (Is.bind (lists_enc lim hlim x.f4 (by omega) (by omega)) (Is.pos ?_ ih)))))))
    · rw [List.length_append, bytesOf_length]; show acc.length + 5 + _ < _; omega
    · rw [List.length_append, List.length_append, bytesOf_length]; show acc.length + 5 + _ + _ < _; omega
theorem packed_is (lim : Nat) (hlim : lim = 140737488355328) (l : List S48) (hn : l.length ≤ 500) (h : ∀ d ∈ l, chk d = 0) : Is (fun k => terrref5_Packed.f k l) (bodyOf l ++ fourL (adl (bodyOf l) 1 0)) := by
  unfold terrref5_Packed.f
  have hin : In (l.length : Int) := len_in (by omega)
  have le := enc_len hin
  refine Is.bind (Is.pure _) (Is.bind (digits_enc lim hlim hin) (Is.pos (by show 3 + _ < _; omega) ?_))
  exact packed_l0 lim hlim l hn h (bodyOf l) (body_len hn h) (body_bytes hn h) l.length 0 _ (by omega) (by rw [List.drop_zero]; rfl)
/-! ### written -/
theorem rdL1_is {l : List (List Int)} {j : Nat} (h : j < l.length) : rd_L1 l (j : Int) = l[j] := by
  unfold rd_L1; simp [List.getD, h]
def sumL : List (List Int) → Nat
  | [] => 0
  | a :: l => a.length + sumL l
theorem cat_l1 (lim : Nat) (hlim : lim = 140737488355328) (L : List (List Int)) (hL : L.length ≤ 1000) : ∀ (d i : Nat) (acc : List Int), i + d = L.length → acc.length + sumL (L.drop i) < lim → Is (fun k => slices_Concat_byte_byte.l1 k acc L (L.length : Int) (i : Int)) (acc ++ (L.drop i).flatten)
  | 0, i, acc, hi, ha => by
    rw [drop_end (by omega), List.flatten_nil, List.append_nil]
    exact Is.step (Is.pure _) (fun k => by rw [slices_Concat_byte_byte.l1, if_neg (by omega)])
  | d + 1, i, acc, hi, ha => by
    have hlt : i < L.length := by omega
    rw [drop_is hlt] at ha ⊢
    rw [sumL] at ha
    rw [List.flatten_cons, ← List.append_assoc]
    refine Is.step (cat_l1 lim hlim L hL d (i + 1) (acc ++ L[i]) (by omega) (by rw [List.length_append]; omega)) (fun k => by
      rw [slices_Concat_byte_byte.l1, if_pos (by omega), if_pos (by omega), if_pos (by omega), rdL1_is hlt, ← hlim, if_pos (by omega), nx (n := L.length) (by omega) (by omega)])
theorem cat_l0 (lim : Nat) (hlim : lim = 140737488355328) (L : List (List Int)) (hL : L.length ≤ 1000) (hs : sumL L < lim) : ∀ (d i s : Nat), i + d = L.length → s + sumL (L.drop i) = sumL L → Is (fun k => slices_Concat_byte_byte.l0 k L (s : Int) L (L.length : Int) (i : Int)) L.flatten
  | 0, i, s, hi, ha => by
    rw [drop_end (by omega), sumL] at ha
    have h := cat_l1 lim hlim L hL L.length 0 [] (by omega) (by rw [List.drop_zero]; simpa using hs)
    rw [List.drop_zero, List.nil_append] at h
    exact Is.step h (fun k => by rw [slices_Concat_byte_byte.l0, if_neg (by omega), if_pos (by omega)]; rfl)
  | d + 1, i, s, hi, ha => by
    have hlt : i < L.length := by omega
    rw [drop_is hlt, sumL] at ha
    have w : wrap64 ((s : Int) + (L[i].length : Int)) = ((s + L[i].length : Nat) : Int) := by rw [wrap_id (by omega) (by omega)]; omega
    exact Is.step (cat_l0 lim hlim L hL hs d (i + 1) (s + L[i].length) (by omega) (by omega)) (fun k => by
      rw [slices_Concat_byte_byte.l0, if_pos (by omega), if_pos (by omega), if_pos (by omega), rdL1_is hlt, w, if_neg (by omega), nx (n := L.length) (by omega) (by omega)])
theorem cat_is (L : List (List Int)) (hL : L.length ≤ 1000) (hs : sumL L ≤ 200000000) : Is (fun k => slices_Concat_byte_byte.f k L) L.flatten :=
  cat_l0 140737488355328 rfl L hL (by omega) L.length 0 0 (by omega) (by simp)
/-- What pack.Write answers for a body. -/
def outW (body : List Int) : List Int × Int := if 65536 < body.length + 4 then ([], 2) else (body ++ fourL (adl body 1 0), 0)
theorem write_l0 (lim : Nat) (hlim : lim = 140737488355328) (l : List S48) (hn : l.length ≤ 500) (h : ∀ d ∈ l, chk d = 0) (body : List Int) (hb : body.length ≤ 90000000) (hB : Bytes body) : ∀ (d i : Nat) (acc : List Int), i + d = l.length → acc ++ encDs (l.drop i) = body →
    Is (fun k => pack_Write.l0 k acc l (l.length : Int) (i : Int)) (outW body)
  | 0, i, acc, hi, ha => by
    rw [drop_end (by omega), encDs, List.append_nil] at ha
    subst ha
    refine Is.step (f := fun k => (pack_Sum.f k acc).bind fun t183 => ((pack_four.f t183).bind fun t184 => (if acc.length + t184.length < 140737488355328 then ((some (acc ++ t184 : List Int)).bind fun y187 => (if (y187.length : Int) > 65536 then (some (([] : List Int), 2)) else (some (y187, 0)))) else (none)))) ?_ (fun k => by rw [pack_Write.l0, if_neg (by omega)])
    have h4 : (fourL (adl acc 1 0)).length = 4 := rfl
    refine Is.bind (sum_both acc (by omega) hB).2 (Is.bind (r := fourL (adl acc 1 0)) (Is.pure _) (Is.pos (by rw [h4]; omega) (Is.bind (Is.pure _) ?_)))
    unfold outW
    have h5 : (acc ++ fourL (adl acc 1 0)).length = acc.length + 4 := by rw [List.length_append, h4]
    refine Is.ite (fun c => ?_) (fun c => ?_)
    · rw [if_pos (by omega)]; exact Is.pure _
    · rw [if_neg (by omega)]; exact Is.pure _
  | d + 1, i, acc, hi, ha => by
    have hlt : i < l.length := by omega
    rw [drop_is hlt, encDs] at ha
    obtain ⟨x, hx⟩ : ∃ x, x = l[i] := ⟨_, rfl⟩
    rw [← hx] at ha
    have hc : chk x = 0 := h x (by rw [hx]; exact List.getElem_mem hlt)
    obtain ⟨h1, h2, h3⟩ := chk_len hc
    have hal : acc.length ≤ 90000000 := by rw [← ha, List.length_append] at hb; omega
    have hel := encA_len x.f4 h2 h3
    refine Is.step (f := fun k => (delta_Write.f k x.f4).bind fun bt170 => (if bt170.2 = 0 then ((bytesO x.f5).bind fun t174 => ((slices_Concat_byte_byte.f k (([acc, (([x.f0 % 256, x.f1 % 256, x.f2 % 256, x.f3 % 256, ((x.f5.size : Int)) % 256] : List Int)), t174, bt170.1] : List (List Int)))).bind fun t180 => (pack_Write.l0 k t180 l (l.length : Int) ((i + 1 : Nat) : Int)))) else (some (([] : List Int), bt170.2)))) ?_ (fun k => by
      rw [pack_Write.l0, if_pos (by omega), if_pos (by omega), if_pos (by omega), rd48_is hlt, ← hx, nx (n := l.length) (by omega) (by omega)])
    have hbt : bytesO x.f5 = some (bytesOf x.f5) := by unfold bytesO; rw [if_pos (by omega)]
    have hw : Is (fun k => delta_Write.f k x.f4) (encAll x.f4, 0) := write_enc lim hlim x.f4 (by omega) (by omega)
    refine Is.bind hw (Is.pos rfl ?_)
    simp only [hbt]
    refine Is.bind (Is.pure _) (Is.bind (cat_is _ (by simp) ?_) (write_l0 lim hlim l hn h body hb hB d (i + 1) _ (by omega) ?_))
    · simp only [sumL, List.length_cons, List.length_nil, bytesOf_length]; omega
    · rw [← ha]; unfold encD; simp
theorem write_is (lim : Nat) (hlim : lim = 140737488355328) (l : List S48) (hn : l.length ≤ 500) (h : ∀ d ∈ l, chk d = 0) (hA : draws l = 0) : Is (fun k => pack_Write.f k l) (outW (bodyOf l)) := by
  unfold pack_Write.f
  have hin : In (l.length : Int) := len_in (by omega)
  have ha := all_is l
  rw [hA] at ha
  refine Is.bind ha (Is.pos rfl (Is.bind (r := [77, 84, 49] ++ enc (l.length : Int)) ⟨12, fun k hk => num_enc lim hlim hin k _ hk (by rw [hlim]; decide)⟩ ?_))
  exact write_l0 lim hlim l hn h (bodyOf l) (body_len hn h) (body_bytes hn h) l.length 0 _ (by omega) (by rw [List.drop_zero]; rfl)
theorem write_bad (l : List S48) (hA : draws l ≠ 0) : Is (fun k => pack_Write.f k l) ([], draws l) := by
  unfold pack_Write.f
  exact Is.bind (all_is l) (Is.neg hA (Is.pure _))
/-! ### the same commands -/
theorem pts_tot (u v : List S44) (hl : u.length = v.length) (hu : u.length ≤ 900000000) : ∀ (d i : Nat), i + d = u.length → ∃ s, Is (fun k => api_Point_24.l0 k u v (u.length : Int) (i : Int)) s
  | 0, i, hi => ⟨true, Is.step (Is.pure _) (fun k => by rw [api_Point_24.l0, if_neg (by omega)])⟩
  | d + 1, i, hi => by
    obtain ⟨s, hs⟩ := pts_tot u v hl hu d (i + 1) (by omega)
    by_cases c : (!(((rd_T44 u (i : Int)).f0) == ((rd_T44 v (i : Int)).f0)) || (!(((rd_T44 u (i : Int)).f1) == ((rd_T44 v (i : Int)).f1)))) = true
    · exact ⟨false, Is.step (Is.pure _) (fun k => by rw [api_Point_24.l0, if_pos (by omega), if_pos (by omega), if_pos (by omega), if_pos (by omega), if_pos c])⟩
    · exact ⟨s, Is.step hs (fun k => by rw [api_Point_24.l0, if_pos (by omega), if_pos (by omega), if_pos (by omega), if_pos (by omega), if_neg c, nx (n := u.length) (by omega) (by omega)])⟩
theorem point_tot (u v : List S44) (hu : u.length ≤ 900000000) : ∃ s, Is (fun k => api_Point_24.f k u v) s := by
  unfold api_Point_24.f
  by_cases c : (u.length : Int) = (v.length : Int)
  · obtain ⟨s, hs⟩ := pts_tot u v (by omega) hu u.length 0 (by omega)
    exact ⟨s, Is.pos c hs⟩
  · exact ⟨false, Is.neg c (Is.pure _)⟩
theorem parts_same (u v : List (List S44)) (hl : u.length = v.length) (hu : u.length ≤ 900000000) (hp : ∀ p ∈ u, p.length ≤ 900000000) : ∀ (d i : Nat), i + d = u.length → ∃ s, Is (fun k => api_Point_23e.l0 k v u (u.length : Int) (i : Int)) s ∧ Is (fun k => api_Point_23.l0 k v u (u.length : Int) (i : Int)) s
  | 0, i, hi => ⟨true, Is.step (Is.pure _) (fun k => by rw [api_Point_23e.l0, if_neg (by omega)]), Is.step (Is.pure _) (fun k => by rw [api_Point_23.l0, if_neg (by omega)])⟩
  | d + 1, i, hi => by
    have hlt : i < u.length := by omega
    obtain ⟨s, hs, hs'⟩ := parts_same u v hl hu hp d (i + 1) (by omega)
    obtain ⟨t, ht⟩ := point_tot (rd_L4 u (i : Int)) (rd_L4 v (i : Int)) (by rw [rdL4_at hlt]; exact hp _ (List.getElem_mem hlt))
    refine ⟨if t = true then s else false, Is.step (f := fun k => (api_Point_24.f k (rd_L4 u (i : Int)) (rd_L4 v (i : Int))).bind fun t192 => (if t192 = true then (api_Point_23e.l0 k v u (u.length : Int) ((i + 1 : Nat) : Int)) else (some false))) ?_ (fun k => by rw [api_Point_23e.l0, if_pos (by omega), if_pos (by omega), if_pos (by omega), if_pos (by omega), nx (n := u.length) (by omega) (by omega)]),
      Is.step (f := fun k => (terrref5_SameParts_1.f k (rd_L4 u (i : Int)) (rd_L4 v (i : Int))).bind fun t192 => (if t192 = true then (api_Point_23.l0 k v u (u.length : Int) ((i + 1 : Nat) : Int)) else (some false))) ?_ (fun k => by rw [api_Point_23.l0, if_pos (by omega), if_pos (by omega), if_pos (by omega), if_pos (by omega), nx (n := u.length) (by omega) (by omega)])⟩
    · refine Is.bind ht ?_
      by_cases c : t = true
      · rw [if_pos c]; exact Is.pos c hs
      · rw [if_neg c]; exact Is.neg c (Is.pure _)
    · have ht' : Is (fun k => terrref5_SameParts_1.f k (rd_L4 u (i : Int)) (rd_L4 v (i : Int))) t := by
        unfold terrref5_SameParts_1.f
        exact Is.bind ht (Is.pure _)
      refine Is.bind ht' ?_
      by_cases c : t = true
      · rw [if_pos c]; exact Is.pos c hs'
      · rw [if_neg c]; exact Is.neg c (Is.pure _)
theorem part_same (u v : List (List S44)) (hu : u.length ≤ 900000000) (hp : ∀ p ∈ u, p.length ≤ 900000000) : ∃ s, Is (fun k => api_Point_23e.f k u v) s ∧ Is (fun k => api_Point_23.f k u v) s := by
  unfold api_Point_23e.f api_Point_23.f
  by_cases c : (u.length : Int) = (v.length : Int)
  · obtain ⟨s, hs, hs'⟩ := parts_same u v (by omega) hu hp u.length 0 (by omega)
    exact ⟨s, Is.pos c hs, Is.pos c hs'⟩
  · exact ⟨false, Is.neg c (Is.pure _), Is.neg c (Is.pure _)⟩
theorem draw_same (a b : S48) (hu : a.f4.length ≤ 900000000) (hp : ∀ p ∈ a.f4, p.length ≤ 900000000) : ∃ s, Is (fun k => pack_Same.f k a.f0 a.f1 a.f2 a.f3 a.f4 a.f5 b.f0 b.f1 b.f2 b.f3 b.f4 b.f5) s ∧ Is (fun k => terrref5_SameDraws_1.f k a.f0 a.f1 a.f2 a.f3 a.f4 a.f5 b.f0 b.f1 b.f2 b.f3 b.f4 b.f5) s := by
  obtain ⟨s, h1, h2⟩ := part_same a.f4 b.f4 hu hp
  have h3 : Is (fun k => terrref5_SameParts.f k a.f4 b.f4) s := by
    unfold terrref5_SameParts.f
    exact Is.bind h2 (Is.pure _)
  unfold pack_Same.f terrref5_SameDraws_1.f
  by_cases c0 : a.f0 = b.f0
  case neg => exact ⟨false, Is.neg c0 (Is.pure _), Is.neg c0 (Is.pure _)⟩
  by_cases c1 : a.f1 = b.f1
  case neg => exact ⟨false, Is.pos c0 (Is.neg c1 (Is.pure _)), Is.pos c0 (Is.neg c1 (Is.pure _))⟩
  by_cases c2 : a.f2 = b.f2
  case neg => exact ⟨false, Is.pos c0 (Is.pos c1 (Is.neg c2 (Is.pure _))), Is.pos c0 (Is.pos c1 (Is.neg c2 (Is.pure _)))⟩
  by_cases c3 : a.f3 = b.f3
  case neg => exact ⟨false, Is.pos c0 (Is.pos c1 (Is.pos c2 (Is.neg c3 (Is.pure _)))), Is.pos c0 (Is.pos c1 (Is.pos c2 (Is.neg c3 (Is.pure _))))⟩
  by_cases c5 : a.f5.toList = b.f5.toList
  case neg => exact ⟨false, Is.pos c0 (Is.pos c1 (Is.pos c2 (Is.pos c3 (Is.neg c5 (Is.pure _))))), Is.pos c0 (Is.pos c1 (Is.pos c2 (Is.pos c3 (Is.neg c5 (Is.pure _)))))⟩
  exact ⟨s, Is.pos c0 (Is.pos c1 (Is.pos c2 (Is.pos c3 (Is.pos c5 (Is.bind h1 (Is.pure _)))))), Is.pos c0 (Is.pos c1 (Is.pos c2 (Is.pos c3 (Is.pos c5 (Is.bind h3 (Is.pure _))))))⟩
theorem rows_same (a b : S48) (s : Bool) (h : Is (fun k => terrref5_SameDraws_1.f k a.f0 a.f1 a.f2 a.f3 a.f4 a.f5 b.f0 b.f1 b.f2 b.f3 b.f4 b.f5) s) : Is (fun k => terrref5_SameDraws.f k [a] [b]) s := by
  have e : Is (fun k => api_Draw.l0 k [b] [a] 1 1) true := Is.step (Is.pure _) (fun k => by rw [api_Draw.l0, if_neg (by decide)])
  have h0 : Is (fun k => api_Draw.l0 k [b] [a] 1 0) s := by
    refine Is.step (f := fun k => (terrref5_SameDraws_1.f k a.f0 a.f1 a.f2 a.f3 a.f4 a.f5 b.f0 b.f1 b.f2 b.f3 b.f4 b.f5).bind fun t115 => (if t115 = true then (api_Draw.l0 k [b] [a] 1 1) else (some false))) ?_ (fun k => by rw [api_Draw.l0, if_pos (by decide), if_pos (by decide), if_pos (by show (0 : Int) < 1; decide), if_pos (by show (0 : Int) < 1; decide), show wrap64 ((0 : Int) + 1) = 1 from wrap_id (by decide) (by decide)]; rfl)
    refine Is.bind h ?_
    cases s
    · exact Is.neg (by decide) (Is.pure _)
    · exact Is.pos rfl e
  have h1 : Is (fun k => api_Draw.f k [a] [b]) s := by
    unfold api_Draw.f
    exact Is.pos rfl h0
  unfold terrref5_SameDraws.f
  exact Is.bind h1 (Is.pure _)
/-! ### all together -/
theorem draws_zero {l : List S48} (h : draws l = 0) : l.length ≤ 500 ∧ ∀ d ∈ l, chk d = 0 := by
  unfold draws at h
  by_cases c : 500 < l.length
  · rw [if_pos c] at h; exact absurd h (by decide)
  · rw [if_neg c] at h; exact ⟨by omega, chkAll_all l h⟩
theorem none_out : outW (bodyOf []) = (bodyOf [] ++ fourL (adl (bodyOf []) 1 0), 0) ∧ (bodyOf [] ++ fourL (adl (bodyOf []) 1 0)).length = 8 := by
  have e : enc (([] : List S48).length : Int) = [0] := dg_lo (u := 0) (by decide)
  have eb : bodyOf [] = [77, 84, 49, 0] := by unfold bodyOf; rw [e]; rfl
  rw [eb]
  exact ⟨rfl, rfl⟩
theorem tells (lim : Nat) (hlim : lim = 140737488355328) (l : List S48) (a b : S48) (c : List Int) (hu : a.f4.length ≤ 900000000) (hp : ∀ p ∈ a.f4, p.length ≤ 900000000) (hc : c.length ≤ 100000000) (hB : Bytes c) :
    ∃ (k : Nat) (x8 : List Int) (t : Int) (s : Bool) (m f : Int) (d : List Int) (e : Int), pack_Write.f k [] = some (x8, 0) ∧ x8.length = 8 ∧ pack_Check.f k a.f0 a.f1 a.f2 a.f3 a.f4 a.f5 = some t ∧ terrref5_DrawFault.f k a.f0 a.f1 a.f2 a.f3 a.f4 a.f5 = some t ∧ pack_Same.f k a.f0 a.f1 a.f2 a.f3 a.f4 a.f5 b.f0 b.f1 b.f2 b.f3 b.f4 b.f5 = some s ∧ terrref5_SameDraws.f k [a] [b] = some s ∧ pack_Sum.f k c = some m ∧ terrref5_Adler.f k c = some m ∧
      terrref5_DrawsFault.f k l = some f ∧ pack_All.f k l = some f ∧ pack_Write.f k l = some (d, e) ∧
      ((f ≠ 0 ∧ e = f ∧ d = []) ∨ (f = 0 ∧ ∃ p, terrref5_Packed.f k l = some p ∧ ((65536 < p.length ∧ e = 2 ∧ d = []) ∨ (p.length ≤ 65536 ∧ e = 0 ∧ d = p ∧ slices_Equal_byte_byte.f k p p = some true)))) := by
  obtain ⟨s, ⟨K1, h1⟩, h2'⟩ := draw_same a b hu hp
  obtain ⟨K2, h2⟩ := rows_same a b s h2'
  obtain ⟨K3, h3⟩ := check_is a
  obtain ⟨K4, h4⟩ := fault_is a
  obtain ⟨⟨K5, h5⟩, ⟨K6, h6⟩⟩ := sum_both c hc hB
  obtain ⟨K7, h7⟩ := draws_is l
  obtain ⟨K8, h8⟩ := all_is l
  have w0 := write_is lim hlim [] (by decide) (fun d hd => by cases hd) rfl
  rw [none_out.1] at w0
  obtain ⟨K9, h9⟩ := w0
  by_cases c0 : draws l = 0
  · obtain ⟨g1, g2⟩ := draws_zero c0
    have w1 := write_is lim hlim l g1 g2 c0
    obtain ⟨Kp, hp'⟩ := packed_is lim hlim l g1 g2
    have hlen : (bodyOf l ++ fourL (adl (bodyOf l) 1 0)).length = (bodyOf l).length + 4 := by rw [List.length_append]; rfl
    have hbl := body_len g1 g2
    unfold outW at w1
    by_cases c6 : 65536 < (bodyOf l).length + 4
    · rw [if_pos c6] at w1
      obtain ⟨K10, h10⟩ := w1
      refine ⟨K1 + K2 + K3 + K4 + K5 + K6 + K7 + K8 + K9 + K10 + Kp, _, _, s, _, _, _, _, h9 _ (by omega), none_out.2, h3 _ (by omega), h4 _ (by omega), h1 _ (by omega), h2 _ (by omega), h6 _ (by omega), h5 _ (by omega), h7 _ (by omega), h8 _ (by omega), h10 _ (by omega), .inr ⟨c0, _, hp' _ (by omega), .inl ⟨by rw [hlen]; exact c6, rfl, rfl⟩⟩⟩
    · rw [if_neg c6] at w1
      obtain ⟨K10, h10⟩ := w1
      refine ⟨K1 + K2 + K3 + K4 + K5 + K6 + K7 + K8 + K9 + K10 + Kp + 65537, _, _, s, _, _, _, _, h9 _ (by omega), none_out.2, h3 _ (by omega), h4 _ (by omega), h1 _ (by omega), h2 _ (by omega), h6 _ (by omega), h5 _ (by omega), h7 _ (by omega), h8 _ (by omega), h10 _ (by omega), .inr ⟨c0, _, hp' _ (by omega), .inr ⟨by rw [hlen]; omega, rfl, rfl, eq_self _ (by omega) _ (by omega)⟩⟩⟩
  · obtain ⟨K10, h10⟩ := write_bad l c0
    refine ⟨K1 + K2 + K3 + K4 + K5 + K6 + K7 + K8 + K9 + K10, _, _, s, _, _, _, _, h9 _ (by omega), none_out.2, h3 _ (by omega), h4 _ (by omega), h1 _ (by omega), h2 _ (by omega), h6 _ (by omega), h5 _ (by omega), h7 _ (by omega), h8 _ (by omega), h10 _ (by omega), .inl ⟨c0, rfl, rfl⟩⟩
end Go.Proofs.Ytjgoehhhjffpmaa.U

