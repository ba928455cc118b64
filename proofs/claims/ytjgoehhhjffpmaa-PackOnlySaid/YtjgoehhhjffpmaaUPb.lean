/- Plain facts on packs: what is read is what is written. Conditions: stated at each. -/
import Derived.Test.YtjgoehhhjffpmaaUPa
import Derived.Test.YtjgoehhhjffpmaaQf25
import Derived.Test.YtjgoehhhjffpmaaQf35
namespace Go.Proofs.Ytjgoehhhjffpmaa.U
open Go Go.RowKit Go.Proofs.Ytjgoehhhjffpmaa.Q Go.Proofs.YtjgoehhhjffpmaaW.PrintWords Go.Proofs.YtjgoehhhjffpmaaW.PrintLast Go.Proofs.YtjgoehhhjffpmaaW.PrintMore
set_option linter.unusedSimpArgs false
set_option linter.unusedVariables false
/-! ### sums, equal rows, rows together -/
theorem sum_loop (b : List Int) (hb : b.length ≤ 900000) : ∀ (d i : Nat) (x y : Int), i + d = b.length → Tot (fun k => pack_Sum.l0 k x y b (b.length : Int) (i : Int)) (fun _ => True)
  | 0, i, x, y, hi => Tot.step (f := fun _ => some (Go.bits .or .u32 ((y * 65536) % 4294967296) x)) (Tot.pure trivial) (fun k => by rw [pack_Sum.l0, if_neg (by omega)])
  | d + 1, i, x, y, hi => Tot.step (sum_loop b hb d (i + 1) _ _ (by omega)) (fun k => by rw [pack_Sum.l0, if_pos (by omega), if_pos (by omega), if_pos (by omega), nx1 (n := b.length) (by omega) (by omega)])
theorem sum_tot (b : List Int) (hb : b.length ≤ 900000) : Tot (fun k => pack_Sum.f k b) (fun _ => True) := sum_loop b hb b.length 0 1 0 (by omega)
theorem eqb_loop (u v : List Int) (hl : u.length = v.length) (hb : u.length ≤ 900000) : ∀ (d i : Nat), i + d = u.length → (∀ j, j < i → rd u (j : Int) = rd v (j : Int)) → Tot (fun k => slices_Equal_byte_byte.l0 k u v (u.length : Int) (i : Int)) (fun t => t = true → u = v)
  | 0, i, hi, hp => Tot.step (f := fun _ => some true) (Tot.pure fun _ => by
      refine List.ext_getElem hl fun j h1 h2 => ?_
      have := hp j (by omega)
      rw [rd_at h1, rd_at h2] at this; exact this) (fun k => by rw [slices_Equal_byte_byte.l0, if_neg (by omega)])
  | d + 1, i, hi, hp => by
    refine Tot.step (f := fun k => if (rd u (i : Int)) = (rd v (i : Int)) then (slices_Equal_byte_byte.l0 k u v (u.length : Int) ((i + 1 : Nat) : Int)) else (some false)) (Tot.ite (fun c => eqb_loop u v hl hb d (i + 1) (by omega) (fun j hj => ?_)) (fun _ => Tot.pure fun h => by cases h)) (fun k => by rw [slices_Equal_byte_byte.l0, if_pos (by omega), if_pos (by omega), if_pos (by omega), if_pos (by omega), nx1 (n := u.length) (by omega) (by omega)])
    by_cases e : j = i
    · subst e; exact c
    · exact hp j (by omega)
theorem eqb_tot (u v : List Int) (hb : u.length ≤ 900000) : Tot (fun k => slices_Equal_byte_byte.f k u v) (fun t => t = true → u = v) := by
  unfold slices_Equal_byte_byte.f
  exact Tot.ite (fun c => eqb_loop u v (by omega) hb u.length 0 (by omega) (fun j hj => by omega)) (fun _ => Tot.pure fun h => by cases h)
theorem eqb_same (u : List Int) (hb : u.length ≤ 900000) : Tot (fun k => slices_Equal_byte_byte.f k u u) (fun t => t = true) :=
  ⟨true, rfl, u.length + 1, fun k hk => eq_self u (by omega) k (by omega)⟩
theorem rdL1_at {l : List (List Int)} {j : Nat} (h : j < l.length) : rd_L1 l (j : Int) = l[j] := by
  unfold rd_L1; simp [List.getD, h]
def sumL : List (List Int) → Nat
  | [] => 0
  | a :: r => a.length + sumL r
theorem cat_l1 (lim : Nat) (hlim : lim = 140737488355328) (L : List (List Int)) (hL : L.length ≤ 1000) : ∀ (d i : Nat) (acc : List Int), i + d = L.length → acc.length + sumL (L.drop i) < lim → Tot (fun k => slices_Concat_byte_byte.l1 k acc L (L.length : Int) (i : Int)) (fun r => r = acc ++ (L.drop i).flatten)
  | 0, i, acc, hi, hs => Tot.step (f := fun _ => some acc) (Tot.pure (by rw [List.drop_of_length_le (by omega)]; simp)) (fun k => by rw [slices_Concat_byte_byte.l1, if_neg (by omega)])
  | d + 1, i, acc, hi, hs => by
    have hlt : i < L.length := by omega
    have e : L.drop i = L[i] :: L.drop (i + 1) := (List.getElem_cons_drop (h := hlt)).symm
    rw [e, sumL] at hs
    refine Tot.step ((cat_l1 lim hlim L hL d (i + 1) (acc ++ L[i]) (by omega) (by rw [List.length_append]; omega)).mono fun r h => ?_) (fun k => by
      rw [slices_Concat_byte_byte.l1, if_pos (by omega), if_pos (by omega), if_pos (by omega), rdL1_at hlt, if_pos (by rw [← hlim]; omega), nx1 (n := L.length) (by omega) (by omega)])
    rw [h, e, List.flatten_cons, List.append_assoc]
theorem cat_l0 (lim : Nat) (hlim : lim = 140737488355328) (L : List (List Int)) (hL : L.length ≤ 1000) (hs : sumL L < lim) : ∀ (d i s : Nat), i + d = L.length → s + sumL (L.drop i) = sumL L → Tot (fun k => slices_Concat_byte_byte.l0 k L (s : Int) L (L.length : Int) (i : Int)) (fun r => r = L.flatten)
  | 0, i, s, hi, he => by
    refine Tot.step ((cat_l1 lim hlim L hL L.length 0 [] (by omega) (by simpa using hs)).mono fun r h => by simpa using h) (fun k => by rw [slices_Concat_byte_byte.l0, if_neg (by omega), if_pos (by rw [List.drop_of_length_le (by omega), sumL] at he; omega)]; rfl)
  | d + 1, i, s, hi, he => by
    have hlt : i < L.length := by omega
    have e : L.drop i = L[i] :: L.drop (i + 1) := (List.getElem_cons_drop (h := hlt)).symm
    rw [e, sumL] at he
    have w : wrap64 ((s : Int) + (L[i].length : Int)) = ((s + L[i].length : Nat) : Int) := by rw [wrap_id (by omega) (by omega)]; omega
    exact Tot.step (cat_l0 lim hlim L hL hs d (i + 1) (s + L[i].length) (by omega) (by omega)) (fun k => by
      rw [slices_Concat_byte_byte.l0, if_pos (by omega), if_pos (by omega), if_pos (by omega), rdL1_at hlt, w, if_neg (by omega), nx1 (n := L.length) (by omega) (by omega)])
theorem cat_tot (L : List (List Int)) (hL : L.length ≤ 1000) (hs : sumL L ≤ 9000000) : Tot (fun k => slices_Concat_byte_byte.f k L) (fun r => r = L.flatten) :=
  cat_l0 140737488355328 rfl L hL (by omega) L.length 0 0 (by omega) (by simp)
/-! ### a command in bytes -/
def encD (d : S48) : List Int := d.f0 % 256 :: d.f1 % 256 :: d.f2 % 256 :: d.f3 % 256 :: (d.f5.size : Int) % 256 :: (bytesOf d.f5 ++ encAll d.f4)
def encDs : List S48 → List Int
  | [] => []
  | d :: r => encD d ++ encDs r
def GD (d : S48) : Prop := d.f4.length ≤ 1000 ∧ tot d.f4 ≤ 20000 ∧ d.f5.size < 256
def bodyOf (ds : List S48) : List Int := [77, 84, 49] ++ (enc (ds.length : Int) ++ encDs ds)
theorem bytes_str (xs : List Int) (h : Bytes xs) : bytesOf (strOfNums xs) = xs := by
  unfold bytesOf
  rw [strOfNums_data, List.map_map]
  refine (List.map_congr_left fun x hx => ?_).trans (List.map_id xs)
  have := h x hx
  show ((UInt8.ofNat x.toNat).toNat : Int) = x
  rw [UInt8.toNat_ofNat']
  omega
theorem bytes_sub {xs ys : List Int} (h : Bytes ys) (hs : ∀ x, x ∈ xs → x ∈ ys) : Bytes xs := fun x hx => h x (hs x hx)
theorem byte_wrap {x : Int} (h : 0 ≤ x ∧ x ≤ 255) : wrap64 x = x := wrap_id (by omega) (by omega)
theorem five_wrap (n : Nat) (h : 0 ≤ (n : Int) ∧ (n : Int) ≤ 255) : wrap64 (5 + (n : Int)) = ((5 + n : Nat) : Int) := by rw [wrap_id (by omega) (by omega)]; omega
theorem one_tot (lim : Nat) (hlim : lim = 140737488355328) (b : List Int) (hb : Bytes b) (hl : b.length ≤ 65536) : Tot (fun k => pack_one.f k b) (fun r => r.2.2.2.2.2.2.2 = 0 →
    b = encD ⟨r.1, r.2.1, r.2.2.1, r.2.2.2.1, r.2.2.2.2.1, r.2.2.2.2.2.1⟩ ++ r.2.2.2.2.2.2.1 ∧ GD ⟨r.1, r.2.1, r.2.2.1, r.2.2.2.1, r.2.2.2.2.1, r.2.2.2.2.2.1⟩ ∧ Bytes r.2.2.2.2.2.2.1 ∧ r.2.2.2.2.2.2.1.length ≤ b.length) := by
  unfold pack_one.f
  refine Tot.ite (fun c => Tot.pure fun h => by cases h) (fun c5 => ?_)
  match b, hb, hl, c5 with
  | b0 :: b1 :: b2 :: b3 :: b4 :: t, hb, hl, c5 =>
    have h0 := hb b0 (by simp)
    have h1 := hb b1 (by simp)
    have h2 := hb b2 (by simp)
    have h3 := hb b3 (by simp)
    have h4 := hb b4 (by simp)
    have hlen : (b0 :: b1 :: b2 :: b3 :: b4 :: t).length = t.length + 5 := rfl
    have r0 : wrap64 (rd (b0 :: b1 :: b2 :: b3 :: b4 :: t) 0) = b0 := byte_wrap h0
    have r1 : wrap64 (rd (b0 :: b1 :: b2 :: b3 :: b4 :: t) 1) = b1 := byte_wrap h1
    have r2 : wrap64 (rd (b0 :: b1 :: b2 :: b3 :: b4 :: t) 2) = b2 := byte_wrap h2
    have r3 : wrap64 (rd (b0 :: b1 :: b2 :: b3 :: b4 :: t) 3) = b3 := byte_wrap h3
    have r4 : wrap64 (rd (b0 :: b1 :: b2 :: b3 :: b4 :: t) 4) = b4 := byte_wrap h4
    obtain ⟨n, rfl⟩ : ∃ n : Nat, b4 = (n : Int) := ⟨b4.toNat, (Int.toNat_of_nonneg h4.1).symm⟩
    have r5 : wrap64 (5 + (n : Int)) = ((5 + n : Nat) : Int) := five_wrap n h4
    rw [hlen] at hl
    clear c5
    have d1 : (b0 :: b1 :: b2 :: b3 :: (n : Int) :: t).drop (5 + n) = t.drop n := by rw [Nat.add_comm]; rfl
    have d2 : ((b0 :: b1 :: b2 :: b3 :: (n : Int) :: t).take (5 + n)).drop 5 = t.take n := by rw [Nat.add_comm]; rfl
    rw [r0, r1, r2, r3, r4, r5, Int.toNat_natCast, d1, d2, hlen]
    clear r0 r1 r2 r3 r4 r5 d1 d2
    refine Tot.ite (fun _ => ?_) (fun c => absurd (by omega) c)
    refine Tot.ite (fun _ => Tot.pure fun h => by cases h) (fun cn => ?_)
    refine Tot.ite (fun _ => ?_) (fun c => absurd (by omega) c)
    refine Tot.ite (fun _ => ?_) (fun c => absurd (by omega) c)
    refine Tot.ite (fun _ => ?_) (fun c => absurd (by omega) c)
    refine Tot.ite (fun _ => ?_) (fun c => absurd (by omega) c)
    refine Tot.ite (fun _ => ?_) (fun c => absurd (by omega) c)
    refine Tot.ite (fun _ => ?_) (fun c => absurd (by omega) c)
    refine Tot.ite (fun _ => ?_) (fun c => absurd (by omega) c)
    have hbt : Bytes t := bytes_sub hb (fun x hx => by simp [hx])
    have hbd : Bytes (t.drop n) := bytes_sub hbt (fun x hx => List.mem_of_mem_drop hx)
    have hbk : Bytes (t.take n) := bytes_sub hbt (fun x hx => List.mem_of_mem_take hx)
    have hR : Tot (fun k => delta_Read.f k (t.drop n)) (fun r => r = R (t.drop n)) := ⟨_, rfl, 40, fun k hk => read_R lim hlim (t.drop n) hbd (by rw [List.length_drop]; omega) k hk⟩
    refine Tot.bind hR (fun r hr => Tot.pure fun he => ?_)
    obtain ⟨ps, rest, e⟩ := r
    simp only at he ⊢
    subst he
    obtain ⟨i1, i2⟩ := R_inv hbd hr.symm
    obtain ⟨q1, q2, q3, q4⟩ := i1 rfl
    have hsz : (strOfNums (t.take n)).size = n := by rw [strOfNums_size, List.length_take]; omega
    have hrl := congrArg List.length q1
    rw [List.length_append, List.length_drop] at hrl
    refine ⟨?_, ⟨q2, q3, by show (strOfNums (t.take n)).size < 256; omega⟩, bytes_sub hbd (fun x hx => by rw [q1]; exact List.mem_append_right _ hx), by omega⟩
    unfold encD
    simp only
    rw [hsz, bytes_str _ hbk, show b0 % 256 = b0 by omega, show b1 % 256 = b1 by omega, show b2 % 256 = b2 by omega, show b3 % 256 = b3 by omega, show (n : Int) % 256 = n by omega]
    simp only [List.cons_append, List.append_assoc]
    rw [← q1, List.take_append_drop]
  | [], _, _, c5 => exact absurd (by simp) c5
  | [_], _, _, c5 => exact absurd (by simp) c5
  | [_, _], _, _, c5 => exact absurd (by simp) c5
  | [_, _, _], _, _, c5 => exact absurd (by simp) c5
  | [_, _, _, _], _, _, c5 => exact absurd (by simp) c5
theorem read_loop (lim : Nat) (hlim : lim = 140737488355328) (many : Nat) (hm : many ≤ 500) : ∀ (d i : Nat) (b : List Int) (acc : List S48), i + d = many → Bytes b → b.length ≤ 65536 → acc.length ≤ i → Tot (fun k => pack_Read.l0 k b acc (many : Int) (i : Int)) (fun r => r.2 = 0 → ∃ ds, r.1 = acc ++ ds ∧ b = encDs ds ∧ ds.length = d ∧ (∀ x ∈ ds, GD x) ∧ ∃ K, ∀ k, K ≤ k → pack_All.f k r.1 = some 0)
  | 0, i, b, acc, hi, hb, hl, ha => by
    refine Tot.step (f := fun k => if (b.length : Int) > 0 then (some (([] : List (S48)), 3)) else ((pack_All.f k acc).bind fun t255 => (if t255 = 0 then (some (acc, 0)) else (some (([] : List (S48)), t255))))) ?_ (fun k => by rw [pack_Read.l0, if_neg (by omega)])
    refine Tot.ite (fun _ => Tot.pure fun h => by cases h) (fun c => ?_)
    obtain ⟨t, _, K, hK⟩ := all_tot acc
    refine Tot.bind (P := fun t' => t' = t) ⟨t, rfl, K, hK⟩ (fun t' ht => Tot.ite (fun c0 => Tot.pure fun _ => ⟨[], (List.append_nil _).symm, List.eq_nil_of_length_eq_zero (by omega), rfl, fun x hx => (by cases hx), K, fun k hk => ?_⟩) (fun c0 => Tot.pure fun h => absurd h c0))
    show pack_All.f k acc = some 0
    rw [← c0, ht]; exact hK k hk
  | d + 1, i, b, acc, hi, hb, hl, ha => by
    refine Tot.step (f := fun k => (pack_one.f k b).bind fun bt239 => (if bt239.2.2.2.2.2.2.2 = 0 then (if acc.length < 1954687338268 then (pack_Read.l0 k bt239.2.2.2.2.2.2.1 (acc ++ [(⟨bt239.1, bt239.2.1, bt239.2.2.1, bt239.2.2.2.1, bt239.2.2.2.2.1, bt239.2.2.2.2.2.1⟩ : S48)]) (many : Int) ((i + 1 : Nat) : Int)) else (none)) else (some (([] : List (S48)), bt239.2.2.2.2.2.2.2)))) ?_ (fun k => by rw [pack_Read.l0, if_pos (by omega), nx1 (n := many) (by omega) (by omega)])
    refine Tot.bind (one_tot lim hlim b hb hl) (fun r hr => Tot.ite (fun c => Tot.ite (fun _ => ?_) (fun c2 => absurd (by omega) c2)) (fun c => Tot.pure fun h => absurd h c))
    obtain ⟨h1, h2, h3, h4⟩ := hr c
    refine (read_loop lim hlim many hm d (i + 1) _ _ (by omega) h3 (by omega) (by rw [List.length_append, List.length_singleton]; omega)).mono fun r' h' e' => ?_
    obtain ⟨ds, e1, e2, e3, e4, e5⟩ := h' e'
    refine ⟨_ :: ds, by rw [e1, List.append_assoc]; rfl, ?_, by rw [List.length_cons, e3], fun x hx => ?_, e5⟩
    · rw [encDs, ← e2]; exact h1
    · rcases List.mem_cons.1 hx with rfl | hx
      · exact h2
      · exact e4 x hx
def fourL (s : Int) : List Int := [(s / 16777216) % 256, (s / 65536) % 256, (s / 256) % 256, s % 256]
theorem loop_data (s : ByteArray) : ∀ (d i : Nat) (acc : List UInt8), i + d = s.size → ByteArray.toList.loop s i acc = acc.reverse ++ s.data.toList.drop i
  | 0, i, acc, hi => by
    rw [ByteArray.toList.loop, if_neg (by omega), List.drop_of_length_le (by rw [data_length]; omega), List.append_nil]
  | d + 1, i, acc, hi => by
    have hlt : i < s.data.toList.length := by rw [data_length]; omega
    rw [ByteArray.toList.loop, if_pos (by omega), loop_data s d (i + 1) _ (by omega), List.reverse_cons, List.append_assoc, ← List.getElem_cons_drop (h := hlt)]
    have e : s.get! i = s.data.toList[i] := by
      have h2 : i < s.data.size := by simpa using hlt
      show s.data[i]! = _
      rw [getElem!_pos s.data i h2]; simp
    rw [e]; rfl
theorem toList_data (s : ByteArray) : s.toList = s.data.toList := by
  unfold ByteArray.toList
  rw [loop_data s s.size 0 [] (by omega)]; rfl
theorem head3 (xs : List Int) (h : Bytes xs) (e : (strOfNums xs).toList = ([77, 84, 49] : List UInt8)) : xs = [77, 84, 49] := by
  have hd : (strOfNums xs).toList = (strOfNums xs).data.toList := toList_data _
  rw [hd] at e
  have h1 := bytes_str xs h
  unfold bytesOf at h1
  rw [e] at h1
  exact h1.symm
theorem read_tot (lim : Nat) (hlim : lim = 140737488355328) (b : List Int) (hb : Bytes b) : Tot (fun k => pack_Read.f k b) (fun r => r.2 = 0 → ∃ s, r.1.length ≤ 500 ∧ (∀ x ∈ r.1, GD x) ∧ (∃ K, ∀ k, K ≤ k → pack_All.f k r.1 = some 0) ∧ (∃ K, ∀ k, K ≤ k → pack_Sum.f k (bodyOf r.1) = some s) ∧ b = bodyOf r.1 ++ fourL s ∧ b.length ≤ 65536) := by
  unfold pack_Read.f
  refine Tot.ite (fun c => Tot.pure fun h => by cases h) (fun cl => Tot.ite (fun c => Tot.pure fun h => by cases h) (fun c8 => ?_))
  have w : wrap64 ((b.length : Int) - 4) = ((b.length - 4 : Nat) : Int) := by rw [wrap_id (by omega) (by omega)]; omega
  rw [w, Int.toNat_natCast]
  have hbt : Bytes (b.take (b.length - 4)) := bytes_sub hb (fun x hx => List.mem_of_mem_take hx)
  have htl : (b.take (b.length - 4)).length = b.length - 4 := by rw [List.length_take]; omega
  refine Tot.ite (fun _ => Tot.ite (fun c3 => Tot.ite (fun _ => Tot.ite (fun _ => ?_) (fun c => absurd (by omega) c)) (fun c => absurd (by omega) c)) (fun _ => Tot.pure fun h => by cases h)) (fun c => absurd (by omega) c)
  obtain ⟨s, _, Ks, hs⟩ := sum_tot (b.take (b.length - 4)) (by omega)
  refine Tot.bind (P := fun t => t = s) ⟨s, rfl, Ks, hs⟩ (fun t ht => Tot.bind (P := fun f => f = fourL s) (Tot.pure (by rw [ht]; rfl)) (fun f hf => Tot.bind (eqb_tot (b.drop (b.length - 4)) f (by rw [List.length_drop]; omega)) (fun q hq => Tot.ite (fun cq => ?_) (fun _ => Tot.pure fun h => by cases h))))
  have hd := hq cq
  refine Tot.ite (fun _ => ?_) (fun c => absurd (by omega) c)
  have hb3 : Bytes ((b.take (b.length - 4)).drop 3) := bytes_sub hbt (fun x hx => List.mem_of_mem_drop hx)
  refine Tot.bind (P := fun r => r = rt ((b.take (b.length - 4)).drop 3)) ⟨_, rfl, 40, fun k hk => take_rt lim hlim _ hb3 (by rw [List.length_drop]; omega) k hk⟩ (fun r hr => ?_)
  obtain ⟨m, rest, e⟩ := r
  simp only
  refine Tot.ite (fun ce => ?_) (fun ce => Tot.pure fun h => absurd h ce)
  have hrt : ∃ V, tk 0 ((b.take (b.length - 4)).drop 3) = (V, rest, 0) ∧ m = unzig V := by
    unfold rt at hr
    by_cases c : (tk 0 ((b.take (b.length - 4)).drop 3)).2.2 = 0
    · rw [if_pos c] at hr
      have q1 : m = _ := (Prod.ext_iff.1 hr).1
      have q2 : rest = _ := (Prod.ext_iff.1 (Prod.ext_iff.1 hr).2).1
      refine ⟨(tk 0 ((b.take (b.length - 4)).drop 3)).1, ?_, q1⟩
      refine Prod.ext rfl (Prod.ext ?_ c)
      exact q2.symm
    · rw [if_neg c] at hr
      have := (Prod.ext_iff.1 (Prod.ext_iff.1 hr).2).2
      simp only at this
      exact absurd (this.symm.trans ce) c
  obtain ⟨V, hV, hm⟩ := hrt
  obtain ⟨e1, e2⟩ := tk_enc hb3 hV
  rw [← hm] at e1
  have hrest : Bytes rest := bytes_sub hb3 (fun x hx => by rw [e1]; exact List.mem_append_right _ hx)
  have hrl : rest.length ≤ 65536 := by
    have := congrArg List.length e1
    rw [List.length_append, List.length_drop] at this; omega
  have j0 : ∀ x : Bool, (x = false → 0 ≤ m ∧ m ≤ 500) → Tot (fun k => pack_Read.j0 k m rest x) (fun r => r.2 = 0 → ∃ s, r.1.length ≤ 500 ∧ (∀ x ∈ r.1, GD x) ∧ (∃ K, ∀ k, K ≤ k → pack_All.f k r.1 = some 0) ∧ (∃ K, ∀ k, K ≤ k → pack_Sum.f k (bodyOf r.1) = some s) ∧ b = bodyOf r.1 ++ fourL s ∧ b.length ≤ 65536) := by
    intro x hx
    refine Tot.step (f := fun k => if x = true then (some (([] : List (S48)), 2)) else (pack_Read.l0 k rest ([] : List (S48)) m 0)) (Tot.ite (fun _ => Tot.pure fun h => by cases h) (fun c => ?_)) (fun k => by rw [pack_Read.j0])
    obtain ⟨m0, m1⟩ := hx (by simpa using c)
    obtain ⟨mm, rfl⟩ : ∃ mm : Nat, m = (mm : Int) := ⟨m.toNat, by omega⟩
    refine (read_loop lim hlim mm (by omega) mm 0 rest [] (by omega) hrest hrl (by simp)).mono fun r h e => ?_
    obtain ⟨ds, d1, d2, d3, d4, d5⟩ := h e
    rw [List.nil_append] at d1
    rw [d1] at d5 ⊢
    have hbody : b.take (b.length - 4) = bodyOf ds := by
      have h3 : (b.take (b.length - 4)).take 3 = [77, 84, 49] := by
        rw [List.take_take, show min 3 (b.length - 4) = 3 by omega]
        exact head3 (b.take 3) (bytes_sub hb (fun x hx => List.mem_of_mem_take hx)) c3
      have h6 := (List.take_append_drop 3 (b.take (b.length - 4))).symm
      rw [h3, e1, d2, ← d3] at h6
      exact h6
    refine ⟨s, by omega, d4, d5, ⟨Ks, fun k hk => by rw [← hbody]; exact hs k hk⟩, ?_, by omega⟩
    rw [← hbody, ← hf, ← hd, List.take_append_drop]
  exact Tot.ite (fun c => j0 _ fun e => by cases e) (fun c => j0 _ fun e => by have := of_decide_eq_false e; omega)
end Go.Proofs.Ytjgoehhhjffpmaa.U
