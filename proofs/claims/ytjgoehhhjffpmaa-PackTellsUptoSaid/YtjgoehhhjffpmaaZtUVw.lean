/- Plain facts on packs: what is written, by the one and by the other. Conditions: stated at each. -/
import Derived.Test.YtjgoehhhjffpmaaZtUVc
import Derived.Test.YtjgoehhhjffpmaaZtUW
import Derived.Test.YtjgoehhhjffpmaaZtQf25
import Derived.Test.YtjgoehhhjffpmaaZtQf28
import Derived.Test.YtjgoehhhjffpmaaZtQf29
import Derived.Test.YtjgoehhhjffpmaaZtQf34
namespace Go.Proofs.Ytjgoehhhjffpmaa.U
open Go.RowKit Go.Proofs.Ytjgoehhhjffpmaa.Q Go.Proofs.YtjgoehhhjffpmaaW.PrintWords Go.Proofs.YtjgoehhhjffpmaaW.PrintLast Go.Proofs.YtjgoehhhjffpmaaW.PrintMore
set_option linter.unusedSimpArgs false
set_option linter.unusedVariables false
/-! ### sums -/
theorem or32 (x y : Nat) (hx : x < 4294967296) (hy : y < 4294967296) : Go.bits .or .u32 (x : Int) (y : Int) = ((x ||| y : Nat) : Int) := by
  have e : (BitVec.ofInt IntKind.u32.bits (x : Int) ||| BitVec.ofInt IntKind.u32.bits (y : Int)).toNat = x ||| y := by
    show (BitVec.ofInt 32 (x : Int) ||| BitVec.ofInt 32 (y : Int)).toNat = x ||| y
    rw [BitVec.ofInt_natCast, BitVec.ofInt_natCast, BitVec.toNat_or, BitVec.toNat_ofNat, BitVec.toNat_ofNat, Nat.mod_eq_of_lt hx, Nat.mod_eq_of_lt hy]
  have hlt : x ||| y < 4294967296 := Nat.or_lt_two_pow (n := 32) hx hy
  unfold Go.bits
  dsimp only
  rw [e]
  show ((x ||| y : Nat) : Int) % 4294967296 = _
  omega
theorem sum_or {x y : Int} (hx : 0 ≤ x ∧ x < 65521) (hy : 0 ≤ y ∧ y < 65521) : Go.bits .or .u32 ((y * 65536) % 4294967296) x = y * 65536 + x := by
  obtain ⟨m, rfl⟩ : ∃ m : Nat, x = (m : Int) := ⟨x.toNat, by omega⟩
  obtain ⟨n, rfl⟩ : ∃ n : Nat, y = (n : Int) := ⟨y.toNat, by omega⟩
  have e : ((n : Int) * 65536) % 4294967296 = ((n * 65536 : Nat) : Int) := by omega
  rw [e, or32 (n * 65536) m (by omega) (by omega)]
  have h1 : n * 65536 ||| m = n * 65536 + m := by
    have := Nat.shiftLeft_add_eq_or_of_lt (b := m) (i := 16) (by omega) n
    rw [Nat.shiftLeft_eq] at this
    exact this.symm
  rw [h1]; omega
theorem step_x {x r : Int} (hx : 0 ≤ x) (hr : 0 ≤ r ∧ r ≤ 255) : (((x % 65521) + (r % 4294967296)) % 4294967296) % 65521 = (x + r) % 65521 := by omega
theorem step_y {x y : Int} (hx : 0 ≤ x) (hy : 0 ≤ y) : (((y % 65521) + (x % 65521)) % 4294967296) % 65521 = (y + x) % 65521 := by omega
theorem ad_end {x y : Int} (hx : 0 ≤ x) (hy : 0 ≤ y) : (((((Int.tmod y 65521) % 4294967296) * 65536) % 4294967296) + ((Int.tmod x 65521) % 4294967296)) % 4294967296 = (y % 65521) * 65536 + x % 65521 := by
  rw [Int.tmod_eq_emod_of_nonneg hx, Int.tmod_eq_emod_of_nonneg hy]; omega
theorem next_x {x r : Int} {i : Nat} (hx : x ≤ 1 + 255 * (i : Int)) (hr : r ≤ 255) : x + r ≤ 1 + 255 * ((i + 1 : Nat) : Int) := by omega
theorem next_y {y x r : Int} {i : Nat} (hi : i ≤ 100000000) (hy : y ≤ (i : Int) * 26000000000) (hx : x + r ≤ 1 + 255 * ((i + 1 : Nat) : Int)) : y + (x + r) ≤ ((i + 1 : Nat) : Int) * 26000000000 := by
  have e : ((i + 1 : Nat) : Int) * 26000000000 = (i : Int) * 26000000000 + 26000000000 := by omega
  rw [e]
  generalize (i : Int) * 26000000000 = m at hy ⊢
  omega
theorem fit_y {y : Int} {i : Nat} (hi : i ≤ 100000000) (hy : y ≤ (i : Int) * 26000000000) : y ≤ 9223372036854775807 := by omega
theorem fit_x {x : Int} {i : Nat} (hi : i ≤ 100000000) (hx : x ≤ 1 + 255 * (i : Int)) : x ≤ 9223372036854775807 := by omega
def U32 (s : Int) : Prop := 0 ≤ s ∧ s < 4294967296
theorem ad_rng (x y : Int) : U32 ((y % 65521) * 65536 + x % 65521) := by unfold U32; omega
/-- The sum of bytes. -/
def adl : List Int → Int → Int → Int
  | [], x, y => (y % 65521) * 65536 + x % 65521
  | r :: l, x, y => adl l (x + r) (y + (x + r))
theorem adl_rng : ∀ (l : List Int) (x y : Int), U32 (adl l x y)
  | [], x, y => ad_rng x y
  | r :: l, x, y => adl_rng l _ _
/-- The two sums are the same. -/
theorem sums (b : List Int) (hb : b.length ≤ 100000000) (hB : Bytes b) : ∀ (d i : Nat) (x y : Int), i + d = b.length → 0 ≤ x → x ≤ 1 + 255 * (i : Int) → 0 ≤ y → y ≤ (i : Int) * 26000000000 →
    Is (fun k => terrref5_Adler.l0 k x y b (b.length : Int) (i : Int)) (adl (b.drop i) x y) ∧ Is (fun k => pack_Sum.l0 k (x % 65521) (y % 65521) b (b.length : Int) (i : Int)) (adl (b.drop i) x y) := by
  intro d
  induction d with
  | zero =>
    intro i x y hi hx0 hx1 hy0 hy1
    rw [drop_end (by omega), adl]
    refine ⟨?_, ?_⟩
    · refine Is.step (f := fun _ => some ((((((Int.tmod y 65521) % 4294967296) * 65536) % 4294967296) + ((Int.tmod x 65521) % 4294967296)) % 4294967296)) ?_ (fun k => by rw [terrref5_Adler.l0, if_neg (by omega)])
      rw [ad_end hx0 hy0]; exact Is.pure _
    · refine Is.step (f := fun _ => some (Go.bits .or .u32 (((y % 65521) * 65536) % 4294967296) (x % 65521))) ?_ (fun k => by rw [pack_Sum.l0, if_neg (by omega)])
      rw [sum_or (by omega) (by omega)]; exact Is.pure _
  | succ d ih =>
    intro i x y hi hx0 hx1 hy0 hy1
    have hlt : i < b.length := by omega
    have hr := bytes_rd hB hlt
    obtain ⟨r, hre⟩ : ∃ r, r = rd b (i : Int) := ⟨_, rfl⟩
    rw [← hre] at hr
    have nx1 := next_x hx1 hr.2
    have ny1 := next_y (show i ≤ 100000000 by omega) hy1 nx1
    have fy := fit_y (show i + 1 ≤ 100000000 by omega) ny1
    have fx := fit_x (show i + 1 ≤ 100000000 by omega) nx1
    have p1 : 0 ≤ x + r := Int.add_nonneg hx0 hr.1
    have p2 : 0 ≤ y + (x + r) := Int.add_nonneg hy0 p1
    clear hy1
    obtain ⟨h1, h2⟩ := ih (i + 1) (x + r) (y + (x + r)) (by omega) p1 nx1 p2 ny1
    clear ny1 nx1 hx1
    rw [drop_at hlt, adl, ← hre]
    refine ⟨Is.step h1 (fun k => ?_), Is.step h2 (fun k => ?_)⟩
    · rw [terrref5_Adler.l0, if_pos (by omega), if_pos (by omega), if_pos (by omega), nx hlt (by omega), ← hre, wrap_id (x := r) (by omega) (by omega), wrap_id (x := x + r) (by omega) fx, wrap_id (x := y + (x + r)) (by omega) fy]
    · rw [pack_Sum.l0, if_pos (by omega), if_pos (by omega), if_pos (by omega), nx hlt (by omega), ← hre, step_x hx0 hr, step_y p1 hy0]
theorem sum_both (b : List Int) (hb : b.length ≤ 100000000) (hB : Bytes b) : Is (fun k => terrref5_Adler.f k b) (adl b 1 0) ∧ Is (fun k => pack_Sum.f k b) (adl b 1 0) :=
  sums b hb hB b.length 0 1 0 (by omega) (by omega) (by omega) (by omega) (by omega)
def fourL (s : Int) : List Int := [(s / 16777216) % 256, (s / 65536) % 256, (s / 256) % 256, s % 256]
theorem four_is {s : Int} (h : U32 s) : terrref5_Four.f s = some (fourL s) := by
  unfold U32 at h
  unfold terrref5_Four.f fourL
  rw [Int.tdiv_eq_ediv_of_nonneg h.1, Int.tdiv_eq_ediv_of_nonneg h.1, Int.tdiv_eq_ediv_of_nonneg h.1, show s / 16777216 % 4294967296 % 256 = s / 16777216 % 256 by omega, show s / 65536 % 4294967296 % 256 = s / 65536 % 256 by omega, show s / 256 % 4294967296 % 256 = s / 256 % 256 by omega]
/-! ### numbers and lists, by the second implementation -/
theorem dig_dg (lim : Nat) (hlim : lim = 140737488355328) : ∀ (m u : Nat), u < 128 ^ (m + 1) → u < 18446744073709551616 → ∀ (k : Nat) (acc : List Int), m + 1 ≤ k → acc.length + m < lim → terrref5_Digits.l0 k (u : Int) acc = some (acc ++ dg u) := by
  intro m
  induction m with
  | zero =>
    intro u h h64 k acc hk ha
    have h2 : u < 128 := by simpa using h
    obtain ⟨k, rfl⟩ : ∃ j, k = j + 1 := ⟨k - 1, by omega⟩
    have q : IntKind.u64.wrap (Int.tdiv (u : Int) 128) = 0 := by rw [Int.tdiv_eq_ediv_of_nonneg (by omega), show (u : Int) / 128 = 0 by omega]; rfl
    have b2 : Int.tmod (u : Int) 128 % 256 = (u : Int) := by rw [Int.tmod_eq_emod_of_nonneg (by omega)]; omega
    rw [dg_lo (by omega), terrref5_Digits.l0, if_pos q, ← hlim, if_pos (by omega), b2]
  | succ m ih =>
    intro u h h64 k acc hk ha
    obtain ⟨k, rfl⟩ : ∃ j, k = j + 1 := ⟨k - 1, by omega⟩
    by_cases c : u > 127
    · have hq : u / 128 < 128 ^ (m + 1) := by
        rw [Nat.pow_succ] at h
        exact Nat.div_lt_of_lt_mul (by rw [Nat.mul_comm]; exact h)
      have q : IntKind.u64.wrap (Int.tdiv (u : Int) 128) = ((u / 128 : Nat) : Int) := by rw [Int.tdiv_eq_ediv_of_nonneg (by omega), uwrap_id (by omega) (by omega)]; omega
      have b2 : (Int.tmod (u : Int) 128 % 256 + 128) % 256 = ((u % 128 + 128 : Nat) : Int) := by rw [Int.tmod_eq_emod_of_nonneg (by omega)]; omega
      rw [dg_hi c, terrref5_Digits.l0, q, if_neg (by omega), ← hlim, if_pos (by omega), b2, ih _ hq (by omega) k _ (by omega) (by simp; omega), List.append_assoc]
      rfl
    · have q : IntKind.u64.wrap (Int.tdiv (u : Int) 128) = 0 := by rw [Int.tdiv_eq_ediv_of_nonneg (by omega), show (u : Int) / 128 = 0 by omega]; rfl
      have b2 : Int.tmod (u : Int) 128 % 256 = (u : Int) := by rw [Int.tmod_eq_emod_of_nonneg (by omega)]; omega
      rw [dg_lo (by omega), terrref5_Digits.l0, if_pos q, ← hlim, if_pos (by omega), b2]
theorem zig_ref {n : Int} (h : In n) : (if n < 0 then IntKind.u64.wrap ((IntKind.u64.wrap (-(IntKind.u64.wrap (2 * (IntKind.u64.wrap n))))) - 1) else IntKind.u64.wrap (2 * (IntKind.u64.wrap n))) = (((zig n).toNat : Nat) : Int) := by
  unfold In at h
  unfold zig
  simp only [uwrap]
  split <;> omega
theorem digits_enc (lim : Nat) (hlim : lim = 140737488355328) {n : Int} (h : In n) : Is (fun k => terrref5_Digits.f k n) (enc n) := by
  have hz := zig_lt n h.1 h.2
  have hr := zig_ref h
  refine ⟨12, fun k hk => ?_⟩
  obtain ⟨k, rfl⟩ : ∃ j, k = j + 1 := ⟨k - 1, by omega⟩
  have hd := dig_dg lim hlim 9 (zig n).toNat (Nat.lt_trans hz.2 (by decide)) hz.2 k [] (by omega) (by simp; omega)
  unfold terrref5_Digits.f enc
  show (if n < 0 then _ else _) = _
  by_cases c : n < 0
  · rw [if_pos c] at hr ⊢
    rw [hr, terrref5_Digits.j0, hd]; rfl
  · rw [if_neg c] at hr ⊢
    rw [hr, terrref5_Digits.j0, hd]; rfl
/-- The last point so far, or nothing. -/
def Last (all : List S44) (x y : Int) : Prop := (all = [] ∧ x = 0 ∧ y = 0) ∨ (all ≠ [] ∧ (rd_T44 all ((all.length : Int) - 1)).f0 = x ∧ (rd_T44 all ((all.length : Int) - 1)).f1 = y)
theorem last_snoc (all : List S44) (q : S44) : Last (all ++ [q]) q.f0 q.f1 := by
  right
  refine ⟨by simp, ?_⟩
  have e : rd_T44 (all ++ [q]) (((all ++ [q]).length : Int) - 1) = q := by
    unfold rd_T44
    rw [show ((((all ++ [q]).length : Int) - 1).toNat) = all.length from by rw [List.length_append, List.length_singleton]; omega, List.getD_eq_getElem?_getD, List.getElem?_append_right (Nat.le_refl _), Nat.sub_self]
    rfl
  rw [e]
  exact ⟨rfl, rfl⟩
theorem last_all : ∀ (l all : List S44) (x y : Int), Last all x y → Last (all ++ l) (after x y l).1 (after x y l).2
  | [], all, x, y, h => by rw [List.append_nil]; exact h
  | q :: r, all, x, y, h => by
    have := last_all r (all ++ [q]) q.f0 q.f1 (last_snoc all q)
    rw [List.append_assoc] at this
    exact this
theorem lists_l1 (lim : Nat) (hlim : lim = 140737488355328) (parts : List (List S44)) (i : Nat) (hi : i < parts.length) (hp : parts.length ≤ 1000) (r : List S44) (hr : r.length ≤ 100000) (R : List Int) : ∀ (d j : Nat) (out : List Int) (all : List S44) (px py : Int), j + d = r.length → Last all px py → out.length + 20 * d ≤ 9000000 → all.length + d ≤ 900000 →
    Is (fun k => terrref5_Lists.l0 k (out ++ encP px py (r.drop j)) (all ++ r.drop j) parts (parts.length : Int) ((i + 1 : Nat) : Int)) R → Is (fun k => terrref5_Lists.l1 k out all parts (parts.length : Int) (i : Int) r (r.length : Int) (j : Int)) R
  | 0, j, out, all, px, py, hj, hL, ho, ha, h => by
    rw [drop_end (by omega), encP, List.append_nil, List.append_nil] at h
    exact Is.step h (fun k => by rw [terrref5_Lists.l1, if_neg (by omega), nx hi (by omega)])
  | d + 1, j, out, all, px, py, hj, hL, ho, ha, h => by
    have hlt : j < r.length := by omega
    rw [drop_is hlt, encP] at h
    obtain ⟨q, hq⟩ : ∃ q, q = r[j] := ⟨_, rfl⟩
    rw [← hq] at h
    have i1 := digits_enc lim hlim (in_wrap (q.f0 - px))
    have i2 := digits_enc lim hlim (in_wrap (q.f1 - py))
    have l1 := enc_len (in_wrap (q.f0 - px))
    have l2 := enc_len (in_wrap (q.f1 - py))
    have ih := lists_l1 lim hlim parts i hi hp r hr R d (j + 1) (out ++ enc (wrap64 (q.f0 - px)) ++ enc (wrap64 (q.f1 - py))) (all ++ [q]) q.f0 q.f1 (by omega) (last_snoc all q) (by rw [List.length_append, List.length_append]; omega) (by rw [List.length_append, List.length_singleton]; omega) (by
      rw [List.append_assoc, List.append_assoc, List.append_assoc]
      exact h)
    have core : Is (fun k => (terrref5_Digits.f k (wrap64 (q.f0 - px))).bind fun t => (if out.length + t.length < 140737488355328 then ((some (out ++ t : List Int)).bind fun y => ((terrref5_Digits.f k (wrap64 (q.f1 - py))).bind fun t' => (if y.length + t'.length < 140737488355328 then (if all.length < 8796093022208 then (terrref5_Lists.l1 k (y ++ t') (all ++ [(⟨q.f0, q.f1⟩ : S44)]) parts (parts.length : Int) (i : Int) r (r.length : Int) ((j + 1 : Nat) : Int)) else (none)) else (none)))) else (none))) R :=
      Is.bind i1 (Is.pos (by omega) (Is.bind (Is.pure _) (Is.bind i2 (Is.pos (by rw [List.length_append]; omega) (Is.pos (by omega) ih)))))
    refine Is.step core (fun k => ?_)
    rcases hL with ⟨rfl, rfl, rfl⟩ | ⟨hne, ex, ey⟩
    · rw [terrref5_Lists.l1, if_pos (by omega), if_pos (by omega), if_pos (by omega), if_neg (by decide), rd44_at hlt, ← hq, nx hlt (by omega)]
    · have hpos : 0 < all.length := List.length_pos_iff.mpr hne
      have w2 : wrap64 ((all.length : Int) - 1) = (all.length : Int) - 1 := wrap_id (by omega) (by omega)
      rw [terrref5_Lists.l1, if_pos (by omega), if_pos (by omega), if_pos (by omega), if_pos (by omega), w2, if_pos (by omega), if_pos (by omega), ex, ey, rd44_at hlt, ← hq, nx hlt (by omega)]
theorem lists_l0 (lim : Nat) (hlim : lim = 140737488355328) (parts : List (List S44)) (hp : parts.length ≤ 1000) : ∀ (d i : Nat) (out : List Int) (all : List S44) (px py : Int), i + d = parts.length → Last all px py → tot (parts.drop i) ≤ 20000 → out.length + 10 * d + 20 * tot (parts.drop i) ≤ 8000000 → all.length + tot (parts.drop i) ≤ 800000 →
    Is (fun k => terrref5_Lists.l0 k out all parts (parts.length : Int) (i : Int)) (out ++ encL px py (parts.drop i))
  | 0, i, out, all, px, py, hi, hL, ht, ho, ha => by
    rw [drop_end (by omega), encL, List.append_nil]
    exact Is.step (Is.pure _) (fun k => by rw [terrref5_Lists.l0, if_neg (by omega)])
  | d + 1, i, out, all, px, py, hi, hL, ht, ho, ha => by
    have hlt : i < parts.length := by omega
    rw [drop_is hlt] at ht ho ha ⊢
    rw [encL]
    obtain ⟨r, hr⟩ : ∃ r, r = parts[i] := ⟨_, rfl⟩
    rw [← hr] at ht ho ha ⊢
    rw [tot] at ht ho ha
    have hin : In (r.length : Int) := ⟨by omega, by omega⟩
    have le := enc_len hin
    have lp := encP_len r px py
    have ih := lists_l0 lim hlim parts hp d (i + 1) (out ++ enc (r.length : Int) ++ encP px py r) (all ++ r) (after px py r).1 (after px py r).2 (by omega) (last_all r all px py hL) (by omega) (by rw [List.length_append, List.length_append]; omega) (by rw [List.length_append]; omega)
    have l1 := lists_l1 lim hlim parts i hlt hp r (by omega) (out ++ enc (r.length : Int) ++ encP px py r ++ encL (after px py r).1 (after px py r).2 (parts.drop (i + 1))) r.length 0 (out ++ enc (r.length : Int)) all px py (by omega) hL (by rw [List.length_append]; omega) (by omega) (by rw [List.drop_zero]; exact ih)
    rw [show out ++ (enc (r.length : Int) ++ (encP px py r ++ encL (after px py r).1 (after px py r).2 (parts.drop (i + 1)))) = out ++ enc (r.length : Int) ++ encP px py r ++ encL (after px py r).1 (after px py r).2 (parts.drop (i + 1)) by simp only [List.append_assoc]]
    refine Is.step (f := fun k => (terrref5_Digits.f k (r.length : Int)).bind fun t => (if out.length + t.length < 140737488355328 then (terrref5_Lists.l1 k (out ++ t) all parts (parts.length : Int) (i : Int) r (r.length : Int) 0) else (none))) (Is.bind (digits_enc lim hlim hin) (Is.pos (by omega) l1)) (fun k => by rw [terrref5_Lists.l0, if_pos (by omega), if_pos (by omega), if_pos (by omega), rdL4_at hlt, ← hr])
theorem lists_enc (lim : Nat) (hlim : lim = 140737488355328) (parts : List (List S44)) (hp : parts.length ≤ 1000) (ht : tot parts ≤ 20000) : Is (fun k => terrref5_Lists.f k parts) (encAll parts) := by
  have hin : In (parts.length : Int) := ⟨by omega, by omega⟩
  have le := enc_len hin
  unfold terrref5_Lists.f encAll
  exact Is.bind (digits_enc lim hlim hin) (lists_l0 lim hlim parts hp parts.length 0 _ [] 0 0 (by omega) (.inl ⟨rfl, rfl, rfl⟩) ht (by rw [List.drop_zero]; omega) (by rw [List.drop_zero]; simp; omega))
end Go.Proofs.Ytjgoehhhjffpmaa.U

