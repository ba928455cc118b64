/- The pure statement of PackReads: any bytes are read as by the second implementation. No condition but the statement's own. -/
import Derived.Test.YtjgoehhhjffpmaaZrUVc
import Derived.Test.YtjgoehhhjffpmaaZrUVl
import Derived.Test.YtjgoehhhjffpmaaZrQPackReads
namespace Go.Proofs.Ytjgoehhhjffpmaa.U
open Go.RowKit Go.Proofs.Ytjgoehhhjffpmaa.Q Go.Proofs.YtjgoehhhjffpmaaW.PrintWords Go.Proofs.YtjgoehhhjffpmaaW.PrintLast Go.Proofs.YtjgoehhhjffpmaaW.PrintMore
set_option linter.unusedSimpArgs false
set_option linter.unusedVariables false
/-! ### bytes and texts -/
theorem bytes_str (xs : List Int) (h : Bytes xs) : bytesOf (strOfNums xs) = xs := by
  unfold bytesOf
  rw [strOfNums_data, List.map_map]
  refine (List.map_congr_left fun x hx => ?_).trans (List.map_id xs)
  have := h x hx
  show ((UInt8.ofNat x.toNat).toNat : Int) = x
  rw [UInt8.toNat_ofNat']
  omega
theorem bytes_sub {xs ys : List Int} (h : Bytes ys) (hs : ∀ x, x ∈ xs → x ∈ ys) : Bytes xs := fun x hx => h x (hs x hx)
theorem bytes_take {ys : List Int} (h : Bytes ys) (n : Nat) : Bytes (ys.take n) := bytes_sub h fun x hx => List.mem_of_mem_take hx
theorem bytes_drop {ys : List Int} (h : Bytes ys) (n : Nat) : Bytes (ys.drop n) := bytes_sub h fun x hx => List.mem_of_mem_drop hx
theorem loop_data (s : ByteArray) : ∀ (d i : Nat) (acc : List UInt8), i + d = s.size → ByteArray.toList.loop s i acc = acc.reverse ++ s.data.toList.drop i
  | 0, i, acc, hi => by
    rw [ByteArray.toList.loop, if_neg (by omega), List.drop_of_length_le (by rw [data_length]; omega), List.append_nil]
  | d + 1, i, acc, hi => by
    have hlt : i < s.data.toList.length := by rw [data_length]; omega
    rw [ByteArray.toList.loop, if_pos (by omega), loop_data s d (i + 1) _ (by omega), List.reverse_cons, List.append_assoc, ← List.getElem_cons_drop (h := hlt)]
    have e : s.get! i = s.data.toList[i] := by
      have h2 : i < s.data.size := by simpa using hlt
      show s.data[i]! = _
      rw [getElem!_pos s.data i h2]; simp
    rw [e]; rfl
theorem toList_data (s : ByteArray) : s.toList = s.data.toList := by
  unfold ByteArray.toList
  rw [loop_data s s.size 0 [] (by omega)]; rfl
/-- The texts of two rows of bytes are the same if the rows are. -/
theorem str_eq {u v : List Int} (hu : Bytes u) (hv : Bytes v) : (strOfNums u).toList = (strOfNums v).toList ↔ u = v := by
  refine ⟨fun h => ?_, fun h => by rw [h]⟩
  rw [toList_data, toList_data] at h
  have h1 := bytes_str u hu
  have h2 := bytes_str v hv
  unfold bytesOf at h1 h2
  rw [h] at h1
  exact h1.symm.trans h2
theorem eqb_loop (u v : List Int) (hl : u.length = v.length) (hb : u.length ≤ 900000) : ∀ (d i : Nat), i + d = u.length → Is (fun k => slices_Equal_byte_byte.l0 k u v (u.length : Int) (i : Int)) (decide (u.drop i = v.drop i))
  | 0, i, hi => by
    rw [drop_end (by omega), drop_end (by omega), decide_eq_true rfl]
    exact Is.step (f := fun _ => some true) (Is.pure _) (fun k => by rw [slices_Equal_byte_byte.l0, if_neg (by omega)])
  | d + 1, i, hi => by
    have h1 : i < u.length := by omega
    have h2 : i < v.length := by omega
    rw [drop_is h1, drop_is h2]
    refine Is.step (f := fun k => if (rd u (i : Int)) = (rd v (i : Int)) then (slices_Equal_byte_byte.l0 k u v (u.length : Int) ((i + 1 : Nat) : Int)) else (some false)) ?_ (fun k => by rw [slices_Equal_byte_byte.l0, if_pos (by omega), if_pos (by omega), if_pos (by omega), if_pos (by omega), nx (n := u.length) (by omega) (by omega)])
    rw [rd_at h1, rd_at h2]
    refine Is.ite (fun c => (eqb_loop u v hl hb d (i + 1) (by omega)).eq ?_) (fun c => ?_)
    · rw [c]; exact decide_eq_decide.2 ⟨fun h => by rw [h], fun h => (List.cons.inj h).2⟩
    · rw [decide_eq_false (fun h => c (List.cons.inj h).1)]; exact Is.pure _
theorem eqb_is (u v : List Int) (hb : u.length ≤ 900000) : Is (fun k => slices_Equal_byte_byte.f k u v) (decide (u = v)) := by
  unfold slices_Equal_byte_byte.f
  refine Is.ite (fun c => eqb_loop u v (by omega) hb u.length 0 (by omega)) (fun c => ?_)
  rw [decide_eq_false (fun h => c (by rw [h]))]; exact Is.pure _
/-! ### sums -/
theorem or32 (x y : Nat) (hx : x < 4294967296) (hy : y < 4294967296) : Go.bits .or .u32 (x : Int) (y : Int) = ((x ||| y : Nat) : Int) := by
  have e : (BitVec.ofInt IntKind.u32.bits (x : Int) ||| BitVec.ofInt IntKind.u32.bits (y : Int)).toNat = x ||| y := by
    show (BitVec.ofInt 32 (x : Int) ||| BitVec.ofInt 32 (y : Int)).toNat = x ||| y
    rw [BitVec.ofInt_natCast, BitVec.ofInt_natCast, BitVec.toNat_or, BitVec.toNat_ofNat, BitVec.toNat_ofNat, Nat.mod_eq_of_lt hx, Nat.mod_eq_of_lt hy]
  have hlt : x ||| y < 4294967296 := Nat.or_lt_two_pow (n := 32) hx hy
  unfold Go.bits
  dsimp only
  rw [e]
  show ((x ||| y : Nat) : Int) % 4294967296 = _
  omega
theorem sum_or {x y : Int} (hx : 0 ≤ x ∧ x < 65521) (hy : 0 ≤ y ∧ y < 65521) : Go.bits .or .u32 ((y * 65536) % 4294967296) x = y * 65536 + x := by
  obtain ⟨m, rfl⟩ : ∃ m : Nat, x = (m : Int) := ⟨x.toNat, by omega⟩
  obtain ⟨n, rfl⟩ : ∃ n : Nat, y = (n : Int) := ⟨y.toNat, by omega⟩
  have e : ((n : Int) * 65536) % 4294967296 = ((n * 65536 : Nat) : Int) := by omega
  rw [e, or32 (n * 65536) m (by omega) (by omega)]
  have h1 : n * 65536 ||| m = n * 65536 + m := by
    have := Nat.shiftLeft_add_eq_or_of_lt (b := m) (i := 16) (by omega) n
    rw [Nat.shiftLeft_eq] at this
    exact this.symm
  rw [h1]; omega
theorem step_x {x r : Int} (hx : 0 ≤ x) (hr : 0 ≤ r ∧ r ≤ 255) : (((x % 65521) + (r % 4294967296)) % 4294967296) % 65521 = (x + r) % 65521 := by omega
theorem step_y {x y : Int} (hx : 0 ≤ x) (hy : 0 ≤ y) : (((y % 65521) + (x % 65521)) % 4294967296) % 65521 = (y + x) % 65521 := by omega
theorem ad_end {x y : Int} (hx : 0 ≤ x) (hy : 0 ≤ y) : (((((Int.tmod y 65521) % 4294967296) * 65536) % 4294967296) + ((Int.tmod x 65521) % 4294967296)) % 4294967296 = (y % 65521) * 65536 + x % 65521 := by
  rw [Int.tmod_eq_emod_of_nonneg hx, Int.tmod_eq_emod_of_nonneg hy]; omega
theorem next_x {x r : Int} {i : Nat} (hx : x ≤ 1 + 255 * (i : Int)) (hr : r ≤ 255) : x + r ≤ 1 + 255 * ((i + 1 : Nat) : Int) := by omega
theorem next_y {y x r : Int} {i : Nat} (hi : i ≤ 2000000) (hy : y ≤ (i : Int) * 600000000) (hx : x + r ≤ 1 + 255 * ((i + 1 : Nat) : Int)) : y + (x + r) ≤ ((i + 1 : Nat) : Int) * 600000000 := by
  have e : ((i + 1 : Nat) : Int) * 600000000 = (i : Int) * 600000000 + 600000000 := by omega
  rw [e]
  generalize (i : Int) * 600000000 = m at hy ⊢
  omega
theorem fit_y {y : Int} {i : Nat} (hi : i ≤ 2000000) (hy : y ≤ (i : Int) * 600000000) : y ≤ 9223372036854775807 := by omega
def U32 (s : Int) : Prop := 0 ≤ s ∧ s < 4294967296
theorem ad_rng (x y : Int) : U32 ((y % 65521) * 65536 + x % 65521) := by unfold U32; omega
/-- The sum of bytes. -/
def adl : List Int → Int → Int → Int
  | [], x, y => (y % 65521) * 65536 + x % 65521
  | r :: l, x, y => adl l (x + r) (y + (x + r))
theorem adl_rng : ∀ (l : List Int) (x y : Int), U32 (adl l x y)
  | [], x, y => ad_rng x y
  | r :: l, x, y => adl_rng l _ _
/-- The two sums are the same. -/
theorem sums (b : List Int) (hb : b.length ≤ 2000000) (hB : Bytes b) : ∀ (d i : Nat) (x y : Int), i + d = b.length → 0 ≤ x → x ≤ 1 + 255 * (i : Int) → 0 ≤ y → y ≤ (i : Int) * 600000000 →
    Is (fun k => terrref5_Adler.l0 k x y b (b.length : Int) (i : Int)) (adl (b.drop i) x y) ∧ Is (fun k => pack_Sum.l0 k (x % 65521) (y % 65521) b (b.length : Int) (i : Int)) (adl (b.drop i) x y) := by
  intro d
  induction d with
  | zero =>
    intro i x y hi hx0 hx1 hy0 hy1
    rw [drop_end (by omega), adl]
    refine ⟨?_, ?_⟩
    · refine Is.step (f := fun _ => some ((((((Int.tmod y 65521) % 4294967296) * 65536) % 4294967296) + ((Int.tmod x 65521) % 4294967296)) % 4294967296)) ?_ (fun k => by rw [terrref5_Adler.l0, if_neg (by omega)])
      rw [ad_end hx0 hy0]; exact Is.pure _
    · refine Is.step (f := fun _ => some (Go.bits .or .u32 (((y % 65521) * 65536) % 4294967296) (x % 65521))) ?_ (fun k => by rw [pack_Sum.l0, if_neg (by omega)])
      rw [sum_or (by omega) (by omega)]; exact Is.pure _
  | succ d ih =>
    intro i x y hi hx0 hx1 hy0 hy1
    have hlt : i < b.length := by omega
    have hr := bytes_rd hB hlt
    obtain ⟨r, hre⟩ : ∃ r, r = rd b (i : Int) := ⟨_, rfl⟩
    rw [← hre] at hr
    have nx1 := next_x hx1 hr.2
    have ny1 := next_y (show i ≤ 2000000 by omega) hy1 nx1
    have fy := fit_y (show i + 1 ≤ 2000000 by omega) ny1
    have fx : x + r ≤ 9223372036854775807 := by omega
    have p1 : 0 ≤ x + r := Int.add_nonneg hx0 hr.1
    have p2 : 0 ≤ y + (x + r) := Int.add_nonneg hy0 p1
    clear hy1
    obtain ⟨h1, h2⟩ := ih (i + 1) (x + r) (y + (x + r)) (by omega) p1 nx1 p2 ny1
    clear ny1 nx1 hx1
    rw [drop_at hlt, adl, ← hre]
    refine ⟨Is.step h1 (fun k => ?_), Is.step h2 (fun k => ?_)⟩
    · rw [terrref5_Adler.l0, if_pos (by omega), if_pos (by omega), if_pos (by omega), nx hlt (by omega), ← hre, wrap_id (x := r) (by omega) (by omega), wrap_id (x := x + r) (by omega) fx, wrap_id (x := y + (x + r)) (by omega) fy]
    · rw [pack_Sum.l0, if_pos (by omega), if_pos (by omega), if_pos (by omega), nx hlt (by omega), ← hre, step_x hx0 hr, step_y p1 hy0]
theorem sum_both (b : List Int) (hb : b.length ≤ 2000000) (hB : Bytes b) : Is (fun k => terrref5_Adler.f k b) (adl b 1 0) ∧ Is (fun k => pack_Sum.f k b) (adl b 1 0) :=
  sums b hb hB b.length 0 1 0 (by omega) (by omega) (by omega) (by omega) (by omega)
def fourL (s : Int) : List Int := [(s / 16777216) % 256, (s / 65536) % 256, (s / 256) % 256, s % 256]
theorem four_bytes (s : Int) : Bytes (fourL s) := by
  intro x hx
  simp only [fourL, List.mem_cons, List.not_mem_nil, or_false] at hx
  rcases hx with rfl | rfl | rfl | rfl <;> omega
theorem four_is {s : Int} (h : U32 s) : terrref5_Four.f s = some (fourL s) := by
  unfold U32 at h
  unfold terrref5_Four.f fourL
  rw [Int.tdiv_eq_ediv_of_nonneg h.1, Int.tdiv_eq_ediv_of_nonneg h.1, Int.tdiv_eq_ediv_of_nonneg h.1, show s / 16777216 % 4294967296 % 256 = s / 16777216 % 256 by omega, show s / 65536 % 4294967296 % 256 = s / 65536 % 256 by omega, show s / 256 % 4294967296 % 256 = s / 256 % 256 by omega]
/-! ### commands -/
def jump (b : List Int) : Nat := 5 + (rd b 4).toNat
def drawOf (b : List Int) : S48 := ⟨rd b 0, rd b 1, rd b 2, rd b 3, (R (b.drop (jump b))).1, strOfNums ((b.take (jump b)).drop 5)⟩
def short (b : List Int) : Prop := b.length < 5 ∨ b.length < jump b
instance (b : List Int) : Decidable (short b) := by unfold short; infer_instance
def rdAll : Nat → List Int → List S48 → List S48 × Int
  | 0, b, acc => if b = [] then (if draws acc = 0 then (acc, 0) else ([], draws acc)) else ([], 3)
  | n + 1, b, acc => if short b then ([], 14) else if (R (b.drop (jump b))).2.2 = 0 then rdAll n (R (b.drop (jump b))).2.1 (acc ++ [drawOf b]) else ([], (R (b.drop (jump b))).2.2)
theorem jump_wrap {b : List Int} (hb : Bytes b) (h : 4 < b.length) : wrap64 (5 + wrap64 (rd b 4)) = (jump b : Int) ∧ 0 ≤ rd b 4 ∧ rd b 4 ≤ 255 := by
  have h4 := bytes_rd hb (i := 4) h
  have h4' : 0 ≤ rd b 4 ∧ rd b 4 ≤ 255 := h4
  refine ⟨?_, h4'⟩
  unfold jump
  rw [wrap_id (x := rd b 4) (by omega) (by omega), wrap_id (by omega) (by omega)]
  omega
theorem byte_wrap {b : List Int} (hb : Bytes b) {i : Nat} (h : i < b.length) : wrap64 (rd b (i : Int)) = rd b (i : Int) := by
  have := bytes_rd hb h
  exact wrap_id (by omega) (by omega)
theorem rest_len {b : List Int} (hb : Bytes b) (c : (R b).2.2 = 0) : Bytes (R b).2.1 ∧ (R b).2.1.length ≤ b.length := by
  have h := (R_inv (b' := (R b).2.1) (ls := (R b).1) (e := (R b).2.2) hb rfl).1 c
  have h1 := h.1
  refine ⟨bytes_sub hb fun x hx => by rw [h1]; exact List.mem_append.2 (.inr hx), ?_⟩
  have := congrArg List.length h1
  rw [List.length_append] at this
  omega
def oneOf (b : List Int) : Int × Int × Int × Int × (List (List (S44))) × ByteArray × List Int × Int :=
  if short b then (0, 0, 0, 0, ([] : List (List (S44))), (⟨#[]⟩ : ByteArray), ([] : List Int), 14) else (rd b 0, rd b 1, rd b 2, rd b 3, (R (b.drop (jump b))).1, strOfNums ((b.take (jump b)).drop 5), (R (b.drop (jump b))).2.1, (R (b.drop (jump b))).2.2)
theorem one_is (lim : Nat) (hlim : lim = 140737488355328) (b : List Int) (hb : Bytes b) (hl : b.length ≤ 65536) : Is (fun k => pack_one.f k b) (oneOf b) := by
  unfold pack_one.f oneOf
  refine Is.ite (fun c => ?_) (fun c5 => ?_)
  · rw [if_pos (by unfold short; omega)]; exact Is.pure _
  have h4 : 4 < b.length := by omega
  obtain ⟨hj, hn0, hn1⟩ := jump_wrap hb h4
  rw [hj]
  refine Is.pos (by omega) (Is.ite (fun c => ?_) (fun c => ?_))
  · rw [if_pos (by unfold short; omega)]; exact Is.pure _
  have hs : ¬ short b := by unfold short; omega
  have hj5 : 5 ≤ jump b := by unfold jump; omega
  rw [if_neg hs, Int.toNat_natCast]
  have w0 : wrap64 (rd b 0) = rd b 0 := byte_wrap hb (i := 0) (by omega)
  have w1 : wrap64 (rd b 1) = rd b 1 := byte_wrap hb (i := 1) (by omega)
  have w2 : wrap64 (rd b 2) = rd b 2 := byte_wrap hb (i := 2) (by omega)
  have w3 : wrap64 (rd b 3) = rd b 3 := byte_wrap hb (i := 3) (by omega)
  rw [w0, w1, w2, w3]
  refine Is.pos (by omega) (Is.pos (by omega) (Is.pos (by omega) (Is.pos (by omega) (Is.pos (by omega) (Is.pos (by omega) (Is.pos (by omega) ?_))))))
  exact Is.bind (r := R (b.drop (jump b))) ⟨40, fun k hk => read_R lim hlim _ (bytes_drop hb _) (by rw [List.length_drop]; omega) k hk⟩ (Is.pure _)
theorem read_l0 (lim : Nat) (hlim : lim = 140737488355328) (many : Nat) (hm : many ≤ 500) : ∀ (d i : Nat) (b : List Int) (acc : List S48), i + d = many → Bytes b → b.length ≤ 65536 → acc.length ≤ i →
    Is (fun k => pack_Read.l0 k b acc (many : Int) (i : Int)) (rdAll d b acc)
  | 0, i, b, acc, hi, hb, hl, ha => by
    refine Is.step (f := fun k => if (b.length : Int) > 0 then (some (([] : List (S48)), 3)) else ((pack_All.f k acc).bind fun t => (if t = 0 then (some (acc, 0)) else (some (([] : List (S48)), t))))) ?_ (fun k => by rw [pack_Read.l0, if_neg (by omega)])
    unfold rdAll
    refine Is.ite (fun c => ?_) (fun c => ?_)
    · rw [if_neg (fun h => by rw [h] at c; simp at c)]; exact Is.pure _
    · rw [if_pos (List.eq_nil_of_length_eq_zero (by omega))]
      refine Is.bind (all_is acc) (Is.ite (fun c => ?_) (fun c => ?_))
      · rw [if_pos c]; exact Is.pure _
      · rw [if_neg c]; exact Is.pure _
  | d + 1, i, b, acc, hi, hb, hl, ha => by
    refine Is.step (f := fun k => (pack_one.f k b).bind fun bt => (if bt.2.2.2.2.2.2.2 = 0 then (if acc.length < 1954687338268 then (pack_Read.l0 k bt.2.2.2.2.2.2.1 (acc ++ [(⟨bt.1, bt.2.1, bt.2.2.1, bt.2.2.2.1, bt.2.2.2.2.1, bt.2.2.2.2.2.1⟩ : S48)]) (many : Int) ((i + 1 : Nat) : Int)) else (none)) else (some (([] : List (S48)), bt.2.2.2.2.2.2.2)))) ?_ (fun k => by rw [pack_Read.l0, if_pos (by omega), nx (n := many) (by omega) (by omega)])
    refine Is.bind (one_is lim hlim b hb hl) ?_
    unfold rdAll oneOf
    by_cases c : short b
    · rw [if_pos c, if_pos c]
      exact Is.neg (by show ¬ (14 : Int) = 0; decide) (Is.pure _)
    · rw [if_neg c, if_neg c]
      dsimp only
      refine Is.ite (fun c0 => Is.pos (by omega) ?_) (fun c0 => ?_)
      · rw [if_pos c0]
        obtain ⟨h1, h2⟩ := rest_len (bytes_drop hb _) c0
        exact read_l0 lim hlim many hm d (i + 1) _ _ (by omega) h1 (by rw [List.length_drop] at h2; omega) (by rw [List.length_append]; simp; omega)
      · rw [if_neg c0]; exact Is.pure _
theorem unp_l0 (lim : Nat) (hlim : lim = 140737488355328) : ∀ (d : Nat) (b : List Int) (acc : List S48), Bytes b → b.length ≤ 65536 → acc.length + d ≤ 500 →
    Is (fun k => terrref5_Unpacked.l0 k (d : Int) b acc) (rdAll d b acc)
  | 0, b, acc, hb, hl, ha => by
    refine Is.step (f := fun k => if (b.length : Int) = 0 then ((terrref5_DrawsFault.f k acc).bind fun t => (if t = 0 then (some (acc, 0)) else (some (([] : List (S48)), t)))) else (some (([] : List (S48)), 3))) ?_ (fun k => by rw [terrref5_Unpacked.l0, if_neg (by omega)])
    unfold rdAll
    refine Is.ite (fun c => ?_) (fun c => ?_)
    · rw [if_pos (List.eq_nil_of_length_eq_zero (by omega))]
      refine Is.bind (draws_is acc) (Is.ite (fun c => ?_) (fun c => ?_))
      · rw [if_pos c]; exact Is.pure _
      · rw [if_neg c]; exact Is.pure _
    · rw [if_neg (fun h => by rw [h] at c; simp at c)]; exact Is.pure _
  | d + 1, b, acc, hb, hl, ha => by
    refine Is.step (f := fun k => if (b.length : Int) < 5 then (terrref5_Unpacked.j2 k ((d + 1 : Nat) : Int) b acc true) else (if 4 < (b.length : Int) then (terrref5_Unpacked.j2 k ((d + 1 : Nat) : Int) b acc (decide ((wrap64 ((b.length : Int) - 5)) < (wrap64 (rd b 4))))) else (none))) ?_ (fun k => by rw [terrref5_Unpacked.l0, if_pos (by omega)])
    have j2 : ∀ x : Bool, (x = true ↔ short b) → Is (fun k => terrref5_Unpacked.j2 k ((d + 1 : Nat) : Int) b acc x) (rdAll (d + 1) b acc) := by
      intro x hx
      unfold rdAll
      cases x with
      | true =>
        rw [if_pos (hx.1 rfl)]
        exact Is.step (Is.pure _) (fun k => by rw [terrref5_Unpacked.j2, if_pos rfl])
      | false =>
        have hs : ¬ short b := fun h => by have := hx.2 h; cases this
        have h4 : 4 < b.length := by unfold short at hs; omega
        have hlj : jump b ≤ b.length := by unfold short at hs; omega
        obtain ⟨hj, hn0, hn1⟩ := jump_wrap hb h4
        have hj5 : 5 ≤ jump b := by unfold jump; omega
        have w0 : wrap64 (rd b 0) = rd b 0 := byte_wrap hb (i := 0) (by omega)
        have w1 : wrap64 (rd b 1) = rd b 1 := byte_wrap hb (i := 1) (by omega)
        have w2 : wrap64 (rd b 2) = rd b 2 := byte_wrap hb (i := 2) (by omega)
        have w3 : wrap64 (rd b 3) = rd b 3 := byte_wrap hb (i := 3) (by omega)
        have wd : wrap64 (((d + 1 : Nat) : Int) - 1) = (d : Int) := by rw [wrap_id (by omega) (by omega)]; omega
        rw [if_neg hs]
        refine Is.step (f := fun k => (terrref5_ListsOf.f k (b.drop (jump b))).bind fun bt => (if bt.2.2 = 0 then (if acc.length < 1954687338268 then (terrref5_Unpacked.l0 k (d : Int) bt.2.1 (acc ++ [(⟨rd b 0, rd b 1, rd b 2, rd b 3, bt.1, strOfNums ((b.take (jump b)).drop 5)⟩ : S48)])) else (none)) else (some (([] : List (S48)), bt.2.2)))) ?_ (fun k => by
          rw [terrref5_Unpacked.j2, if_neg (show ¬ (false = true) by decide), hj, if_pos (by omega), if_pos (by omega), if_pos (by omega), if_pos (by omega), if_pos (by omega), if_pos (by omega), if_pos (by omega), if_pos (by omega), Int.toNat_natCast, w0, w1, w2, w3, wd])
        refine Is.bind (r := R (b.drop (jump b))) (lists_R lim hlim _ (bytes_drop hb _) (by rw [List.length_drop]; omega)) (Is.ite (fun c0 => Is.pos (by omega) ?_) (fun c0 => ?_))
        · rw [if_pos c0]
          obtain ⟨h1, h2⟩ := rest_len (bytes_drop hb _) c0
          exact unp_l0 lim hlim d _ _ h1 (by rw [List.length_drop] at h2; omega) (by rw [List.length_append]; simp; omega)
        · rw [if_neg c0]; exact Is.pure _
    refine Is.ite (fun c => j2 _ ⟨fun _ => by unfold short; omega, fun _ => rfl⟩) (fun c => Is.pos (by omega) (j2 _ ?_))
    obtain ⟨hj, hn0, hn1⟩ := jump_wrap hb (by omega : 4 < b.length)
    rw [decide_eq_true_iff, wrap_id (x := rd b 4) (by omega) (by omega), wrap_id (by omega) (by omega)]
    unfold short jump
    omega
/-- What reading comes to. -/
def readSpec (b : List Int) : List S48 × Int :=
  if 65536 < b.length then ([], 2) else if b.length < 8 then ([], 14) else if b.take 3 = [77, 84, 49] then
    (if fourL (adl (b.take (b.length - 4)) 1 0) = b.drop (b.length - 4) then
      (if (rt ((b.take (b.length - 4)).drop 3)).2.2 = 0 then
        (if (rt ((b.take (b.length - 4)).drop 3)).1 < 0 ∨ (rt ((b.take (b.length - 4)).drop 3)).1 > 500 then ([], 2) else rdAll (rt ((b.take (b.length - 4)).drop 3)).1.toNat (rt ((b.take (b.length - 4)).drop 3)).2.1 [])
      else ([], (rt ((b.take (b.length - 4)).drop 3)).2.2))
    else ([], 13)) else ([], 3)
theorem rt_rest {b : List Int} (hb : Bytes b) : (rt b).2.2 = 0 → Bytes (rt b).2.1 ∧ (rt b).2.1.length ≤ b.length := by
  intro c
  have h : rt b = if (tk 0 b).2.2 = 0 then (unzig (tk 0 b).1, (tk 0 b).2.1, 0) else (0, [], (tk 0 b).2.2) := rfl
  by_cases c0 : (tk 0 b).2.2 = 0
  · rw [if_pos c0] at h
    have h2 := (tk_enc (b := b) (rest := (tk 0 b).2.1) (V := (tk 0 b).1) hb (by rw [← c0])).1
    rw [h]
    refine ⟨bytes_sub hb fun x hx => by rw [h2]; exact List.mem_append.2 (.inr hx), ?_⟩
    have := congrArg List.length h2
    rw [List.length_append] at this
    show (tk 0 b).2.1.length ≤ _
    omega
  · rw [if_neg c0] at h
    rw [h] at c
    exact absurd c c0
theorem both (lim : Nat) (hlim : lim = 140737488355328) (b : List Int) (hB : Bytes b) : Is (fun k => pack_Read.f k b) (readSpec b) ∧ Is (fun k => terrref5_Unpacked.f k b) (readSpec b) := by
  unfold pack_Read.f terrref5_Unpacked.f readSpec
  by_cases c1 : 65536 < b.length
  · rw [if_pos c1]
    exact ⟨Is.pos (by omega) (Is.pure _), Is.pos (by omega) (Is.pure _)⟩
  rw [if_neg c1]
  by_cases c2 : b.length < 8
  · rw [if_pos c2]
    exact ⟨Is.neg (by omega) (Is.pos (by omega) (Is.pure _)), Is.neg (by omega) (Is.pos (by omega) (Is.pure _))⟩
  rw [if_neg c2]
  have w : wrap64 ((b.length : Int) - 4) = ((b.length - 4 : Nat) : Int) := by rw [wrap_id (by omega) (by omega)]; omega
  rw [w, Int.toNat_natCast]
  obtain ⟨n, hn⟩ : ∃ n, n = b.length - 4 := ⟨_, rfl⟩
  rw [← hn]
  have h77 : Bytes [77, 84, 49] := by intro x hx; simp at hx; omega
  have hd : (strOfNums [77, 84, 49]).toList = ([77, 84, 49] : List UInt8) := by rw [toList_data]; rfl
  have hs : (strOfNums (b.take 3)).toList = ([77, 84, 49] : List UInt8) ↔ b.take 3 = [77, 84, 49] := by
    rw [← hd]; exact str_eq (bytes_take hB 3) h77
  by_cases c3 : b.take 3 = [77, 84, 49]
  rotate_left
  · rw [if_neg c3]
    exact ⟨Is.neg (by omega) (Is.neg (by omega) (Is.pos (by omega) (Is.neg (fun h => c3 (hs.1 h)) (Is.pure _)))), Is.neg (by omega) (Is.neg (by omega) (Is.pos (by omega) (Is.neg (fun h => c3 (hs.1 h)) (Is.pure _))))⟩
  rw [if_pos c3]
  have hbt : Bytes (b.take n) := bytes_take hB n
  have hbd : Bytes (b.drop n) := bytes_drop hB n
  have hl : (b.take n).length ≤ 65536 := by rw [List.length_take]; omega
  obtain ⟨s1, s2⟩ := sum_both (b.take n) (by omega) hbt
  have hu := adl_rng (b.take n) 1 0
  obtain ⟨s, hse⟩ : ∃ s, s = adl (b.take n) 1 0 := ⟨_, rfl⟩
  rw [← hse] at s1 s2 hu ⊢
  obtain ⟨t, ht⟩ : ∃ t, t = rt ((b.take n).drop 3) := ⟨_, rfl⟩
  have hb3 : Bytes ((b.take n).drop 3) := bytes_drop hbt 3
  have hl3 : ((b.take n).drop 3).length ≤ 65536 := by rw [List.length_drop]; omega
  have tk1 : Is (fun k => delta_Take.f k ((b.take n).drop 3)) t := ⟨40, fun k hk => by rw [ht]; exact take_rt lim hlim _ hb3 (by omega) k hk⟩
  have tk2 : Is (fun k => terrref5_Number.f k ((b.take n).drop 3)) t := ⟨40, fun k hk => by rw [ht]; exact number_rt lim hlim _ hb3 (by omega) k hk⟩
  have hr := rt_rest hb3
  rw [← ht] at hr ⊢
  have core : Is (fun k => if t.2.2 = 0 then (if t.1 < 0 then (pack_Read.j0 k t.1 t.2.1 true) else (pack_Read.j0 k t.1 t.2.1 (decide (t.1 > 500)))) else (some (([] : List (S48)), t.2.2))) (if t.2.2 = 0 then (if t.1 < 0 ∨ t.1 > 500 then ([], 2) else rdAll t.1.toNat t.2.1 []) else ([], t.2.2)) ∧
      Is (fun k => if t.2.2 = 0 then (if t.1 < 0 then (terrref5_Unpacked.j0 k t.1 t.2.1 true) else (terrref5_Unpacked.j0 k t.1 t.2.1 (decide (t.1 > 500)))) else (some (([] : List (S48)), t.2.2))) (if t.2.2 = 0 then (if t.1 < 0 ∨ t.1 > 500 then ([], 2) else rdAll t.1.toNat t.2.1 []) else ([], t.2.2)) := by
    by_cases c : t.2.2 = 0
    rotate_left
    · rw [if_neg c]
      exact ⟨Is.neg c (Is.pure _), Is.neg c (Is.pure _)⟩
    rw [if_pos c]
    obtain ⟨r1, r2⟩ := hr c
    have jt1 : Is (fun k => pack_Read.j0 k t.1 t.2.1 true) ([], 2) := Is.step (Is.pure _) (fun k => by rw [pack_Read.j0, if_pos rfl])
    have jt2 : Is (fun k => terrref5_Unpacked.j0 k t.1 t.2.1 true) ([], 2) := Is.step (Is.pure _) (fun k => by rw [terrref5_Unpacked.j0, if_pos rfl])
    by_cases cn : t.1 < 0
    · rw [if_pos (Or.inl cn)]
      exact ⟨Is.pos c (Is.pos cn jt1), Is.pos c (Is.pos cn jt2)⟩
    by_cases cm : t.1 > 500
    · rw [if_pos (Or.inr cm)]
      exact ⟨Is.pos c (Is.neg cn (by rw [decide_eq_true cm]; exact jt1)), Is.pos c (Is.neg cn (by rw [decide_eq_true cm]; exact jt2))⟩
    rw [if_neg (by omega)]
    have e : t.1 = (t.1.toNat : Int) := by omega
    have l1 := read_l0 lim hlim t.1.toNat (by omega) t.1.toNat 0 t.2.1 [] (by omega) r1 (by omega) (by simp)
    have l2 := unp_l0 lim hlim t.1.toNat t.2.1 [] r1 (by omega) (by simp; omega)
    rw [← e] at l1 l2
    refine ⟨Is.pos c (Is.neg cn (by rw [decide_eq_false cm]; exact Is.step l1 (fun k => by rw [pack_Read.j0, if_neg (show ¬ (false = true) by decide)]; rfl))), Is.pos c (Is.neg cn (by rw [decide_eq_false cm]; exact Is.step l2 (fun k => by rw [terrref5_Unpacked.j0, if_neg (show ¬ (false = true) by decide)])))⟩
  by_cases c4 : fourL s = b.drop n
  · rw [if_pos c4]
    refine ⟨Is.neg (by omega) (Is.neg (by omega) (Is.pos (by omega) (Is.pos (hs.2 c3) (Is.pos (by omega) (Is.pos (by omega) (Is.bind s2 (Is.bind (r := fourL s) (Is.pure _) (Is.bind (eqb_is _ _ (by rw [List.length_drop]; omega)) (Is.pos (decide_eq_true c4.symm) (Is.pos (by omega) (Is.bind tk1 core.1))))))))))), ?_⟩
    refine Is.neg (by omega) (Is.neg (by omega) (Is.pos (by omega) (Is.pos (hs.2 c3) (Is.pos (by omega) (Is.pos (by omega) (Is.bind s1 ?_))))))
    simp only [four_is hu]
    exact Is.bind (Is.pure _) (Is.pos ((str_eq (four_bytes s) hbd).2 c4) (Is.pos (by omega) (Is.bind tk2 core.2)))
  · rw [if_neg c4]
    refine ⟨Is.neg (by omega) (Is.neg (by omega) (Is.pos (by omega) (Is.pos (hs.2 c3) (Is.pos (by omega) (Is.pos (by omega) (Is.bind s2 (Is.bind (r := fourL s) (Is.pure _) (Is.bind (eqb_is _ _ (by rw [List.length_drop]; omega)) (Is.neg (fun h => c4 (of_decide_eq_true h).symm) (Is.pure _)))))))))), ?_⟩
    refine Is.neg (by omega) (Is.neg (by omega) (Is.pos (by omega) (Is.pos (hs.2 c3) (Is.pos (by omega) (Is.pos (by omega) (Is.bind s1 ?_))))))
    simp only [four_is hu]
    exact Is.bind (Is.pure _) (Is.neg (fun h => c4 ((str_eq (four_bytes s) hbd).1 h)) (Is.pure _))
/-! ### what is read is right, or nothing -/
def Right (l : List S48) : Prop := l = [] ∨ draws l = 0
theorem all_right : ∀ (d : Nat) (b : List Int) (acc : List S48), Right (rdAll d b acc).1
  | 0, b, acc => by
    unfold rdAll
    split
    · split
      · next h => exact .inr h
      · exact .inl rfl
    · exact .inl rfl
  | d + 1, b, acc => by
    unfold rdAll
    split
    · exact .inl rfl
    · split
      · exact all_right d _ _
      · exact .inl rfl
theorem read_right (b : List Int) : Right (readSpec b).1 := by
  unfold readSpec
  repeat' split
  all_goals first | exact .inl rfl | exact all_right _ _ _
theorem parts_len (kd : Int) : ∀ ps : List (List S44), partsC kd ps = 0 → ∀ p ∈ ps, p.length ≤ 400
  | [], _, p, hp => by cases hp
  | q :: ps, h, p, hp => by
    unfold partsC at h
    by_cases c : partC kd q = 0
    · rw [if_pos c] at h
      rcases List.mem_cons.1 hp with rfl | hp
      · unfold partC at c
        by_cases c4 : 400 < p.length
        · rw [if_pos c4] at c; exact absurd c (by decide)
        · omega
      · exact parts_len kd ps h p hp
    · rw [if_neg c] at h; exact absurd h c
theorem chk_len {d : S48} (h : chk d = 0) : d.f4.length ≤ 20 ∧ ∀ p ∈ d.f4, p.length ≤ 400 := by
  unfold chk at h
  by_cases c1 : BadK d.f0
  · rw [if_pos c1] at h; exact absurd h (by decide)
  rw [if_neg c1] at h
  by_cases c2 : BadV d.f1 d.f2 d.f3
  · rw [if_pos c2] at h; exact absurd h (by decide)
  rw [if_neg c2] at h
  by_cases c3 : textC d.f0 d.f5 = 0
  · rw [if_pos c3] at h
    unfold tailC at h
    by_cases c4 : BadM d.f0 d.f4.length
    · rw [if_pos c4] at h; exact absurd h (by decide)
    · rw [if_neg c4] at h
      exact ⟨by unfold BadM at c4; omega, parts_len _ _ h⟩
  · rw [if_neg c3] at h; exact absurd h c3
theorem chkAll_all : ∀ l : List S48, chkAll l = 0 → ∀ d ∈ l, chk d = 0
  | [], _, d, hd => by cases hd
  | e :: l, h, d, hd => by
    unfold chkAll at h
    by_cases c : chk e = 0
    · rw [if_pos c] at h
      rcases List.mem_cons.1 hd with rfl | hd
      · exact c
      · exact chkAll_all l h d hd
    · rw [if_neg c] at h; exact absurd h c
theorem right_len {l : List S48} (h : Right l) : l.length ≤ 500 ∧ ∀ d ∈ l, d.f4.length ≤ 20 ∧ ∀ p ∈ d.f4, p.length ≤ 400 := by
  rcases h with rfl | h
  · exact ⟨by simp, fun d hd => by cases hd⟩
  unfold draws at h
  by_cases c : 500 < l.length
  · rw [if_pos c] at h; exact absurd h (by decide)
  · rw [if_neg c] at h
    exact ⟨by omega, fun d hd => chk_len (chkAll_all l h d hd)⟩
theorem pt_l0 (l : List S44) (hl : l.length ≤ 1000) : ∀ (d i : Nat), i + d = l.length → Is (fun k => api_Point_24.l0 k l l (l.length : Int) (i : Int)) true
  | 0, i, hi => Is.step (f := fun _ => some true) (Is.pure _) (fun k => by rw [api_Point_24.l0, if_neg (by omega)])
  | d + 1, i, hi => Is.step (pt_l0 l hl d (i + 1) (by omega)) (fun k => by rw [api_Point_24.l0, if_pos (by omega), if_pos (by omega), if_pos (by omega), if_pos (by omega), if_neg (by simp), nx (n := l.length) (by omega) (by omega)])
theorem ls_l0 (ls : List (List S44)) (hl : ls.length ≤ 1000) (hp : ∀ p ∈ ls, p.length ≤ 400) : ∀ (d i : Nat), i + d = ls.length → Is (fun k => api_Point_23.l0 k ls ls (ls.length : Int) (i : Int)) true
  | 0, i, hi => Is.step (f := fun _ => some true) (Is.pure _) (fun k => by rw [api_Point_23.l0, if_neg (by omega)])
  | d + 1, i, hi => by
    have hlt : i < ls.length := by omega
    refine Is.step (f := fun k => (terrref5_SameParts_1.f k ls[i] ls[i]).bind fun t => (if t = true then (api_Point_23.l0 k ls ls (ls.length : Int) ((i + 1 : Nat) : Int)) else (some false))) ?_ (fun k => by rw [api_Point_23.l0, if_pos (by omega), if_pos (by omega), if_pos (by omega), if_pos (by omega), rdL4_at hlt, nx (n := ls.length) (by omega) (by omega)])
    have hi' := hp _ (List.getElem_mem hlt)
    refine Is.bind (r := true) ?_ (Is.pos rfl (ls_l0 ls hl hp d (i + 1) (by omega)))
    unfold terrref5_SameParts_1.f api_Point_24.f
    exact Is.bind (Is.pos rfl (pt_l0 ls[i] (by omega) ls[i].length 0 (Nat.zero_add _))) (Is.pure _)
theorem same_l0 (l : List S48) (hl : l.length ≤ 500) (hp : ∀ d ∈ l, d.f4.length ≤ 20 ∧ ∀ p ∈ d.f4, p.length ≤ 400) : ∀ (d i : Nat), i + d = l.length → Is (fun k => api_Draw.l0 k l l (l.length : Int) (i : Int)) true
  | 0, i, hi => Is.step (f := fun _ => some true) (Is.pure _) (fun k => by rw [api_Draw.l0, if_neg (by omega)])
  | d + 1, i, hi => by
    have hlt : i < l.length := by omega
    refine Is.step (f := fun k => (terrref5_SameDraws_1.f k (l[i]).f0 (l[i]).f1 (l[i]).f2 (l[i]).f3 (l[i]).f4 (l[i]).f5 (l[i]).f0 (l[i]).f1 (l[i]).f2 (l[i]).f3 (l[i]).f4 (l[i]).f5).bind fun t => (if t = true then (api_Draw.l0 k l l (l.length : Int) ((i + 1 : Nat) : Int)) else (some false))) ?_ (fun k => by rw [api_Draw.l0, if_pos (by omega), if_pos (by omega), if_pos (by omega), if_pos (by omega), rd48_is hlt, nx (n := l.length) (by omega) (by omega)])
    have hi' := hp _ (List.getElem_mem hlt)
    refine Is.bind (r := true) ?_ (Is.pos rfl (same_l0 l hl hp d (i + 1) (by omega)))
    unfold terrref5_SameDraws_1.f terrref5_SameParts.f api_Point_23.f
    exact Is.pos rfl (Is.pos rfl (Is.pos rfl (Is.pos rfl (Is.pos rfl (Is.bind (Is.bind (Is.pos rfl (ls_l0 (l[i]).f4 (by omega) hi'.2 (l[i]).f4.length 0 (Nat.zero_add _))) (Is.pure _)) (Is.pure _))))))
theorem same_is {l : List S48} (h : Right l) : Is (fun k => terrref5_SameDraws.f k l l) true := by
  obtain ⟨h1, h2⟩ := right_len h
  unfold terrref5_SameDraws.f api_Draw.f
  exact Is.bind (Is.pos rfl (same_l0 l h1 h2 l.length 0 (Nat.zero_add _))) (Is.pure _)
/-! ### the one dot -/
def dot : S48 := ⟨1, 0, 0, 0, [[⟨0, 0⟩]], ⟨#[]⟩⟩
def dotB : List Int := [77, 84, 49, 2, 1, 0, 0, 0, 0, 2, 2, 0, 0]
theorem dot_packed : Is (fun k => terrref5_Packed.f k [dot]) (dotB ++ fourL (adl dotB 1 0)) :=
  ⟨100, fun k hk => at_rounds (terrref5_Packed.mono [dot]) hk (by kernel_rfl)⟩
theorem dot_read : readSpec (dotB ++ fourL (adl dotB 1 0)) = ([dot], 0) := by
  have ht : textC 1 (⟨#[]⟩ : ByteArray) = 0 := by
    unfold textC
    rw [toList_data, if_neg (by decide), if_neg (by decide)]
    rfl
  have hd : draws [dot] = 0 := by
    unfold draws
    rw [if_neg (by decide)]
    show (if chk dot = 0 then (0 : Int) else chk dot) = 0
    have : chk dot = 0 := by
      unfold chk
      rw [if_neg (by decide), if_neg (by decide)]
      show (if textC 1 (⟨#[]⟩ : ByteArray) = 0 then tailC 1 [[⟨0, 0⟩]] else _) = 0
      rw [if_pos ht]
      decide
    rw [if_pos this]
  have e : rt (((dotB ++ fourL (adl dotB 1 0)).take 13).drop 3) = (1, [1, 0, 0, 0, 0, 2, 2, 0, 0], 0) := by kernel_rfl
  unfold readSpec
  rw [if_neg (by decide), if_neg (by decide), if_pos (by decide), if_pos (by kernel_rfl)]
  show (if (rt (((dotB ++ fourL (adl dotB 1 0)).take 13).drop 3)).2.2 = 0 then _ else _) = _
  have e2 : R ([1, 0, 0, 0, 0, 2, 2, 0, 0].drop (jump [1, 0, 0, 0, 0, 2, 2, 0, 0])) = ([[⟨0, 0⟩]], [], 0) := by kernel_rfl
  rw [show (dotB ++ fourL (adl dotB 1 0)).length - 4 = 13 from rfl, e, if_pos rfl, if_neg (by decide)]
  show rdAll 1 [1, 0, 0, 0, 0, 2, 2, 0, 0] [] = _
  unfold rdAll
  rw [if_neg (by decide), e2, if_pos rfl]
  have e3 : drawOf [1, 0, 0, 0, 0, 2, 2, 0, 0] = dot := by unfold drawOf; rw [e2]; rfl
  rw [e3]
  unfold rdAll
  rw [if_pos rfl]
  show (if draws [dot] = 0 then _ else _) = _
  rw [if_pos hd]; rfl
theorem packReads : terrlaw5_PackReads.Pure := by
  intro l0 h0 h1 hw
  obtain ⟨lim, hlim⟩ : ∃ lim : Nat, lim = 140737488355328 := ⟨_, rfl⟩
  have hB : Bytes l0 := fun x hx => by
    have := hw x hx
    simp only [Lit.wf, Bool.and_eq_true, decide_eq_true_eq] at this
    exact this
  obtain ⟨b1, b2⟩ := both lim hlim l0 hB
  have hdB : Bytes (dotB ++ fourL (adl dotB 1 0)) := fun x hx => by
    rcases List.mem_append.1 hx with hx | hx
    · simp [dotB] at hx; omega
    · exact four_bytes _ x hx
  have d1 := (both lim hlim _ hdB).1
  rw [dot_read] at d1
  have j0 : Is (fun k => terrlaw5_PackReads.j0 k l0 false) true := by
    refine Is.step (f := fun k => (pack_Read.f k l0).bind fun bt400 => ((terrref5_Unpacked.f k l0).bind fun bt404 => (if bt400.2 = bt404.2 then ((terrref5_SameDraws.f k bt400.1 bt404.1).bind fun t408 => (some t408)) else (some false)))) ?_ (fun k => by rw [terrlaw5_PackReads.j0, if_neg (show ¬ (false = true) by decide)])
    exact Is.bind b1 (Is.bind b2 (Is.pos rfl (Is.bind (same_is (read_right l0)) (Is.pure _))))
  have f : Is (fun k => terrlaw5_PackReads.f k l0) true := by
    unfold terrlaw5_PackReads.f
    exact Is.bind dot_packed (Is.bind d1 (Is.pos rfl j0))
  obtain ⟨K, hK⟩ := f
  exact ⟨K, hK K (Nat.le_refl _)⟩
end Go.Proofs.Ytjgoehhhjffpmaa.U
namespace Go.Proofs.Ytjgoehhhjffpmaa.Pure
/-- PackReads, plain. -/
theorem PackReads : Q.terrlaw5_PackReads.Pure := U.packReads
end Go.Proofs.Ytjgoehhhjffpmaa.Pure

