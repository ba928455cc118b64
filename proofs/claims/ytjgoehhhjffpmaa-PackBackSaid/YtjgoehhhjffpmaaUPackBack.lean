/- PackBack's pure statement: what is written is read back, and one byte changed is refused. No condition but the statement's own. -/
import Derived.Test.YtjgoehhhjffpmaaUPc
import Derived.Test.YtjgoehhhjffpmaaQf39
import Derived.Test.YtjgoehhhjffpmaaQPackBack
namespace Go.Proofs.Ytjgoehhhjffpmaa.U
open Go Go.RowKit Go.Proofs.Ytjgoehhhjffpmaa.Q Go.Proofs.YtjgoehhhjffpmaaW.PrintWords Go.Proofs.YtjgoehhhjffpmaaW.PrintLast Go.Proofs.YtjgoehhhjffpmaaW.PrintMore
set_option linter.unusedSimpArgs false
set_option linter.unusedVariables false
theorem xor8 (x y : Nat) (hx : x < 256) (hy : y < 256) : Go.bits .xor .u8 (x : Int) (y : Int) = ((x ^^^ y : Nat) : Int) := by
  have e : (BitVec.ofInt IntKind.u8.bits (x : Int) ^^^ BitVec.ofInt IntKind.u8.bits (y : Int)).toNat = x ^^^ y := by
    show (BitVec.ofInt 8 (x : Int) ^^^ BitVec.ofInt 8 (y : Int)).toNat = x ^^^ y
    rw [BitVec.ofInt_natCast, BitVec.ofInt_natCast, BitVec.toNat_xor, BitVec.toNat_ofNat, BitVec.toNat_ofNat, Nat.mod_eq_of_lt hx, Nat.mod_eq_of_lt hy]
  have hlt : x ^^^ y < 256 := Nat.xor_lt_two_pow (n := 8) hx hy
  unfold Go.bits
  dsimp only
  rw [e]
  show ((x ^^^ y : Nat) : Int) % 256 = _
  omega
theorem xor_byte {x y : Int} (hx : 0 ≤ x ∧ x ≤ 255) (hy : 0 ≤ y ∧ y ≤ 255) (h0 : y ≠ 0) : 0 ≤ Go.bits .xor .u8 x y ∧ Go.bits .xor .u8 x y ≤ 255 ∧ Go.bits .xor .u8 x y ≠ x := by
  obtain ⟨m, rfl⟩ : ∃ m : Nat, x = (m : Int) := ⟨x.toNat, by omega⟩
  obtain ⟨n, rfl⟩ : ∃ n : Nat, y = (n : Int) := ⟨y.toNat, by omega⟩
  rw [xor8 m n (by omega) (by omega)]
  have hlt : m ^^^ n < 256 := Nat.xor_lt_two_pow (n := 8) (by omega) (by omega)
  refine ⟨by omega, by omega, fun e => ?_⟩
  have e' : m ^^^ n = m := by omega
  have e2 : m ^^^ (m ^^^ n) = n := by rw [← Nat.xor_assoc, Nat.xor_self, Nat.zero_xor]
  rw [e', Nat.xor_self] at e2
  omega
theorem or32 (x y : Nat) (hx : x < 4294967296) (hy : y < 4294967296) : Go.bits .or .u32 (x : Int) (y : Int) = ((x ||| y : Nat) : Int) := by
  have e : (BitVec.ofInt IntKind.u32.bits (x : Int) ||| BitVec.ofInt IntKind.u32.bits (y : Int)).toNat = x ||| y := by
    show (BitVec.ofInt 32 (x : Int) ||| BitVec.ofInt 32 (y : Int)).toNat = x ||| y
    rw [BitVec.ofInt_natCast, BitVec.ofInt_natCast, BitVec.toNat_or, BitVec.toNat_ofNat, BitVec.toNat_ofNat, Nat.mod_eq_of_lt hx, Nat.mod_eq_of_lt hy]
  have hlt : x ||| y < 4294967296 := Nat.or_lt_two_pow (n := 32) hx hy
  unfold Go.bits
  dsimp only
  rw [e]
  show ((x ||| y : Nat) : Int) % 4294967296 = _
  omega
theorem sum_low {x y : Int} (hx : 0 ≤ x ∧ x < 65521) (hy : 0 ≤ y ∧ y < 65521) : (Go.bits .or .u32 ((y * 65536) % 4294967296) x) % 65536 = x := by
  obtain ⟨m, rfl⟩ : ∃ m : Nat, x = (m : Int) := ⟨x.toNat, by omega⟩
  obtain ⟨n, rfl⟩ : ∃ n : Nat, y = (n : Int) := ⟨y.toNat, by omega⟩
  have e : ((n : Int) * 65536) % 4294967296 = ((n * 65536 : Nat) : Int) := by omega
  rw [e, or32 (n * 65536) m (by omega) (by omega)]
  have h1 : n * 65536 ||| m = n * 65536 + m := by
    have := Nat.shiftLeft_add_eq_or_of_lt (b := m) (i := 16) (by omega) n
    rw [Nat.shiftLeft_eq] at this
    exact this.symm
  rw [h1]; omega
def sumB : List Int → Int
  | [] => 0
  | a :: r => a + sumB r
theorem sum_step {x r S s : Int} (hr : 0 ≤ r ∧ r ≤ 255) (hx : 0 ≤ x ∧ x < 65521) (h : s % 65536 = ((((x + (r % 4294967296)) % 4294967296) % 65521) + S) % 65521) : s % 65536 = (x + (r + S)) % 65521 := by omega
theorem sum_spec (b : List Int) (hb : b.length ≤ 900000) (hB : Bytes b) : ∀ (d i : Nat) (x y : Int), i + d = b.length → 0 ≤ x ∧ x < 65521 → 0 ≤ y ∧ y < 65521 → Tot (fun k => pack_Sum.l0 k x y b (b.length : Int) (i : Int)) (fun s => s % 65536 = (x + sumB (b.drop i)) % 65521)
  | 0, i, x, y, hi, hx, hy => Tot.step (f := fun _ => some (Go.bits .or .u32 ((y * 65536) % 4294967296) x)) (Tot.pure (by rw [sum_low hx hy, List.drop_of_length_le (by omega), sumB]; omega)) (fun k => by rw [pack_Sum.l0, if_neg (by omega)])
  | d + 1, i, x, y, hi, hx, hy => by
    have hlt : i < b.length := by omega
    have hr := bytes_rd hB hlt
    refine Tot.step ((sum_spec b hb hB d (i + 1) (((x + ((rd b (i : Int)) % 4294967296)) % 4294967296) % 65521) (((y + (((x + ((rd b (i : Int)) % 4294967296)) % 4294967296) % 65521)) % 4294967296) % 65521) (by omega) ⟨by omega, by omega⟩ ⟨by omega, by omega⟩).mono fun s h => ?_) (fun k => by rw [pack_Sum.l0, if_pos (by omega), if_pos (by omega), if_pos (by omega), nx1 (n := b.length) (by omega) (by omega)])
    rw [drop_at hlt, sumB]
    exact sum_step hr hx h
theorem sum_is {b : List Int} {s : Int} (hb : b.length ≤ 900000) (hB : Bytes b) (h : ∃ K, ∀ k, K ≤ k → pack_Sum.f k b = some s) : s % 65536 = (1 + sumB b) % 65521 := by
  obtain ⟨K, hK⟩ := h
  obtain ⟨r, hr, K', hK'⟩ := sum_spec b hb hB b.length 0 1 0 (by omega) ⟨by omega, by omega⟩ ⟨by omega, by omega⟩
  have e := (hK (max K K') (Nat.le_max_left _ _)).symm.trans (hK' (max K K') (Nat.le_max_right _ _))
  obtain rfl := Option.some.inj e
  rw [List.drop_zero] at hr
  exact hr
theorem sumB_set : ∀ (b : List Int) (j : Nat) (v : Int) (h : j < b.length), sumB (b.set j v) = sumB b - b[j] + v
  | [], j, v, h => absurd h (by simp)
  | a :: r, 0, v, h => by simp only [List.set_cons_zero, sumB, List.getElem_cons_zero]; omega
  | a :: r, j + 1, v, h => by
    have := sumB_set r j v (by simpa using h)
    simp only [List.set_cons_succ, sumB, List.getElem_cons_succ, this]; omega
theorem four_low {s t : Int} (h : fourL s = fourL t) : s % 65536 = t % 65536 := by
  unfold fourL at h
  injection h with h1 h; injection h with h2 h; injection h with h3 h; injection h with h4 h
  omega
theorem four_bytes (s : Int) : Bytes (fourL s) := by
  intro x hx
  unfold fourL at hx
  simp only [List.mem_cons, List.not_mem_nil, or_false] at hx
  omega
/-- One byte changed: what comes is no pack. -/
theorem changed {body body' : List Int} {s s' v : Int} {j : Nat} (hl : body.length ≤ 900000) (hB : Bytes body) (hs : ∃ K, ∀ k, K ≤ k → pack_Sum.f k body = some s) (hs' : ∃ K, ∀ k, K ≤ k → pack_Sum.f k body' = some s')
    (hj : j < (body ++ fourL s).length) (hv : 0 ≤ v ∧ v ≤ 255) (hne : v ≠ (body ++ fourL s)[j]) (e : (body ++ fourL s).set j v = body' ++ fourL s') : False := by
  have el := congrArg List.length e
  rw [List.length_set, List.length_append, List.length_append, show (fourL s).length = 4 from rfl, show (fourL s').length = 4 from rfl] at el
  rw [List.set_append] at e
  by_cases c : j < body.length
  · rw [if_pos c] at e
    obtain ⟨e1, e2⟩ := List.append_inj e (by rw [List.length_set]; omega)
    have hb : 0 ≤ body[j] ∧ body[j] ≤ 255 := hB _ (List.getElem_mem c)
    rw [List.getElem_append_left c] at hne
    have hB' : Bytes body' := by
      intro x hx
      rw [← e1] at hx
      rcases List.mem_or_eq_of_mem_set hx with h | h
      · exact hB x h
      · rw [h]; exact hv
    have q1 := sum_is hl hB hs
    have q2 := sum_is (b := body') (by omega) hB' hs'
    rw [← e1, sumB_set body j v c] at q2
    have q3 := four_low e2
    omega
  · rw [if_neg c] at e
    obtain ⟨e1, e2⟩ := List.append_inj e (by omega)
    subst e1
    obtain ⟨K, hK⟩ := hs
    obtain ⟨K', hK'⟩ := hs'
    obtain rfl := Option.some.inj ((hK (max K K') (Nat.le_max_left _ _)).symm.trans (hK' (max K K') (Nat.le_max_right _ _)))
    apply hne
    rw [List.getElem_append_right (by omega)]
    have h4 : j - body.length < ((fourL s).set (j - body.length) v).length := by rw [List.length_set]; show _ < 4; rw [List.length_append, show (fourL s).length = 4 from rfl] at hj; omega
    have : ((fourL s).set (j - body.length) v)[j - body.length] = v := List.getElem_set_self h4
    rw [← this]
    exact getElem_congr_coll e2
end Go.Proofs.Ytjgoehhhjffpmaa.U

namespace Go.Proofs.Ytjgoehhhjffpmaa.U
open Go Go.RowKit Go.Proofs.Ytjgoehhhjffpmaa.Q Go.Proofs.YtjgoehhhjffpmaaW.PrintWords Go.Proofs.YtjgoehhhjffpmaaW.PrintLast Go.Proofs.YtjgoehhhjffpmaaW.PrintMore
set_option linter.unusedSimpArgs false
set_option linter.unusedVariables false
theorem bytes_app {u v : List Int} (h : Bytes u) (h' : Bytes v) : Bytes (u ++ v) := fun x hx => (List.mem_append.1 hx).elim (h x) (h' x)
theorem len_in {n : Nat} (h : n ≤ 100000) : In (n : Int) := ⟨by omega, by omega⟩
theorem encPb (r : List S44) : ∀ x y, Bytes (encP x y r) := by
  induction r with
  | nil => intro x y z hz; cases hz
  | cons q r ih => intro x y; exact bytes_app (enc_bytes (in_wrap _)) (bytes_app (enc_bytes (in_wrap _)) (ih _ _))
theorem encLb (r : List (List S44)) : ∀ x y, tot r ≤ 20000 → Bytes (encL x y r) := by
  induction r with
  | nil => intro x y _ z hz; cases hz
  | cons l r ih =>
    intro x y h
    rw [tot] at h
    exact bytes_app (enc_bytes (len_in (by omega))) (bytes_app (encPb _ _ _) (ih _ _ (by omega)))
theorem encAb (ls : List (List S44)) (hp : ls.length ≤ 1000) (ht : tot ls ≤ 20000) : Bytes (encAll ls) := bytes_app (enc_bytes (len_in (by omega))) (encLb ls 0 0 ht)
theorem strb (s : ByteArray) : Bytes (bytesOf s) := by
  intro x hx
  unfold bytesOf at hx
  obtain ⟨b, _, rfl⟩ := List.mem_map.1 hx
  have := b.toNat_lt
  omega
theorem encDb {d : S48} (h : GD d) : Bytes (encD d) := by
  unfold encD
  intro x hx
  simp only [List.mem_cons] at hx
  rcases hx with h1 | h1 | h1 | h1 | h1 | h1
  · omega
  · omega
  · omega
  · omega
  · omega
  · exact bytes_app (strb _) (encAb _ h.1 h.2.1) x h1
theorem encDsb : ∀ (ds : List S48), (∀ d ∈ ds, GD d) → Bytes (encDs ds)
  | [], _ => fun x hx => (by cases hx)
  | d :: r, h => bytes_app (encDb (h d (by simp))) (encDsb r fun x hx => h x (by simp [hx]))
theorem bodyb (ds : List S48) (hn : ds.length ≤ 500) (h : ∀ d ∈ ds, GD d) : Bytes (bodyOf ds) := by
  unfold bodyOf
  refine bytes_app (fun x hx => ?_) (bytes_app (enc_bytes (len_in (by omega))) (encDsb ds h))
  simp only [List.mem_cons, List.not_mem_nil, or_false] at hx
  omega
theorem vd_inL {d : S48} (h : VD d) : InL d.f4 := by
  intro p hp q hq
  have := (h.part p hp).2.2.2.2.2 q hq
  unfold VP at this
  exact ⟨⟨by omega, by omega⟩, ⟨by omega, by omega⟩⟩
theorem str_back (s : ByteArray) : strOfNums (bytesOf s) = s := by
  have h1 := bytes_str (bytesOf s) (strb s)
  have h2 : (strOfNums (bytesOf s)).data.toList = s.data.toList := by
    unfold bytesOf at h1 ⊢
    exact (List.map_inj_right (fun a b (e : (a.toNat : Int) = (b.toNat : Int)) => UInt8.toNat_inj.1 (by omega))).1 h1
  exact ByteArray.ext (Array.toList_inj.1 h2)
theorem one_core (lim : Nat) (hlim : lim = 140737488355328) (b0 b1 b2 b3 : Int) (s : ByteArray) (ps : List (List S44)) (rest t : List Int) (n : Nat) (h0 : 0 ≤ b0 ∧ b0 ≤ 255) (h1 : 0 ≤ b1 ∧ b1 ≤ 255) (h2 : 0 ≤ b2 ∧ b2 ≤ 255) (h3 : 0 ≤ b3 ∧ b3 ≤ 255) (h4 : 0 ≤ (n : Int) ∧ (n : Int) ≤ 255) (hbt : Bytes (t.drop n)) (hl : t.length ≤ 65536) (hn : n ≤ t.length)
    (hR : R (t.drop n) = (ps, rest, 0)) (hs : strOfNums (t.take n) = s) : Tot (fun k => pack_one.f k (b0 :: b1 :: b2 :: b3 :: (n : Int) :: t)) (fun r => r = (b0, b1, b2, b3, ps, s, rest, 0)) := by
  have hlen : (b0 :: b1 :: b2 :: b3 :: (n : Int) :: t).length = t.length + 5 := rfl
  have r0 : wrap64 (rd (b0 :: b1 :: b2 :: b3 :: (n : Int) :: t) 0) = b0 := byte_wrap h0
  have r1 : wrap64 (rd (b0 :: b1 :: b2 :: b3 :: (n : Int) :: t) 1) = b1 := byte_wrap h1
  have r2 : wrap64 (rd (b0 :: b1 :: b2 :: b3 :: (n : Int) :: t) 2) = b2 := byte_wrap h2
  have r3 : wrap64 (rd (b0 :: b1 :: b2 :: b3 :: (n : Int) :: t) 3) = b3 := byte_wrap h3
  have r4 : wrap64 (rd (b0 :: b1 :: b2 :: b3 :: (n : Int) :: t) 4) = (n : Int) := byte_wrap h4
  have r5 : wrap64 (5 + (n : Int)) = ((5 + n : Nat) : Int) := five_wrap n h4
  have d1 : (b0 :: b1 :: b2 :: b3 :: (n : Int) :: t).drop (5 + n) = t.drop n := by rw [Nat.add_comm]; rfl
  have d2 : ((b0 :: b1 :: b2 :: b3 :: (n : Int) :: t).take (5 + n)).drop 5 = t.take n := by rw [Nat.add_comm]; rfl
  unfold pack_one.f
  rw [r0, r1, r2, r3, r4, r5, Int.toNat_natCast, d1, d2, hlen, hs]
  clear r0 r1 r2 r3 r4 r5 d1 d2 hs
  have hRr : Tot (fun k => delta_Read.f k (t.drop n)) (fun r => r = (ps, rest, 0)) := ⟨_, hR, 40, fun k hk => read_R lim hlim (t.drop n) hbt (by rw [List.length_drop]; omega) k hk⟩
  clear hR hbt h0 h1 h2 h3
  refine Tot.ite (fun c => absurd c (by omega)) (fun _ => ?_)
  refine Tot.ite (fun _ => ?_) (fun c => absurd (by omega) c)
  refine Tot.ite (fun c => absurd c (by omega)) (fun cn => ?_)
  refine Tot.ite (fun _ => ?_) (fun c => absurd (by omega) c)
  refine Tot.ite (fun _ => ?_) (fun c => absurd (by omega) c)
  refine Tot.ite (fun _ => ?_) (fun c => absurd (by omega) c)
  refine Tot.ite (fun _ => ?_) (fun c => absurd (by omega) c)
  refine Tot.ite (fun _ => ?_) (fun c => absurd (by omega) c)
  refine Tot.ite (fun _ => ?_) (fun c => absurd (by omega) c)
  refine Tot.ite (fun _ => ?_) (fun c => absurd (by omega) c)
  exact Tot.bind hRr (fun r hr => Tot.pure (by rw [hr]))
/-- One command, read back. -/
theorem one_fwd (lim : Nat) (hlim : lim = 140737488355328) (d : S48) (rest : List Int) (hV : VD d) (hG : GD d) (hr : Bytes rest) (hl : (encD d ++ rest).length ≤ 65536) : Tot (fun k => pack_one.f k (encD d ++ rest)) (fun r => r = (d.f0, d.f1, d.f2, d.f3, d.f4, d.f5, rest, 0)) := by
  have v0 := hV.kind
  have v1 := hV.layer
  have v2 := hV.color
  have v3 := hV.width
  have g3 := hG.2.2
  have hbt : Bytes (encAll d.f4 ++ rest) := bytes_app (encAb _ hG.1 hG.2.1) hr
  have e : encD d ++ rest = d.f0 :: d.f1 :: d.f2 :: d.f3 :: (d.f5.size : Int) :: (bytesOf d.f5 ++ (encAll d.f4 ++ rest)) := by
    unfold encD
    rw [show d.f0 % 256 = d.f0 by omega, show d.f1 % 256 = d.f1 by omega, show d.f2 % 256 = d.f2 by omega, show d.f3 % 256 = d.f3 by omega, show (d.f5.size : Int) % 256 = (d.f5.size : Int) by omega]
    simp only [List.cons_append, List.append_assoc]
  have hbl := bytesOf_length d.f5
  rw [e] at hl ⊢
  have k1 : (bytesOf d.f5 ++ (encAll d.f4 ++ rest)).take d.f5.size = bytesOf d.f5 := by rw [← hbl]; exact List.take_left
  have k2 : (bytesOf d.f5 ++ (encAll d.f4 ++ rest)).drop d.f5.size = encAll d.f4 ++ rest := by rw [← hbl]; exact List.drop_left
  have hl2 : (bytesOf d.f5 ++ (encAll d.f4 ++ rest)).length ≤ 65536 := by simp only [List.length_cons] at hl; omega
  have hl3 : d.f5.size ≤ (bytesOf d.f5 ++ (encAll d.f4 ++ rest)).length := by rw [List.length_append]; omega
  exact one_core lim hlim d.f0 d.f1 d.f2 d.f3 d.f5 d.f4 rest _ d.f5.size ⟨by omega, by omega⟩ ⟨by omega, by omega⟩ ⟨by omega, by omega⟩ ⟨by omega, by omega⟩ ⟨by omega, by omega⟩ (by rw [k2]; exact hbt) hl2 hl3 (by rw [k2]; exact R_fwd d.f4 rest (vd_inL hV) hG.1 hG.2.1) (by rw [k1]; exact str_back d.f5)
theorem loop_fwd (lim : Nat) (hlim : lim = 140737488355328) (many : Nat) (hm : many ≤ 500) : ∀ (ds : List S48) (i : Nat) (acc : List S48), i + ds.length = many → (∀ d ∈ ds, VD d ∧ GD d) → (∀ d ∈ acc, VD d) → acc.length ≤ i → (encDs ds).length ≤ 65536 → acc.length + ds.length ≤ 500 → Tot (fun k => pack_Read.l0 k (encDs ds) acc (many : Int) (i : Int)) (fun r => r = (acc ++ ds, 0))
  | [], i, acc, hi, hd, hacc, ha, hl, h5 => by
    refine Tot.step (f := fun k => if (([] : List Int).length : Int) > 0 then (some (([] : List (S48)), 3)) else ((pack_All.f k acc).bind fun t255 => (if t255 = 0 then (some (acc, 0)) else (some (([] : List (S48)), t255))))) ?_ (fun k => by rw [encDs, pack_Read.l0, if_neg (by simp only [List.length_nil] at hi; omega)])
    refine Tot.ite (fun c => absurd c (by simp)) (fun c => ?_)
    refine Tot.bind (all_tot acc) (fun t' ht => Tot.ite (fun c0 => Tot.pure (by rw [List.append_nil])) (fun c0 => absurd (ht.2 (by simp only [List.length_nil] at h5; omega) hacc) c0))
  | d :: ds, i, acc, hi, hd, hacc, ha, hl, h5 => by
    rw [List.length_cons] at hi h5
    refine Tot.step (f := fun k => (pack_one.f k (encD d ++ encDs ds)).bind fun bt239 => (if bt239.2.2.2.2.2.2.2 = 0 then (if acc.length < 1954687338268 then (pack_Read.l0 k bt239.2.2.2.2.2.2.1 (acc ++ [(⟨bt239.1, bt239.2.1, bt239.2.2.1, bt239.2.2.2.1, bt239.2.2.2.2.1, bt239.2.2.2.2.2.1⟩ : S48)]) (many : Int) ((i + 1 : Nat) : Int)) else (none)) else (some (([] : List (S48)), bt239.2.2.2.2.2.2.2)))) ?_ (fun k => by rw [encDs, pack_Read.l0, if_pos (by omega), nx1 (n := many) (by omega) (by omega)])
    rw [encDs] at hl
    have hd1 := hd d (by simp)
    refine Tot.bind (one_fwd lim hlim d (encDs ds) hd1.1 hd1.2 (encDsb ds fun x hx => (hd x (by simp [hx])).2) hl) (fun r hr => ?_)
    subst hr
    refine Tot.ite (fun c => Tot.ite (fun _ => ?_) (fun c2 => absurd (by omega) c2)) (fun c => absurd rfl c)
    rw [List.length_append] at hl
    refine (loop_fwd lim hlim many hm ds (i + 1) (acc ++ [d]) (by omega) (fun x hx => hd x (by simp [hx])) (fun x hx => ?_) (by rw [List.length_append, List.length_singleton]; omega) (by omega) (by rw [List.length_append, List.length_singleton]; omega)).mono fun r' h' => ?_
    · rcases List.mem_append.1 hx with h | h
      · exact hacc x h
      · obtain rfl := List.mem_singleton.1 h; exact hd1.1
    · rw [h', List.append_assoc]; rfl
end Go.Proofs.Ytjgoehhhjffpmaa.U

namespace Go.Proofs.Ytjgoehhhjffpmaa.U
open Go Go.RowKit Go.Proofs.Ytjgoehhhjffpmaa.Q Go.Proofs.YtjgoehhhjffpmaaW.PrintWords Go.Proofs.YtjgoehhhjffpmaaW.PrintLast Go.Proofs.YtjgoehhhjffpmaaW.PrintMore
set_option linter.unusedSimpArgs false
set_option linter.unusedVariables false
theorem below_in (x n : Int) (hn : 0 < n) (hb : n ≤ 4611686018427387904) : ∃ r, terrmake_Below.f x n = some r ∧ 0 ≤ r ∧ r < n := by
  have h1 : Int.tmod x n < n := Int.tmod_lt_of_pos x (by omega)
  have h2 : -n < Int.tmod x n := by have := Int.lt_tmod_of_pos x (b := n) (by omega); omega
  unfold terrmake_Below.f
  rw [if_neg (by omega)]
  generalize Int.tmod x n = y at h1 h2
  by_cases c : y < 0
  · exact ⟨y + n, by rw [if_pos c, wrap_id (by omega) (by omega)], by omega, by omega⟩
  · exact ⟨y, by rw [if_neg c], by omega, h1⟩
theorem head_data : (strOfNums [77, 84, 49]).toList = ([77, 84, 49] : List UInt8) := by
  rw [toList_data]
  unfold strOfNums
  decide
theorem read_fwd (lim : Nat) (hlim : lim = 140737488355328) (ds : List S48) (s : Int) (hn : ds.length ≤ 500) (hd : ∀ d ∈ ds, VD d ∧ GD d) (hl : (bodyOf ds).length ≤ 65532) (h4 : 4 ≤ (bodyOf ds).length) (hs : ∃ K, ∀ k, K ≤ k → pack_Sum.f k (bodyOf ds) = some s) :
    Tot (fun k => pack_Read.f k (bodyOf ds ++ fourL s)) (fun r => r = (ds, 0)) := by
  have hB := bodyb ds hn fun d h => (hd d h).2
  have hlen : (bodyOf ds ++ fourL s).length = (bodyOf ds).length + 4 := by rw [List.length_append]; rfl
  have hb3 : (bodyOf ds).drop 3 = enc (ds.length : Int) ++ encDs ds := rfl
  have ht3 : (bodyOf ds ++ fourL s).take 3 = [77, 84, 49] := by rw [List.take_append_of_le_length (by omega)]; rfl
  have w : wrap64 (((bodyOf ds ++ fourL s).length : Int) - 4) = (((bodyOf ds).length : Nat) : Int) := by rw [hlen, wrap_id (by omega) (by omega)]; omega
  have k1 : (bodyOf ds ++ fourL s).take (bodyOf ds).length = bodyOf ds := List.take_left
  have k2 : (bodyOf ds ++ fourL s).drop (bodyOf ds).length = fourL s := List.drop_left
  have hEl : (encDs ds).length ≤ 65536 := by
    have : (bodyOf ds).length = 3 + ((enc (ds.length : Int)).length + (encDs ds).length) := by unfold bodyOf; rw [List.length_append, List.length_append]; rfl
    omega
  have hbb : Bytes (enc (ds.length : Int) ++ encDs ds) := bytes_app (enc_bytes (len_in (by omega))) (encDsb ds fun d h => (hd d h).2)
  have hdl : (enc (ds.length : Int) ++ encDs ds).length < lim := by rw [← hb3, List.length_drop]; omega
  unfold pack_Read.f
  rw [w, Int.toNat_natCast, ht3, k1, k2, hb3]
  clear w ht3 k1 k2 hb3
  refine Tot.ite (fun c => absurd c (by omega)) (fun _ => Tot.ite (fun c => absurd c (by omega)) (fun _ => ?_))
  refine Tot.ite (fun _ => Tot.ite (fun _ => Tot.ite (fun _ => Tot.ite (fun _ => ?_) (fun c => absurd (by omega) c)) (fun c => absurd (by omega) c)) (fun c => absurd head_data c)) (fun c => absurd (by omega) c)
  obtain ⟨Ks, hK⟩ := hs
  refine Tot.bind (P := fun t => t = s) ⟨s, rfl, Ks, hK⟩ (fun t ht => Tot.bind (P := fun f => f = fourL s) (Tot.pure (by rw [ht]; rfl)) (fun f hf => ?_))
  subst hf
  refine Tot.bind (eqb_same (fourL s) (by show 4 ≤ 900000; omega)) (fun q hq => Tot.ite (fun _ => ?_) (fun c => absurd hq c))
  refine Tot.ite (fun _ => ?_) (fun c => absurd (by omega) c)
  refine Tot.bind (P := fun r => r = ((ds.length : Int), encDs ds, 0)) ⟨_, ?_, 40, fun k hk => take_rt lim hlim _ hbb hdl k hk⟩ (fun r hr => ?_)
  · have hin : In (ds.length : Int) := len_in (by omega)
    unfold rt
    rw [rt_enc hin (encDs ds), if_pos rfl]
    show (unzig (zig (ds.length : Int)).toNat, encDs ds, (0 : Int)) = _
    rw [unzig_zig _ hin.1 hin.2]
  subst hr
  refine Tot.ite (fun _ => ?_) (fun c => absurd rfl c)
  refine Tot.ite (fun c => absurd (show ¬ ((ds.length : Int) < 0) by omega) (fun h => h c)) (fun _ => ?_)
  show Tot (fun k => pack_Read.j0 k (ds.length : Int) (encDs ds) (decide ((ds.length : Int) > 500))) _
  rw [show decide ((ds.length : Int) > 500) = false from decide_eq_false (by omega)]
  refine Tot.step (f := fun k => pack_Read.l0 k (encDs ds) ([] : List (S48)) (ds.length : Int) 0) ?_ (fun k => by rw [pack_Read.j0, if_neg (by decide)])
  exact (loop_fwd lim hlim ds.length hn ds 0 [] (by omega) hd (fun d h => (by cases h)) (Nat.zero_le _) hEl (by rw [List.length_nil]; omega)).mono fun r h => by rw [h]; rfl
/-! ### the same -/
theorem same24 (l : List S44) (hl : l.length ≤ 900000) : ∀ (d i : Nat), i + d = l.length → Tot (fun k => api_Point_24.l0 k l l (l.length : Int) (i : Int)) (fun t => t = true)
  | 0, i, hi => Tot.step (f := fun _ => some true) (Tot.pure rfl) (fun k => by rw [api_Point_24.l0, if_neg (by omega)])
  | d + 1, i, hi => Tot.step (same24 l hl d (i + 1) (by omega)) (fun k => by rw [api_Point_24.l0, if_pos (by omega), if_pos (by omega), if_pos (by omega), if_pos (by omega), if_neg (by simp), nx1 (n := l.length) (by omega) (by omega)])
theorem same23 (l : List (List S44)) (hl : l.length ≤ 900000) (hp : ∀ p ∈ l, p.length ≤ 900000) : ∀ (d i : Nat), i + d = l.length → Tot (fun k => api_Point_23.l0 k l l (l.length : Int) (i : Int)) (fun t => t = true)
  | 0, i, hi => Tot.step (f := fun _ => some true) (Tot.pure rfl) (fun k => by rw [api_Point_23.l0, if_neg (by omega)])
  | d + 1, i, hi => by
    have hlt : i < l.length := by omega
    refine Tot.step (f := fun k => (api_Point_24.f k (rd_L4 l (i : Int)) (rd_L4 l (i : Int))).bind fun t192 => (if t192 = true then (api_Point_23.l0 k l l (l.length : Int) ((i + 1 : Nat) : Int)) else (some false))) ?_ (fun k => by rw [api_Point_23.l0, if_pos (by omega), if_pos (by omega), if_pos (by omega), if_pos (by omega), nx1 (n := l.length) (by omega) (by omega)])
    rw [rdL_at hlt]
    have h24 : Tot (fun k => api_Point_24.f k l[i] l[i]) (fun t => t = true) := by
      unfold api_Point_24.f
      exact Tot.ite (fun _ => same24 l[i] (hp _ (List.getElem_mem hlt)) l[i].length 0 (by omega)) (fun c => absurd rfl c)
    exact Tot.bind h24 (fun t ht => Tot.ite (fun _ => same23 l hl hp d (i + 1) (by omega)) (fun c => absurd ht c))
theorem same39 (l : List S48) (hl : l.length ≤ 900000) (hp : ∀ x ∈ l, x.f4.length ≤ 900000 ∧ ∀ p ∈ x.f4, p.length ≤ 900000) : ∀ (d i : Nat), i + d = l.length → Tot (fun k => api_Draw.l0 k l l (l.length : Int) (i : Int)) (fun t => t = true)
  | 0, i, hi => Tot.step (f := fun _ => some true) (Tot.pure rfl) (fun k => by rw [api_Draw.l0, if_neg (by omega)])
  | d + 1, i, hi => by
    have hlt : i < l.length := by omega
    refine Tot.step (f := fun k => (pack_Same.f k ((rd_T48 l (i : Int)).f0) ((rd_T48 l (i : Int)).f1) ((rd_T48 l (i : Int)).f2) ((rd_T48 l (i : Int)).f3) ((rd_T48 l (i : Int)).f4) ((rd_T48 l (i : Int)).f5) ((rd_T48 l (i : Int)).f0) ((rd_T48 l (i : Int)).f1) ((rd_T48 l (i : Int)).f2) ((rd_T48 l (i : Int)).f3) ((rd_T48 l (i : Int)).f4) ((rd_T48 l (i : Int)).f5)).bind fun t272 => (if t272 = true then (api_Draw.l0 k l l (l.length : Int) ((i + 1 : Nat) : Int)) else (some false))) ?_ (fun k => by rw [api_Draw.l0, if_pos (by omega), if_pos (by omega), if_pos (by omega), if_pos (by omega), nx1 (n := l.length) (by omega) (by omega)])
    rw [rd48_at hlt]
    have hx := hp _ (List.getElem_mem hlt)
    generalize l[i] = x at hx
    have h28 : Tot (fun k => pack_Same.f k x.f0 x.f1 x.f2 x.f3 x.f4 x.f5 x.f0 x.f1 x.f2 x.f3 x.f4 x.f5) (fun t => t = true) := by
      unfold pack_Same.f
      refine Tot.ite (fun _ => Tot.ite (fun _ => Tot.ite (fun _ => Tot.ite (fun _ => Tot.ite (fun _ => ?_) (fun c => absurd rfl c)) (fun c => absurd rfl c)) (fun c => absurd rfl c)) (fun c => absurd rfl c)) (fun c => absurd rfl c)
      have h23 : Tot (fun k => api_Point_23.f k x.f4 x.f4) (fun t => t = true) := by
        unfold api_Point_23.f
        exact Tot.ite (fun _ => same23 x.f4 hx.1 hx.2 x.f4.length 0 (by omega)) (fun c => absurd rfl c)
      exact Tot.bind h23 (fun t ht => Tot.pure ht)
    exact Tot.bind h28 (fun t ht => Tot.ite (fun _ => same39 l hl hp d (i + 1) (by omega)) (fun c => absurd ht c))
/-! ### the law -/
theorem back_j1 (lim : Nat) (hlim : lim = 140737488355328) (x y : Int) (hy : 0 ≤ y ∧ y ≤ 255) (body : List Int) (s : Int) (h4 : 4 ≤ body.length) (hl : body.length ≤ 65532) (hB : Bytes body) (hs : ∃ K, ∀ k, K ≤ k → pack_Sum.f k body = some s) :
    Tot (fun k => terrkeep5_PackBack.j1 k x y (body ++ fourL s) false) (fun t => t = true) := by
  have hlen : (body ++ fourL s).length = body.length + 4 := by rw [List.length_append]; rfl
  have hBb : Bytes (body ++ fourL s) := bytes_app hB (four_bytes s)
  have hchg : ∀ (j : Nat) (v s' : Int) (body' : List Int), j < (body ++ fourL s).length → 0 ≤ v ∧ v ≤ 255 → v ≠ rd (body ++ fourL s) (j : Int) → (∃ K, ∀ k, K ≤ k → pack_Sum.f k body' = some s') → (body ++ fourL s).set j v = body' ++ fourL s' → False := by
    intro j v s' body' hj hv hne hs' e
    exact changed (by omega) hB hs hs' hj hv (by rw [← rd_at hj]; exact hne) e
  generalize body ++ fourL s = b at *
  obtain ⟨r, e, r0, r1⟩ := below_in x (b.length : Int) (by omega) (by omega)
  refine Tot.step (f := fun k => if y = 0 then (some true) else ((slices_Clone_byte_byte.f b).bind fun t295 => ((terrmake_Below.f x (t295.length : Int)).bind fun t298 => (if 0 ≤ t298 then (if t298 < (t295.length : Int) then ((pack_Read.f k (t295.set (t298 : Int).toNat (Go.bits .xor .u8 (rd t295 t298) y))).bind fun bt301 => (some (bt301.2 != 0))) else (none)) else (none))))) ?_ (fun k => by rw [terrkeep5_PackBack.j1, if_neg (by decide)])
  refine Tot.ite (fun _ => Tot.pure rfl) (fun cy => ?_)
  have hcl : slices_Clone_byte_byte.f b = some b := by
    unfold slices_Clone_byte_byte.f
    rw [Option.bind_some, if_pos (by rw [List.length_nil, ← hlim]; omega), List.nil_append]
  rw [hcl]
  refine Tot.bind (P := fun t => t = b) (Tot.pure rfl) (fun t ht => ?_)
  subst ht
  rw [e]
  refine Tot.bind (P := fun q => q = r) (Tot.pure rfl) (fun q hq => ?_)
  subst hq
  refine Tot.ite (fun _ => Tot.ite (fun _ => ?_) (fun c => absurd r1 c)) (fun c => absurd r0 c)
  obtain ⟨j, rfl⟩ : ∃ j : Nat, q = (j : Int) := ⟨q.toNat, (Int.toNat_of_nonneg r0).symm⟩
  rw [Int.toNat_natCast]
  have hj : j < t.length := by omega
  have hx := xor_byte (bytes_rd hBb hj) hy cy
  have hBs : Bytes (t.set j (Go.bits .xor .u8 (rd t (j : Int)) y)) := by
    intro z hz
    rcases List.mem_or_eq_of_mem_set hz with h | h
    · exact hBb z h
    · rw [h]; exact ⟨hx.1, hx.2.1⟩
  refine Tot.bind (read_tot lim hlim _ hBs) (fun p hp => Tot.pure ?_)
  by_cases c : p.2 = 0
  · obtain ⟨s', _, _, _, g4, g5, _⟩ := hp c
    exact (hchg j _ s' (bodyOf p.1) hj ⟨hx.1, hx.2.1⟩ hx.2.2 g4 g5).elim
  · simpa using c
theorem tot_ge : ∀ (ls : List (List S44)) (p : List S44), p ∈ ls → p.length ≤ tot ls
  | [], p, h => by cases h
  | l :: r, p, h => by
    rw [tot]
    rcases List.mem_cons.1 h with rfl | h
    · omega
    · have := tot_ge r p h; omega
theorem back_j0 (lim : Nat) (hlim : lim = 140737488355328) (l : List Int) (x y : Int) (hy : 0 ≤ y ∧ y ≤ 255) : Tot (fun k => terrkeep5_PackBack.j0 k l x y false) (fun t => t = true) := by
  obtain ⟨s, hw, h4, h800, hs⟩ := draws_write lim hlim l
  obtain ⟨d1, d2⟩ := drawsL_ok l
  refine Tot.step (f := fun k => (some (drawsL l)).bind fun t283 => ((pack_Write.f k t283).bind fun bt286 => (if bt286.2 = 0 then ((pack_Read.f k bt286.1).bind fun bt290 => (if bt290.2 = 0 then ((api_Draw.f k bt290.1 t283).bind fun t294 => (terrkeep5_PackBack.j1 k x y bt286.1 (!t294))) else (terrkeep5_PackBack.j1 k x y bt286.1 true))) else (some false)))) ?_ (fun k => by rw [terrkeep5_PackBack.j0, if_neg (by decide), drawsL_eq])
  refine Tot.bind (P := fun t => t = drawsL l) (Tot.pure rfl) (fun t ht => ?_)
  subst ht
  refine Tot.bind hw (fun r hr => ?_)
  subst hr
  refine Tot.ite (fun _ => ?_) (fun q => absurd rfl q)
  refine Tot.bind (read_fwd lim hlim (drawsL l) s (by omega) (fun d h => ⟨(d2 d h).1, (d2 d h).2.1⟩) (by omega) h4 hs) (fun r hr => ?_)
  subst hr
  refine Tot.ite (fun _ => ?_) (fun q => absurd rfl q)
  have h39 : Tot (fun k => api_Draw.f k (drawsL l) (drawsL l)) (fun t => t = true) := by
    unfold api_Draw.f
    refine Tot.ite (fun _ => same39 (drawsL l) (by omega) (fun d h => ?_) (drawsL l).length 0 (by omega)) (fun c => absurd rfl c)
    have g := (d2 d h).2.1
    exact ⟨by have := g.1; omega, fun p hp => by have := tot_ge d.f4 p hp; have := g.2.1; omega⟩
  refine Tot.bind h39 (fun t ht => ?_)
  subst ht
  exact back_j1 lim hlim x y hy (bodyOf (drawsL l)) s h4 (by omega) (bodyb _ (by omega) fun d h => (d2 d h).2.1) hs
theorem packback (lim : Nat) (hlim : lim = 140737488355328) (l : List Int) (x y : Int) (hy : 0 ≤ y ∧ y ≤ 255) : Tot (fun k => terrkeep5_PackBack.f k l x y) (fun t => t = true) := by
  have hb0 : (bodyOf []).length = 4 := by
    unfold bodyOf
    rw [show enc (([] : List S48).length : Int) = [0] from dg_lo (by decide)]; rfl
  obtain ⟨s, _, Ks⟩ := sum_tot (bodyOf []) (by omega)
  obtain ⟨t, ht, Ka⟩ := all_tot []
  have ht0 := ht.2 (by simp) (fun d hd => (by cases hd))
  subst ht0
  unfold terrkeep5_PackBack.f
  refine Tot.bind (write_tot lim hlim [] (by simp) (fun d hd => (by cases hd)) Ka (by omega) s Ks) (fun r hr => ?_)
  subst hr
  refine Tot.ite (fun _ => ?_) (fun q => absurd rfl q)
  have hl8 : (((bodyOf [] ++ fourL s).length : Int) != 8) = false := by
    rw [List.length_append, hb0]; rfl
  show Tot (fun k => terrkeep5_PackBack.j0 k l x y (((bodyOf [] ++ fourL s).length : Int) != 8)) _
  rw [hl8]
  exact back_j0 lim hlim l x y hy
end Go.Proofs.Ytjgoehhhjffpmaa.U
namespace Go.Proofs.Ytjgoehhhjffpmaa.Pure
open Go.RowKit Go.Proofs.Ytjgoehhhjffpmaa.Q
theorem PackBack : terrkeep5_PackBack.Pure := by
  intro l0 a1 a2 _ _ hw _ h2
  obtain ⟨t, rfl, K, hK⟩ := U.packback 140737488355328 rfl l0 a1 a2 (by
    simp only [Lit.wf, Bool.and_eq_true, decide_eq_true_eq] at h2
    exact h2)
  exact ⟨K, hK K (Nat.le_refl _)⟩
end Go.Proofs.Ytjgoehhhjffpmaa.Pure
