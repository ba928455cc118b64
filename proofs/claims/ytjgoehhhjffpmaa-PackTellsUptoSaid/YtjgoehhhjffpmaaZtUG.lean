/- Plain facts on reading and writing lists of points. Conditions: stated at each. -/
import Derived.Test.YtjgoehhhjffpmaaZtUF
import Derived.Test.YtjgoehhhjffpmaaZtQ0
import Derived.Test.YtjgoehhhjffpmaaZtQf20
namespace Go.Proofs.Ytjgoehhhjffpmaa.U
open Go.RowKit Go.Proofs.Ytjgoehhhjffpmaa.Q Go.Proofs.YtjgoehhhjffpmaaW.PrintWords Go.Proofs.YtjgoehhhjffpmaaW.PrintLast Go.Proofs.YtjgoehhhjffpmaaW.PrintMore
set_option linter.unusedSimpArgs false
set_option linter.unusedVariables false

/-- Two numbers, one after the other. -/
def rn2 (b : List Int) : Int × Int × List Int × Int := if (rn b).2.2 = 0 then ((rn b).1, (rn (rn b).2.1).1, (rn (rn b).2.1).2.1, (rn (rn b).2.1).2.2) else (0, 0, (rn b).2.1, (rn b).2.2)
/-- What reading m points comes to. -/
def P1 : Nat → List Int → Int → Int → List S44 → Int × List Int × Int × Int × List S44
  | 0, b, x, y, l => (0, b, x, y, l)
  | m + 1, b, x, y, l => if (rn2 b).2.2.2 = 0 then P1 m (rn2 b).2.2.1 (wrap64 (x + (rn2 b).1)) (wrap64 (y + (rn2 b).2.1)) (l ++ [(⟨wrap64 (x + (rn2 b).1), wrap64 (y + (rn2 b).2.1)⟩ : S44)]) else ((rn2 b).2.2.2, (rn2 b).2.2.1, wrap64 (x + (rn2 b).1), wrap64 (y + (rn2 b).2.1), l)
/-- Points' bytes, from the point (x, y) on. -/
def encP : Int → Int → List S44 → List Int
  | _, _, [] => []
  | x, y, q :: r => enc (wrap64 (q.f0 - x)) ++ (enc (wrap64 (q.f1 - y)) ++ encP q.f0 q.f1 r)
def after : Int → Int → List S44 → Int × Int
  | x, y, [] => (x, y)
  | _, _, q :: r => after q.f0 q.f1 r
theorem in_wrap (x : Int) : In (wrap64 x) := by unfold In wrap64; omega
/-- How many there are. -/
def rm (b : List Int) (most : Int) : Int × List Int × Int := if (rn b).2.2 = 0 then (if (rn b).1 < 0 ∨ (rn b).1 > most then (0, (rn b).2.1, 2) else ((rn b).1, (rn b).2.1, 0)) else (0, (rn b).2.1, (rn b).2.2)
/-- What reading m lists comes to. -/
def P0 : Nat → List Int → Int → Int → Int → List (List S44) → Int × List Int × List (List S44)
  | 0, b, _, _, _, out => (0, b, out)
  | m + 1, b, x, y, all, out => if (rm b (20000 - all)).2.2 = 0 then
      (if (P1 (rm b (20000 - all)).1.toNat (rm b (20000 - all)).2.1 x y []).1 = 0 then P0 m (P1 (rm b (20000 - all)).1.toNat (rm b (20000 - all)).2.1 x y []).2.1 (P1 (rm b (20000 - all)).1.toNat (rm b (20000 - all)).2.1 x y []).2.2.1 (P1 (rm b (20000 - all)).1.toNat (rm b (20000 - all)).2.1 x y []).2.2.2.1 (all + (rm b (20000 - all)).1) (out ++ [(P1 (rm b (20000 - all)).1.toNat (rm b (20000 - all)).2.1 x y []).2.2.2.2])
        else ((P1 (rm b (20000 - all)).1.toNat (rm b (20000 - all)).2.1 x y []).1, (P1 (rm b (20000 - all)).1.toNat (rm b (20000 - all)).2.1 x y []).2.1, []))
      else ((rm b (20000 - all)).2.2, (rm b (20000 - all)).2.1, [])
/-- Lists' bytes, from the point (x, y) on. -/
def encL : Int → Int → List (List S44) → List Int
  | _, _, [] => []
  | x, y, l :: r => enc (l.length : Int) ++ (encP x y l ++ encL (after x y l).1 (after x y l).2 r)
def tot : List (List S44) → Nat
  | [] => 0
  | l :: r => l.length + tot r
/-- What Read comes to. -/
def R (b : List Int) : List (List S44) × List Int × Int := if (rm b 1000).2.2 = 0 then
    (if (P0 (rm b 1000).1.toNat (rm b 1000).2.1 0 0 0 []).1 = 0 then ((P0 (rm b 1000).1.toNat (rm b 1000).2.1 0 0 0 []).2.2, (P0 (rm b 1000).1.toNat (rm b 1000).2.1 0 0 0 []).2.1, 0) else ([], [], (P0 (rm b 1000).1.toNat (rm b 1000).2.1 0 0 0 []).1))
  else ([], [], (rm b 1000).2.2)
/-- The bytes of lists. -/
def encAll (ls : List (List S44)) : List Int := enc (ls.length : Int) ++ encL 0 0 ls
end Go.Proofs.Ytjgoehhhjffpmaa.U

