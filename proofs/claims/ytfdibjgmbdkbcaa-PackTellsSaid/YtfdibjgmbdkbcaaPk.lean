/-
  Plain law, no program: tokens, texts, packing and unpacking as the walks of pack and yearref4 come to them. No conditions.
-/
import Derived.Test.YtfdibjgmbdkbcaaSha
namespace Go.Proofs.Ytfdibjgmbdkbcaa
namespace Pk

structure Tok where
  len : Int
  back : Int
  byte : UInt8
deriving DecidableEq

def lit (c : UInt8) : Tok := ⟨0, 0, c⟩
def cp (n back : Nat) : Tok := ⟨n, back, 0⟩

/-- how long a stretch is that stood 'back' ahead: f more may come, n have -/
def mgo (b : Bs) (pos back : Nat) : Nat → Nat → Nat
  | 0, n => n
  | f + 1, n => if pos + n < b.length ∧ b.getD (pos + n) 0 = b.getD (pos + n - back) 0 then mgo b pos back f (n + 1) else n
def mlen (b : Bs) (pos back : Nat) : Nat := mgo b pos back 66 0
/-- the longest of those 1 to j back, the nearest first: its length, and how far -/
def best (b : Bs) (pos : Nat) : Nat → Nat × Nat
  | 0 => (0, 0)
  | j + 1 => if (best b pos j).1 < mlen b pos (j + 1) then (mlen b pos (j + 1), j + 1) else best b pos j
def longest (b : Bs) (pos : Nat) : Nat × Nat := best b pos (min pos 1024)
def tokAt (b : Bs) (pos : Nat) : Tok := if (longest b pos).1 < 3 then lit (b.getD pos 0) else cp (longest b pos).1 (longest b pos).2
def stepAt (b : Bs) (pos : Nat) : Nat := if (longest b pos).1 < 3 then 1 else (longest b pos).1
/-- the tokens from a place on, f of them at most -/
def toksF (b : Bs) : Nat → Nat → List Tok
  | 0, _ => []
  | f + 1, pos => if pos < b.length then tokAt b pos :: toksF b f (pos + stepAt b pos) else []
def toks (b : Bs) : List Tok := toksF b b.length 0

/-- so many bytes more, each from 'back' ahead -/
def copyN (out : Bs) (back : Nat) : Nat → Bs
  | 0 => out
  | k + 1 => copyN out back k ++ [(copyN out back k).getD ((copyN out back k).length - back) 0]
/-- what is wrong with a token behind so many bytes: 0: nothing -/
def bad (t : Tok) (n : Nat) : Nat :=
  if t.len ≠ 0 ∧ (t.len < 3 ∨ 66 < t.len ∨ t.back < 1 ∨ 1024 < t.back) then 3
  else if t.len ≠ 0 ∧ (n : Int) < t.back then 7
  else if 4000 < (n : Int) + max t.len 1 then 4
  else 0
def more (out : Bs) (t : Tok) : Bs := if t.len = 0 then out ++ [t.byte] else copyN out t.back.toNat t.len.toNat
/-- tokens' text behind what is there; or what is wrong, and where -/
def textF : List Tok → Nat → Bs → Sum Bs (Nat × Nat)
  | [], _, out => .inl out
  | t :: l, i, out => if bad t out.length = 0 then textF l (i + 1) (more out t) else .inr (bad t out.length, i)
def text (l : List Tok) : Sum Bs (Nat × Nat) := textF l 0 []

/-! packing -/
def flags : List Tok → Nat
  | [] => 0
  | t :: l => (if t.len = 0 then 0 else 1) + 2 * flags l
def wordOf (t : Tok) : Nat := 1024 * (t.len - 3).toNat + (t.back - 1).toNat
def body (t : Tok) : Bs := if t.len = 0 then [t.byte] else [UInt8.ofNat (wordOf t / 256), UInt8.ofNat (wordOf t)]
def grp (g : List Tok) : Bs := UInt8.ofNat (flags g) :: g.flatMap body
/-- groups of eight, f of them at most -/
def grps : Nat → List Tok → Bs
  | 0, _ => []
  | f + 1, l => if l = [] then [] else grp (l.take 8) ++ grps f (l.drop 8)
def size2 (n : Nat) : Bs := [UInt8.ofNat (n / 256), UInt8.ofNat n]
def write (l : List Tok) (n : Nat) : Bs := size2 n ++ grps l.length l
def pack (b : Bs) : Bs := write (toks b) b.length

end Pk
end Go.Proofs.Ytfdibjgmbdkbcaa
