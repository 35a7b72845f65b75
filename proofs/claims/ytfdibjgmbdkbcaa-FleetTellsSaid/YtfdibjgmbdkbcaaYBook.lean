/-
  THE PLAIN LAW of records: their bytes, and the record of bytes; no program. No conditions.
-/
import Derived.Test.YtfdibjgmbdkbcaaYRepr
namespace Go.Proofs.Ytfdibjgmbdkbcaa
structure Rec where
 sh:Int
 fr:Int
 to:Int
 sz:Int
 root:Bs
deriving DecidableEq
instance:Rp Rec:=Rp.of fun r=>(r.sh,r.fr,r.to,r.sz,r.root)
namespace Bk
def wrongR (r:Rec):Nat:=if r.sh<0\/8<=r.sh\/r.fr<0\/r.to<=r.fr\/1000000<r.to\/r.sz<0\/100<r.sz then 3 else if r.root.length≠32 then 2 else 0
def be:Nat->Nat->Bs
 | 0,_=>[]
 | k+1,n=>UInt8.ofNat (n / 256 ^ k)::be k n
def rowR (r:Rec):Bs:=be 1 r.sh.toNat++(be 3 r.fr.toNat++(be 3 r.to.toNat++(be 1 r.sz.toNat++r.root)))
def zeroR:Rec:=⟨0,0,0,0,[]⟩
theorem wrongR_ok {r:Rec}:wrongR r=0 ↔ (0<=r.sh/\r.sh<8/\0<=r.fr/\r.fr<r.to/\r.to<=1000000/\0<=r.sz/\r.sz<=100/\r.root.length=32):=by
 unfold wrongR
 split
 · simp;omega
 · split
   · simp;omega
   · simp;omega
def rows (l:List Rec):List Bs:=l.map rowR
end Bk
end Go.Proofs.Ytfdibjgmbdkbcaa
