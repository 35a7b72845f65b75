/-
  THE PLAIN LAW of records: their bytes, and the record of bytes; no program. No conditions.
-/
import Derived.Test.YtfdibjgmbdkbcaaZRepr
namespace Go.Proofs.Ytfdibjgmbdkbcaa
structure Rec where
 sh:Int
 fr:Int
 to:Int
 sz:Int
 root:Bs
deriving DecidableEq
instance:Rp Rec:=Rp.of fun r=>(r.sh,r.fr,r.to,r.sz,r.root)
namespace Bk
def wrongR (r:Rec):Nat:=if r.sh<0\/8<=r.sh\/r.fr<0\/r.to<=r.fr\/1000000<r.to\/r.sz<0\/100<r.sz then 3 else if r.root.length≠32 then 2 else 0
def be:Nat->Nat->Bs
 | 0,_=>[]
 | k+1,n=>UInt8.ofNat (n / 256 ^ k)::be k n
theorem length_be:∀ k n,(be k n).length=k
 | 0,_=>rfl
 | k+1,n=>by simp [be,length_be k n]
def rowR (r:Rec):Bs:=be 1 r.sh.toNat++(be 3 r.fr.toNat++(be 3 r.to.toNat++(be 1 r.sz.toNat++r.root)))
def zeroR:Rec:=⟨0,0,0,0,[]⟩
theorem wrongR_ok {r:Rec}:wrongR r=0 ↔ (0<=r.sh/\r.sh<8/\0<=r.fr/\r.fr<r.to/\r.to<=1000000/\0<=r.sz/\r.sz<=100/\r.root.length=32):=by
 unfold wrongR
 split
 · simp;omega
 · split
   · simp;omega
   · simp;omega
theorem length_rowR {r:Rec} (h:wrongR r=0):(rowR r).length=40:=by
 have:=(wrongR_ok.1 h).2.2.2.2.2.2.2
 simp [rowR,length_be];omega
def rowsF:List Rec->Nat->Nat × Nat
 | [],_=>(0,0)
 | r::l,i=>if wrongR r≠0 then (wrongR r,i) else rowsF l (i+1)
def wrongB (l:List Rec):Nat × Nat:=if 8<l.length then (5,0) else rowsF l 0
theorem rowsF_ok:∀ (l:List Rec) (i:Nat),(rowsF l i).1=0 ↔ ∀ r ∈ l,wrongR r=0
 | [],_=>by simp [rowsF]
 | r::l,i=>by
   have ih:=rowsF_ok l (i+1)
   unfold rowsF
   by_cases h:wrongR r=0
   · rw [if_neg (by simpa using h),ih];simp [h]
   · rw [if_pos h];simp [h]
theorem rowsF_zero:∀ (l:List Rec) (i:Nat),(rowsF l i).1=0->rowsF l i=(0,0)
 | [],_,_=>rfl
 | r::l,i,h=>by
   unfold rowsF at h ⊢
   split at h
   · rename_i hn;exact absurd h hn
   · rename_i hn;rw [if_neg hn];exact rowsF_zero l (i+1) h
def FineB (l:List Rec):Prop:=l.length<=8/\∀ r ∈ l,wrongR r=0
theorem wrongB_ok (l:List Rec):(wrongB l).1=0 ↔ FineB l:=by
 unfold wrongB FineB
 by_cases h:8<l.length
 · rw [if_pos h];simp;omega
 · rw [if_neg h,rowsF_ok];exact ⟨fun g=>⟨by omega,g⟩,fun g=>g.2⟩
theorem wrongB_zero (l:List Rec) (h:(wrongB l).1=0):wrongB l=(0,0):=by
 unfold wrongB at h ⊢
 split at h
 · simp at h
 · rename_i hn;rw [if_neg hn];exact rowsF_zero _ _ h
def rows (l:List Rec):List Bs:=l.map rowR
theorem rows_short {l:List Rec} (h:FineB l):(rows l).length<=100/\∀ b ∈ rows l,b.length<=200:=by
 refine ⟨by unfold rows;rw [List.length_map];have:=h.1;omega,fun b hb=>?_⟩
 obtain ⟨r,hr,rfl⟩:=List.mem_map.1 hb
 rw [length_rowR (h.2 r hr)]
 omega
end Bk
end Go.Proofs.Ytfdibjgmbdkbcaa
