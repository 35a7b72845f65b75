/-
  THE PLAIN LAW of what is laid away: manifests, their segments, their entries; no program. No conditions.
-/
import Derived.Test.YtfdibjgmbdkbcaaYRepr
import Derived.Test.YtfdibjgmbdkbcaaYSh0
import Derived.Test.YtfdibjgmbdkbcaaYGe
import Derived.Test.YtfdibjgmbdkbcaaYGf
namespace Go.Proofs.Ytfdibjgmbdkbcaa
structure Seg where
 first:Int
 count:Int
 packed:Bs
deriving DecidableEq
instance:Rp Seg:=Rp.of fun s=>(s.first,s.count,s.packed)
structure Man where
 size:Int
 root:Bs
 segs:List Seg
deriving DecidableEq
instance:Rp Man:=Rp.of fun m=>((m.size,m.root),m.segs)
namespace Shf
def part (l:List Bs) (j:Nat):List Bs:=(l.drop (8*j)).take 8
def segOf (l:List Bs) (j:Nat):Seg:=⟨(8*j:Nat),((part l j).length:Nat),Pk.pack (lay (part l j))⟩
def nsegs (n:Nat):Nat:=(n+7) / 8
def segsOf (l:List Bs):List Seg:=(List.range (nsegs l.length)).map (segOf l)
def manOf (l:List Bs):Man:=⟨(l.length:Nat),Tr.rootL l,segsOf l⟩
def zeroM:Man:=⟨0,[],[]⟩
def fits (m:Man) (k:Int) (s:Seg):Prop:=0<=m.size/\m.size<=100/\k<=100/\s.first=k*8/\1<=s.count/\s.count=min 8 (m.size-s.first)
instance (m:Man) (k:Int) (s:Seg):Decidable (fits m k s):=by unfold fits;infer_instance
def openC (s:Seg):Nat × List Bs :=
 if (Pk.unpack s.packed).1=0 then (match taken (Pk.unpack s.packed).2 s.count.toNat with | some l=>(0,l) | none=>(2,[])) else ((Pk.unpack s.packed).1,[])
def segC (m:Man) (k:Int):Nat × List Bs :=
 if h:0<=k/\k<m.segs.length then (if fits m k (m.segs[k.toNat]'(by omega)) then openC (m.segs[k.toNat]'(by omega)) else (7,[])) else (6,[])
def allC (m:Man):Nat->Nat->List Bs->(Nat × Nat) × List Bs
 | 0,_,acc=>((0,0),acc)
 | n+1,k,acc=>if (segC m k).1=0 then allC m n (k+1) (acc++(segC m k).2) else (((segC m k).1,k),[])
def shape (m:Man):Prop:=0<=m.size/\m.size<=100/\(m.segs.length:Int)=(m.size+7) / 8
instance (m:Man):Decidable (shape m):=by unfold shape;infer_instance
def verC (m:Man):(Nat × Nat) × List Bs :=
 if shape m then (if (allC m m.segs.length 0 []).1.1=0 then (if Tr.rootL (allC m m.segs.length 0 []).2=m.root then ((0,0),(allC m m.segs.length 0 []).2) else ((9,0),[])) else ((allC m m.segs.length 0 []).1,[]))
 else ((5,0),[])
theorem take_some:∀ (n:Nat) (b:Bs) (l:List Bs) (r:Bs),take n b=some (l,r)->l.length=n/\∀ e ∈ l,e.length<=200
 | 0,b,l,r,h=>by unfold take at h;cases h;simp
 | n+1,[],l,r,h=>by unfold take at h;cases h
 | n+1,k::b,l,r,h=>by
   unfold take at h
   simp only at h
   split at h
   · cases h
   · rename_i hk
     obtain ⟨⟨l',r'⟩,h1,h2⟩:=Option.map_eq_some_iff.1 h
     cases h2
     obtain ⟨h3,h4⟩:=take_some n _ l' r' h1
     refine ⟨by simp [h3],fun e he=>?_⟩
     rcases List.mem_cons.1 he with rfl | he
     · rw [List.length_take];omega
     · exact h4 e he
theorem taken_some {b:Bs} {n:Nat} {l:List Bs} (h:taken b n=some l):l.length=n/\∀ e ∈ l,e.length<=200:=by
 unfold taken at h
 split at h
 · rename_i l' h1
   cases h
   exact take_some n b _ _ h1
 · cases h
theorem openC_ok {s:Seg} (h:(openC s).1=0):(openC s).2.length=s.count.toNat/\∀ e ∈ (openC s).2,e.length<=200:=by
 unfold openC at h ⊢
 split at h
 · rename_i h0
   rw [if_pos h0]
   cases ht:taken (Pk.unpack s.packed).2 s.count.toNat with
   | some l=>exact taken_some ht
   | none=>rw [ht] at h;cases h
 · rename_i h0;exact absurd h h0
theorem segC_ok {m:Man} {k:Int} (h:(segC m k).1=0):∃ (hk:0<=k/\k<m.segs.length),fits m k (m.segs[k.toNat]'(by omega))/\segC m k=openC (m.segs[k.toNat]'(by omega)) ∧
 ((segC m k).2.length:Int)=(m.segs[k.toNat]'(by omega)).count/\∀ e ∈ (segC m k).2,e.length<=200:=by
 unfold segC at h ⊢
 split at h
 · rename_i h0
   rw [dif_pos h0]
   split at h
   · rename_i h1
     rw [if_pos h1]
     obtain ⟨h2,h3⟩:=openC_ok h
     have hc:=h1.2.2.2.2.1
     exact ⟨h0,h1,rfl,by rw [h2];omega,h3⟩
   · cases h
 · cases h
theorem allC_ok {m:Man} (hm:shape m):∀ (n k:Nat) (acc:List Bs),n+k=m.segs.length->acc.length=min (8*k) m.size.toNat->(∀ e ∈ acc,e.length<=200)->(allC m n k acc).1.1=0 →
 (allC m n k acc).2.length=m.size.toNat/\(∀ e ∈ (allC m n k acc).2,e.length<=200)/\∃ r,(allC m n k acc).2=acc++r
 | 0,k,acc,hn,ha,he,_=>by
   obtain ⟨h0,h1,h2⟩:=hm
   refine ⟨?_,he,[],by simp [allC]⟩
   show acc.length=_
   omega
 | n+1,k,acc,hn,ha,he,h=>by
   unfold allC at h ⊢
   split at h
   · rename_i hs
     rw [if_pos hs]
     obtain ⟨hk,hf,_,hl,hs2⟩:=segC_ok hs
     obtain ⟨f0,f1,f2,f3,f4,f5⟩:=hf
     obtain ⟨h0,h1,h2⟩:=hm
     obtain ⟨g1,g2,r,g3⟩:=allC_ok ⟨h0,h1,h2⟩ n (k+1) (acc++(segC m k).2) (by omega) (by rw [List.length_append];omega) (fun e hx=>by
      rcases List.mem_append.1 hx with hx | hx
      · exact he e hx
      · exact hs2 e hx) h
     exact ⟨g1,g2,(segC m k).2++r,by rw [g3,List.append_assoc]⟩
   · rename_i hs;exact absurd h hs
theorem allC_fine {m:Man} (hm:shape m) (h:(allC m m.segs.length 0 []).1.1=0):(allC m m.segs.length 0 []).2.length=m.size.toNat/\Fine (allC m m.segs.length 0 []).2:=by
 obtain ⟨h1,h2,_⟩:=allC_ok hm m.segs.length 0 [] (by omega) (by simp) (by simp) h
 exact ⟨h1,by have:=hm.2.1;omega,h2⟩
theorem allC_zero (m:Man):∀ (n k:Nat) (acc:List Bs),(allC m n k acc).1.1=0->(allC m n k acc).1=(0,0)
 | 0,_,_,_=>rfl
 | n+1,k,acc,h=>by
   unfold allC at h ⊢
   split at h
   · rename_i hs;rw [if_pos hs];exact allC_zero m n (k+1) _ h
   · rename_i hs;exact absurd h hs
theorem verC_ok {m:Man} (h:(verC m).1.1=0):shape m/\(allC m m.segs.length 0 []).1=(0,0)/\Tr.rootL (verC m).2=m.root/\verC m=((0,0),(allC m m.segs.length 0 []).2)/\(verC m).2.length=m.size.toNat/\Fine (verC m).2:=by
 unfold verC at h ⊢
 split at h
 · rename_i hs
   rw [if_pos hs]
   split at h
   · rename_i ha
     rw [if_pos ha]
     split at h
     · rename_i hr
       rw [if_pos hr]
       obtain ⟨h1,h2⟩:=allC_fine hs ha
       exact ⟨hs,allC_zero m _ _ _ ha,hr,rfl,h1,h2⟩
     · cases h
   · rename_i ha;exact absurd h ha
 · cases h
theorem part_len (l:List Bs) (j:Nat):(part l j).length=min 8 (l.length-8*j):=by unfold part;rw [List.length_take,List.length_drop]
theorem segs_len (l:List Bs):(segsOf l).length=nsegs l.length:=by simp [segsOf]
theorem part_fine {l:List Bs} (h:Fine l) (j:Nat):(part l j).length<=8/\∀ e ∈ part l j,e.length<=200 :=
 ⟨by rw [part_len];omega,fun e he=>h.2 e (List.mem_of_mem_drop (List.mem_of_mem_take he))⟩
theorem lay_part_len {l:List Bs} (h:Fine l) (j:Nat):(lay (part l j)).length<=1608:=by
 obtain ⟨h1,h2⟩:=part_fine h j
 have:=lay_len _ h2
 omega
end Shf
end Go.Proofs.Ytfdibjgmbdkbcaa
