/-
  Words for memory: segments of the call's own, each one's bytes in a block of its own; what is laid away part by part. No conditions. THE WALK of shelf.Export. Conditions: what is read is a list of texts.
-/
import Derived.RangeFuncNested
import Derived.RangeFuncBound
import Derived.RangeFuncCalls
import Derived.RangeFuncLeaves
import Derived.RangeFuncBox
import Derived.Shelf.Abstract
import Derived.Shelf.RegionOpen
import Derived.WalkKit
import Derived.OwnWalkIn
import Derived.TacticsInMore
import Derived.LoopNIn
import Derived.LoopIn
import Derived.Maps.AppendAt
import Derived.Sort.CutIn
import Derived.Test.YtfdibjgmbdkbcaaZGe
import Derived.Test.YtfdibjgmbdkbcaaZPk5
import Derived.Test.YtfdibjgmbdkbcaaZGh
namespace Go.Proofs.Ytfdibjgmbdkbcaa
open Go.RowKit Go.Lib Go.Shelf
theorem info_seg:(Try.prog.info? 152).map (fun i=>(i.zero,i.size,i.bytes))=some (some (.agg #[.int .i64 0,.int .i64 0,.slice none 0 0]),3,40):=by kernel_rfl
def segCells (s:Seg) (u:Value):List Value:=[.int .i64 s.first,.int .i64 s.count,u]
def flatS (l:List Seg) (us:List Value):List Value:=(List.zipWith segCells l us).flatten
theorem flatS_snoc {l:List Seg} {us:List Value} (h:us.length=l.length) (s:Seg) (u:Value):flatS (l++[s]) (us++[u])=flatS l us++segCells s u:=by
 unfold flatS
 rw [List.zipWith_append h.symm]
 simp
theorem flatS_at:∀ (l:List Seg) (us:List Value) (i j:Nat) (s:Seg) (u x:Value),l[i]? = some s->us[i]? = some u->(segCells s u)[j]? = some x->(flatS l us)[i*3+j]? = some x
 | [],_,_,_,_,_,_,h,_,_=>by simp at h
 | _::_,[],_,_,_,_,_,_,h,_=>by simp at h
 | s::l,u::us,0,j,s',u',x,h1,h2,h3=>by
   simp only [List.getElem?_cons_zero,Option.some.injEq] at h1 h2
   subst h1 h2
   have hj:j<(segCells s u).length:=by
    rcases Nat.lt_or_ge j (segCells s u).length with h | h
    · exact h
    · rw [List.getElem?_eq_none h] at h3;cases h3
   unfold flatS
   rw [List.zipWith_cons_cons,List.flatten_cons,Nat.zero_mul,Nat.zero_add,List.getElem?_append_left hj]
   exact h3
 | s::l,u::us,i+1,j,s',u',x,h1,h2,h3=>by
   simp only [List.getElem?_cons_succ] at h1 h2
   have ih:=flatS_at l us i j s' u' x h1 h2 h3
   have hc:(segCells s u).length=3:=rfl
   unfold flatS at ih ⊢
   rw [List.zipWith_cons_cons,List.flatten_cons,List.getElem?_append_right (by rw [hc];omega),hc,show (i+1)*3+j-3=i*3+j by omega]
   exact ih
def OwnSegs (w:World) (B:Nat) (v:Value) (l:List Seg):Prop :=
 ∃ us:List Value,us.length=l.length/\Own w B 152 3 v l.length (flatS l us) ∧
  (∀ (i:Nat) (s:Seg) (u:Value),l[i]? = some s->us[i]? = some u->OwnB w B u s.packed)/\us.Pairwise (fun a b=>∀ k,a.ownBlock=some k->b.ownBlock≠some k)
section
variable {w w':World} {B:Nat} {v:Value} {l:List Seg}
theorem OwnSegs.nil_ (w:World) (B:Nat):OwnSegs w B (.slice none 0 0) []:=⟨[],rfl,Own.nil_ _ _ _ _,fun i s u h=>by simp at h,List.Pairwise.nil⟩
theorem OwnSegs.keep (h:OwnSegs w B v l) (hk:∀ k,B<=k->k<w.heap.size->w'.heap[k]? = w.heap[k]?):OwnSegs w' B v l:=by
 obtain ⟨us,h1,h2,h3,h4⟩:=h
 exact ⟨us,h1,h2.keep (fun k _ hl hB=>hk k hB hl),fun i s u hs hu=>Own.keep (h3 i s u hs hu) (fun k _ hl hB=>hk k hB hl),h4⟩
theorem OwnSegs.below (h:OwnSegs w B v l) (hb:Below w.heap.size w w'):OwnSegs w' B v l:=h.keep fun k _ hk=>hb.block k hk
theorem OwnSegs.alloc (h:OwnSegs w B v l) (o:Obj):OwnSegs (w.alloc o) B v l:=h.below ((Below.refl _ _).alloc (Nat.le_refl _) o)
theorem OwnSegs.mono (h:OwnSegs w B v l) {B':Nat} (hb:B'<=B):OwnSegs w B' v l:=by
 obtain ⟨us,h1,h2,h3,h4⟩:=h
 exact ⟨us,h1,h2.mono hb,fun i s u hs hu=>Own.mono (h3 i s u hs hu) hb,h4⟩
theorem OwnSegs.shape (h:OwnSegs w B v l):∃ A c,v = .slice A l.length c/\l.length<=c/\c<=maxLen:=by
 obtain ⟨us,h1,h2,h3,h4⟩:=h
 have hR:OwnR w B 152 (fun _=>True) v l:=⟨_,h2,fun i s hs=>by
  have hi:i<us.length:=by
   rw [h1]
   rcases Nat.lt_or_ge i l.length with h | h
   · exact h
   · rw [List.getElem?_eq_none h] at hs;cases hs
  have hu:=List.getElem?_eq_getElem hi
  refine ⟨segCells s us[i],?_,fun j x hx=>flatS_at l us i j s _ x hs hu hx⟩
  exact ⟨[_],[_,_],rfl,rfl,[_],[_],rfl,rfl,_,rfl,rdL_bytes.2 ((OwnB.bytes (h3 i s _ hs hu)).weak (fun _ _ _=>trivial))⟩⟩
 exact hR.shape
theorem OwnSegs.rd (h:OwnSegs w B v l):RdL w (fun k=>B<=k) v l:=by
 obtain ⟨us,h1,h2,h3,h4⟩:=h
 have hR:OwnR w B 152 (fun k=>B<=k) v l:=⟨_,h2,fun i s hs=>by
  have hi:i<us.length:=by
   rw [h1]
   rcases Nat.lt_or_ge i l.length with h | h
   · exact h
   · rw [List.getElem?_eq_none h] at hs;cases hs
  have hu:=List.getElem?_eq_getElem hi
  refine ⟨segCells s us[i],?_,fun j x hx=>flatS_at l us i j s _ x hs hu hx⟩
  exact ⟨[_],[_,_],rfl,rfl,[_],[_],rfl,rfl,_,rfl,rdL_bytes.2 ((OwnB.bytes (h3 i s _ hs hu)).weak (fun _ _ h=>h.1))⟩⟩
 exact hR.rd (fun k hk=>(hR.lt k hk).1)
theorem OwnSegs.snoc {us:List Value} {u v':Value} {s:Seg} (h1:us.length=l.length) (h2:Own w B 152 3 v l.length (flatS l us))
 (h3:∀ (i:Nat) (s:Seg) (u:Value),l[i]? = some s->us[i]? = some u->OwnB w B u s.packed) (h4:us.Pairwise (fun a b=>∀ k,a.ownBlock=some k->b.ownBlock≠some k))
 (hu:OwnB w B u s.packed) (hnew:∀ a ∈ us,∀ k,a.ownBlock=some k->u.ownBlock≠some k) (hg:w.grownBy w' v.ownBlock) (hown:Own w' B 152 3 v' (l.length+1) (flatS l us++segCells s u)):OwnSegs w' B v' (l++[s]):=by
 have hk:∀ (x:Value) (c:Bs),OwnB w B x c->OwnB w' B x c:=fun x c ho =>
  Own.keep ho fun k hk hlt _=>hg.block k hlt (fun e=>Own.apart ho h2 (by decide) k hk e.symm)
 refine ⟨us++[u],by simp [h1],by rw [flatS_snoc h1,List.length_append];exact hown,fun i s' u' hs' hu'=>?_,?_⟩
 · rcases Nat.lt_or_ge i l.length with hlt | hge
   · rw [List.getElem?_append_left hlt] at hs'
     rw [List.getElem?_append_left (by omega)] at hu'
     exact hk _ _ (h3 i s' u' hs' hu')
   · rw [List.getElem?_append_right hge] at hs'
     rw [List.getElem?_append_right (by omega)] at hu'
     have hi0:i-l.length=0:=by
      rcases Nat.eq_zero_or_pos (i-l.length) with h | h
      · exact h
      · rw [List.getElem?_eq_none (by simp;omega)] at hs';cases hs'
     rw [hi0] at hs'
     rw [h1,hi0] at hu'
     simp only [List.getElem?_cons_zero,Option.some.injEq] at hs' hu'
     subst hs' hu'
     exact hk _ _ hu
 · rw [List.pairwise_append]
   refine ⟨h4,List.pairwise_singleton _ _,fun a ha b hb=>?_⟩
   simp only [List.mem_singleton] at hb
   subst hb
   exact hnew a ha
end
namespace Shf
end Shf
end Go.Proofs.Ytfdibjgmbdkbcaa
namespace Go.Proofs.Ytfdibjgmbdkbcaa
open Go.RowKit Go.Lib Go.Shelf
attribute [local go_sem] Oper.semAt_some
theorem OwnSegs.setCell {w:World} {B g:Nat} {v:Value} {l:List Seg} {t:TypeId} {cs:Array Value} (h:OwnSegs w B v l) (hg:Blk w g t cs) (h1:152≠t) (h2:5≠t) (i:Nat) (x:Value):OwnSegs (w.setCell ⟨g,i,none⟩ x) B v l:=by
 obtain ⟨us,u1,u2,u3,u4⟩:=h
 exact ⟨us,u1,Own.setCell (p:=⟨g,i,none⟩) u2 (Own.ne_blk u2 hg h1) x,fun j s u hs hu=>Own.setCell (p:=⟨g,i,none⟩) (u3 j s u hs hu) (Own.ne_blk (u3 j s u hs hu) hg h2) x,u4⟩
end Go.Proofs.Ytfdibjgmbdkbcaa
