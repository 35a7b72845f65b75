/-
  Words for memory: segments of the call's own, each one's bytes in a block of its own; what is laid away part by part. No conditions. THE WALK of shelf.Export. Conditions: what is read is a list of texts.
-/
import Derived.Test.YtfdibjgmbdkbcaaYGh
import Derived.Test.YtfdibjgmbdkbcaaYChunkT
import Derived.Test.YtfdibjgmbdkbcaaYChunkL
namespace Go.Proofs.Ytfdibjgmbdkbcaa
open Go.RowKit Go.Lib Go.Shelf
theorem info_seg:(Try.prog.info? 152).map (fun i=>(i.zero,i.size,i.bytes))=some (some (.agg #[.int .i64 0,.int .i64 0,.slice none 0 0]),3,40):=by kernel_rfl
def segCells (s:Seg) (u:Value):List Value:=[.int .i64 s.first,.int .i64 s.count,u]
def flatS (l:List Seg) (us:List Value):List Value:=(List.zipWith segCells l us).flatten
theorem flatS_snoc {l:List Seg} {us:List Value} (h:us.length=l.length) (s:Seg) (u:Value):flatS (l++[s]) (us++[u])=flatS l us++segCells s u:=by
 unfold flatS
 rw [List.zipWith_append h.symm]
 simp
theorem flatS_at:∀ (l:List Seg) (us:List Value) (i j:Nat) (s:Seg) (u x:Value),l[i]? = some s->us[i]? = some u->(segCells s u)[j]? = some x->(flatS l us)[i*3+j]? = some x
 | [],_,_,_,_,_,_,h,_,_=>by simp at h
 | _::_,[],_,_,_,_,_,_,h,_=>by simp at h
 | s::l,u::us,0,j,s',u',x,h1,h2,h3=>by
   simp only [List.getElem?_cons_zero,Option.some.injEq] at h1 h2
   subst h1 h2
   have hj:j<(segCells s u).length:=by
    rcases Nat.lt_or_ge j (segCells s u).length with h | h
    · exact h
    · rw [List.getElem?_eq_none h] at h3;cases h3
   unfold flatS
   rw [List.zipWith_cons_cons,List.flatten_cons,Nat.zero_mul,Nat.zero_add,List.getElem?_append_left hj]
   exact h3
 | s::l,u::us,i+1,j,s',u',x,h1,h2,h3=>by
   simp only [List.getElem?_cons_succ] at h1 h2
   have ih:=flatS_at l us i j s' u' x h1 h2 h3
   have hc:(segCells s u).length=3:=rfl
   unfold flatS at ih ⊢
   rw [List.zipWith_cons_cons,List.flatten_cons,List.getElem?_append_right (by rw [hc];omega),hc,show (i+1)*3+j-3=i*3+j by omega]
   exact ih
def OwnSegs (w:World) (B:Nat) (v:Value) (l:List Seg):Prop :=
 ∃ us:List Value,us.length=l.length/\Own w B 152 3 v l.length (flatS l us) ∧
  (∀ (i:Nat) (s:Seg) (u:Value),l[i]? = some s->us[i]? = some u->OwnB w B u s.packed)/\us.Pairwise (fun a b=>∀ k,a.ownBlock=some k->b.ownBlock≠some k)
section
variable {w w':World} {B:Nat} {v:Value} {l:List Seg}
theorem OwnSegs.nil_ (w:World) (B:Nat):OwnSegs w B (.slice none 0 0) []:=⟨[],rfl,Own.nil_ _ _ _ _,fun i s u h=>by simp at h,List.Pairwise.nil⟩
theorem OwnSegs.keep (h:OwnSegs w B v l) (hk:∀ k,B<=k->k<w.heap.size->w'.heap[k]? = w.heap[k]?):OwnSegs w' B v l:=by
 obtain ⟨us,h1,h2,h3,h4⟩:=h
 exact ⟨us,h1,h2.keep (fun k _ hl hB=>hk k hB hl),fun i s u hs hu=>Own.keep (h3 i s u hs hu) (fun k _ hl hB=>hk k hB hl),h4⟩
theorem OwnSegs.below (h:OwnSegs w B v l) (hb:Below w.heap.size w w'):OwnSegs w' B v l:=h.keep fun k _ hk=>hb.block k hk
theorem OwnSegs.alloc (h:OwnSegs w B v l) (o:Obj):OwnSegs (w.alloc o) B v l:=h.below ((Below.refl _ _).alloc (Nat.le_refl _) o)
theorem OwnSegs.mono (h:OwnSegs w B v l) {B':Nat} (hb:B'<=B):OwnSegs w B' v l:=by
 obtain ⟨us,h1,h2,h3,h4⟩:=h
 exact ⟨us,h1,h2.mono hb,fun i s u hs hu=>Own.mono (h3 i s u hs hu) hb,h4⟩
theorem OwnSegs.shape (h:OwnSegs w B v l):∃ A c,v = .slice A l.length c/\l.length<=c/\c<=maxLen:=by
 obtain ⟨us,h1,h2,h3,h4⟩:=h
 have hR:OwnR w B 152 (fun _=>True) v l:=⟨_,h2,fun i s hs=>by
  have hi:i<us.length:=by
   rw [h1]
   rcases Nat.lt_or_ge i l.length with h | h
   · exact h
   · rw [List.getElem?_eq_none h] at hs;cases hs
  have hu:=List.getElem?_eq_getElem hi
  refine ⟨segCells s us[i],?_,fun j x hx=>flatS_at l us i j s _ x hs hu hx⟩
  exact ⟨[_],[_,_],rfl,rfl,[_],[_],rfl,rfl,_,rfl,rdL_bytes.2 ((OwnB.bytes (h3 i s _ hs hu)).weak (fun _ _ _=>trivial))⟩⟩
 exact hR.shape
theorem OwnSegs.rd (h:OwnSegs w B v l):RdL w (fun k=>B<=k) v l:=by
 obtain ⟨us,h1,h2,h3,h4⟩:=h
 have hR:OwnR w B 152 (fun k=>B<=k) v l:=⟨_,h2,fun i s hs=>by
  have hi:i<us.length:=by
   rw [h1]
   rcases Nat.lt_or_ge i l.length with h | h
   · exact h
   · rw [List.getElem?_eq_none h] at hs;cases hs
  have hu:=List.getElem?_eq_getElem hi
  refine ⟨segCells s us[i],?_,fun j x hx=>flatS_at l us i j s _ x hs hu hx⟩
  exact ⟨[_],[_,_],rfl,rfl,[_],[_],rfl,rfl,_,rfl,rdL_bytes.2 ((OwnB.bytes (h3 i s _ hs hu)).weak (fun _ _ h=>h.1))⟩⟩
 exact hR.rd (fun k hk=>(hR.lt k hk).1)
theorem OwnSegs.snoc {us:List Value} {u v':Value} {s:Seg} (h1:us.length=l.length) (h2:Own w B 152 3 v l.length (flatS l us))
 (h3:∀ (i:Nat) (s:Seg) (u:Value),l[i]? = some s->us[i]? = some u->OwnB w B u s.packed) (h4:us.Pairwise (fun a b=>∀ k,a.ownBlock=some k->b.ownBlock≠some k))
 (hu:OwnB w B u s.packed) (hnew:∀ a ∈ us,∀ k,a.ownBlock=some k->u.ownBlock≠some k) (hg:w.grownBy w' v.ownBlock) (hown:Own w' B 152 3 v' (l.length+1) (flatS l us++segCells s u)):OwnSegs w' B v' (l++[s]):=by
 have hk:∀ (x:Value) (c:Bs),OwnB w B x c->OwnB w' B x c:=fun x c ho =>
  Own.keep ho fun k hk hlt _=>hg.block k hlt (fun e=>Own.apart ho h2 (by decide) k hk e.symm)
 refine ⟨us++[u],by simp [h1],by rw [flatS_snoc h1,List.length_append];exact hown,fun i s' u' hs' hu'=>?_,?_⟩
 · rcases Nat.lt_or_ge i l.length with hlt | hge
   · rw [List.getElem?_append_left hlt] at hs'
     rw [List.getElem?_append_left (by omega)] at hu'
     exact hk _ _ (h3 i s' u' hs' hu')
   · rw [List.getElem?_append_right hge] at hs'
     rw [List.getElem?_append_right (by omega)] at hu'
     have hi0:i-l.length=0:=by
      rcases Nat.eq_zero_or_pos (i-l.length) with h | h
      · exact h
      · rw [List.getElem?_eq_none (by simp;omega)] at hs';cases hs'
     rw [hi0] at hs'
     rw [h1,hi0] at hu'
     simp only [List.getElem?_cons_zero,Option.some.injEq] at hs' hu'
     subst hs' hu'
     exact hk _ _ hu
 · rw [List.pairwise_append]
   refine ⟨h4,List.pairwise_singleton _ _,fun a ha b hb=>?_⟩
   simp only [List.mem_singleton] at hb
   subst hb
   exact hnew a ha
end
namespace Shf
def stepG (l:List Bs) (st:List Seg × Nat) (x:Nat):List Seg × Nat:=(st.1++[⟨(st.2:Nat),((part l x).length:Nat),Pk.pack (lay (part l x))⟩],st.2+(part l x).length)
def stG (l:List Bs) (pre:List Nat):List Seg × Nat:=pre.foldl (stepG l) ([],0)
theorem stG_snoc (l:List Bs) (pre:List Nat) (x:Nat):stG l (pre++[x])=stepG l (stG l pre) x:=by simp [stG]
theorem stG_len (l:List Bs) (pre:List Nat):(stG l pre).1.length=pre.length/\(stG l pre).2<=8*pre.length:=by
 have h:∀ n,∀ pre:List Nat,pre.length=n->(stG l pre).1.length=pre.length/\(stG l pre).2<=8*pre.length:=by
  intro n
  induction n with
  | zero=>intro pre hp;have:=List.eq_nil_of_length_eq_zero hp;subst this;simp [stG]
  | succ n ih =>
    intro pre hp
    have hne:pre≠[]:=by intro h;subst h;simp at hp
    have hd:=List.dropLast_concat_getLast hne
    have hl:pre.dropLast.length=n:=by rw [List.length_dropLast];omega
    obtain ⟨h1,h2⟩:=ih pre.dropLast hl
    rw [<-hd,stG_snoc]
    unfold stepG
    simp only [List.length_append,List.length_cons,List.length_nil]
    have:=part_len l (pre.getLast hne)
    omega
 exact h _ pre rfl
theorem stG_range (l:List Bs):∀ n,n<=nsegs l.length->stG l (List.range n)=((List.range n).map (segOf l),min (8*n) l.length)
 | 0,_=>by simp [stG]
 | n+1,h=>by
   have hp:=part_len l n
   unfold nsegs at h
   rw [List.range_succ,stG_snoc,stG_range l n (by unfold nsegs;omega)]
   unfold stepG
   simp only [List.map_append,List.map_cons,List.map_nil]
   unfold segOf
   rw [show min (8*n) l.length=8*n by omega]
   congr 1
   omega
end Shf
theorem eights_nsegs (n:Nat):eights n=Shf.nsegs n:=rfl
theorem Own.noncells_ {w w':World} {B:Nat} {e:TypeId} {size n:Nat} {v:Value} {xs:List Value} {row:Option Nat} (h:Own w B e size v n xs) (hg:w.grownBy w' row) (hr:∀ r,row=some r->∃ o:Obj,w.heap[r]? = some o/\o.isCells=false):Own w' B e size v n xs:=by
 refine Own.keep h fun k hk hkl _=>hg.block k hkl (fun e=>?_)
 obtain ⟨o,h1,h2⟩:=hr k e.symm
 obtain ⟨_,cs,hb⟩:=Own.type h k hk
 rw [hb] at h1
 cases h1
 cases h2
theorem OwnSegs.noncells {w w':World} {B:Nat} {v:Value} {l:List Seg} {row:Option Nat} (h:OwnSegs w B v l) (hg:w.grownBy w' row) (hr:∀ r,row=some r->∃ o:Obj,w.heap[r]? = some o/\o.isCells=false):OwnSegs w' B v l:=by
 obtain ⟨us,h1,h2,h3,h4⟩:=h
 exact ⟨us,h1,h2.noncells_ hg hr,fun i s u hs hu=>Own.noncells_ (h3 i s u hs hu) hg hr,h4⟩
theorem keeps_below {B:Nat} {W W':World} (h:Below W.heap.size W W'):KeepsFrom B W W':=⟨h.size,fun k o _ hk ho=>by
 have hlt:k<W.heap.size:=by
  rcases Nat.lt_or_ge k W.heap.size with h | h
  · exact h
  · rw [Array.getElem?_eq_none h] at hk;cases hk
 exact (h.block k hlt).trans hk⟩
theorem eighth_list {W:World} {F:Nat->Prop} {q off c:Nat} {l:List Bs} (hR:BList W F (.slice (some ⟨q,off,none⟩) l.length c) l) (x:Nat):BList W F (eighth q off 1 l.length x) (Shf.part l x):=by
 rw [<-rdL_blist] at hR ⊢
 obtain ⟨A',c',hv,h1,h2,h3⟩:=hR
 injection hv with e1 e2 e3
 subst e1 e3
 have hl:=Shf.part_len l x
 refine ⟨_,_,by unfold eighth;rw [hl],by rw [hl];omega,by simp [maxLen];omega,fun hn=>?_⟩
 obtain ⟨b',off',hA,hF,hb,hc⟩:=h3 (by omega)
 injection hA with hA
 injection hA with e1 e2
 subst e1 e2
 refine ⟨_,_,rfl,hF,hb,fun i a ha=>?_⟩
 unfold Shf.part at ha
 rw [List.getElem?_take] at ha
 split at ha
 · rw [List.getElem?_drop] at ha
   obtain ⟨ecs,he,hj⟩:=hc _ a ha
   refine ⟨ecs,he,fun j u hu=>?_⟩
   have:=hj j u hu
   have e:off+(8*x+i)*Rp.sz Bs+j=off+8*x*1+i*Rp.sz Bs+j:=by rw [Nat.add_mul,<-Nat.add_assoc];rfl
   rwa [e] at this
 · cases ha
end Go.Proofs.Ytfdibjgmbdkbcaa
namespace Go.Proofs.Ytfdibjgmbdkbcaa
open Go.RowKit Go.Lib Go.Shelf
attribute [local go_sem] Oper.semAt_some
def ExI (w:World) (R B:Nat) (A:Option Addr) (n c:Nat) (l:List Bs) (vr:Value) (segs:List Seg) (first:Nat) (W:World):Prop :=
 ∃ vs,Blk W (B+1) 77 #[.int .i64 (n:Int),vr,vs]/\Blk W (B+1+1) 3 #[.int .i64 (first:Int)]/\OwnSegs W B vs segs/\OwnB W R vr (Tr.rootL l)/\BList W (fun k=>k<R) (.slice A n c) l ∧
  Blk W (B+3) 40 #[.slice A n c]/\Blk W (B+4) 3 #[.int .i64 8]/\Blk W R 77 #[.int .i64 0,.slice none 0 0,.slice none 0 0]/\Blk W (R+1) 32 #[.int .i64 0,.int .i64 0]/\Below R w W
theorem ExI.from_ (w:World) (R B:Nat) (A:Option Addr) (n c:Nat) (l:List Bs) (vr:Value) (f:List Nat->List Seg) (g:List Nat->Nat) (B':Nat) (hw:R+2<=B) (hB:B+5<=B'):OwnFrom B' (fun pre W=>ExI w R B A n c l vr (f pre) (g pre) W):=by
 rintro pre W W' row ⟨vs,h1,h2,h3,h4,h5,h6,h7,h8,h9,h10⟩ hg hr
 have hr':∀ r,row=some r->∃ o:Obj,W.heap[r]? = some o/\o.isCells=false:=fun r e=>(hr r e).2
 refine ⟨vs,h1.noncells hg hr',h2.noncells hg hr',h3.noncells hg hr',Own.noncells_ h4 hg hr',?_,h6.noncells hg hr',h7.noncells hg hr',h8.noncells hg hr',h9.noncells hg hr',h10.grown hg (by have:=h8.lt;omega) (fun k e=>by have:=(hr k e).1;omega)⟩
 exact h5.map_ fun _ _ _ h=>h.keep hg.size (fun k hk hF=>hg.block k hk (fun e=>by have:=(hr k e.symm).1;omega))
theorem five_blks (w1:World) (o1 o2 o3 o4 o5:Obj):(((((w1.alloc o1).alloc o2).alloc o3).alloc o4).alloc o5).heap[w1.heap.size+1]? = some o2/\(((((w1.alloc o1).alloc o2).alloc o3).alloc o4).alloc o5).heap[w1.heap.size+2]? = some o3 ∧
 (((((w1.alloc o1).alloc o2).alloc o3).alloc o4).alloc o5).heap[w1.heap.size+3]? = some o4/\(((((w1.alloc o1).alloc o2).alloc o3).alloc o4).alloc o5).heap[w1.heap.size+4]? = some o5:=by
 have h:=four_blks w1 o1 o2 o3 o4
 have h5:=World.alloc_heap_new ((((w1.alloc o1).alloc o2).alloc o3).alloc o4) o5
 simp only [World.size_alloc] at h5
 exact ⟨(Below.heap_alloc _ _ _ (by simp)).trans h.1,(Below.heap_alloc _ _ _ (by simp)).trans h.2.1,(Below.heap_alloc _ _ _ (by simp)).trans h.2.2,h5⟩
theorem OwnSegs.setCell {w:World} {B g:Nat} {v:Value} {l:List Seg} {t:TypeId} {cs:Array Value} (h:OwnSegs w B v l) (hg:Blk w g t cs) (h1:152≠t) (h2:5≠t) (i:Nat) (x:Value):OwnSegs (w.setCell ⟨g,i,none⟩ x) B v l:=by
 obtain ⟨us,u1,u2,u3,u4⟩:=h
 exact ⟨us,u1,Own.setCell (p:=⟨g,i,none⟩) u2 (Own.ne_blk u2 hg h1) x,fun j s u hs hu=>Own.setCell (p:=⟨g,i,none⟩) (u3 j s u hs hu) (Own.ne_blk (u3 j s u hs hu) hg h2) x,u4⟩
theorem ExI.app {w W w3 w5:World} {R B n c first m K:Nat} {A:Option Addr} {l:List Bs} {vr vs v5 u:Value} {segs:List Seg} {us:List Value} {s:Seg} {z:Int} {o:Obj} (hRB:R+2<=B) (hz:z=((first+m:Nat):Int))
 (hB:Blk W (B+1) 77 #[.int .i64 (n:Int),vr,vs]) (hF:Blk W (B+1+1) 3 #[.int .i64 (first:Int)]) (hO:OwnB W R vr (Tr.rootL l)) (hL:BList W (fun k=>k<R) (.slice A n c) l)
 (h6:Blk W (B+3) 40 #[.slice A n c]) (h7:Blk W (B+4) 3 #[.int .i64 8]) (h8:Blk W R 77 #[.int .i64 0,.slice none 0 0,.slice none 0 0]) (h9:Blk W (R+1) 32 #[.int .i64 0,.int .i64 0]) (hx:Below R w W)
 (hxa:Below W.heap.size W w3) (u1:us.length=segs.length) (hown:Own (w3.alloc o) B 152 3 vs segs.length (flatS segs us))
 (hin:∀ (i:Nat) (s:Seg) (u:Value),segs[i]? = some s->us[i]? = some u->OwnB w3 B u s.packed) (u4:us.Pairwise (fun a b=>∀ k,a.ownBlock=some k->b.ownBlock≠some k))
 (hu:OwnB w3 B u s.packed) (hnew:∀ a ∈ us,∀ k,a.ownBlock=some k->u.ownBlock≠some k) (hg:(w3.alloc o).grownBy w5 vs.ownBlock) (hown5:Own w5 B 152 3 v5 (segs.length+1) (flatS segs us++segCells s u)) :
 KeepsFrom K W ((w5.setCell ⟨B+1,2,none⟩ v5).setCell ⟨B+1+1,0,none⟩ (.int .i64 z))/\Kp2 (B+3) (B+4) W ((w5.setCell ⟨B+1,2,none⟩ v5).setCell ⟨B+1+1,0,none⟩ (.int .i64 z)) ∧
 ExI w R B A n c l vr (segs++[s]) (first+m) ((w5.setCell ⟨B+1,2,none⟩ v5).setCell ⟨B+1+1,0,none⟩ (.int .i64 z)):=by
 subst hz
 have hBW:=h7.lt
 have hxA:=hxa.alloc hxa.size o
 have hBlk5:∀ (g:Nat) (t:TypeId) (cs:Array Value),Blk W g t cs->152≠t->Blk w5 g t cs:=fun g t cs h ht=>by
  have hA:=h.below hxA h.lt
  exact hA.keep (hg.block g hA.lt (fun e=>Own.ne_blk hown hA ht e.symm))
 have hB5:=hBlk5 _ _ _ hB (by decide)
 have hF5:=hBlk5 _ _ _ hF (by decide)
 have hBlk6:∀ (g:Nat) (t:TypeId) (cs:Array Value),Blk W g t cs->152≠t->g≠B+1->g≠B+1+1->Blk ((w5.setCell ⟨B+1,2,none⟩ v5).setCell ⟨B+1+1,0,none⟩ (.int .i64 ((first+m:Nat):Int))) g t cs:=fun g t cs h ht h1 h2 =>
  ((hBlk5 g t cs h ht).far (p:=⟨B+1,2,none⟩) h1 _).far (p:=⟨B+1+1,0,none⟩) h2 _
 have hxR:∀ R',R'<=B->R'<=W.heap.size->Below R' W ((w5.setCell ⟨B+1,2,none⟩ v5).setCell ⟨B+1+1,0,none⟩ (.int .i64 ((first+m:Nat):Int))):=fun R' h1 h2=>by
  have hz:=hxA.size
  have a5:Below R' W w5:=(hxA.mono h2).grown hg (by omega) (fun k hk=>by have:=(hown.lt k hk).1;omega)
  exact (a5.setCell (p:=⟨B+1,2,none⟩) (by show R'<=B+1;omega) _).setCell (p:=⟨B+1+1,0,none⟩) (by show R'<=B+1+1;omega) _
 have hS5:OwnSegs w5 B v5 (segs++[s]):=OwnSegs.snoc (w:=w3.alloc o) u1 hown (fun i s u hs hu=>Own.alloc (hin i s u hs hu) _) u4 (Own.alloc hu _) hnew hg hown5
 have hB5':Blk (w5.setCell ⟨B+1,2,none⟩ v5) (B+1) 77 #[.int .i64 (n:Int),vr,v5]:=hB5.set_ 2 v5
 have hF5':=hF5.far (p:=⟨B+1,2,none⟩) (by show B+1+1≠B+1;omega) v5
 refine ⟨?_,⟨?_,?_⟩,v5,hB5'.far (p:=⟨B+1+1,0,none⟩) (by show B+1≠B+1+1;omega) _,hF5'.set_ 0 _,?_,?_,?_,hBlk6 _ _ _ h6 (by decide) (by omega) (by omega),hBlk6 _ _ _ h7 (by decide) (by omega) (by omega),hBlk6 _ _ _ h8 (by decide) (by omega) (by omega),hBlk6 _ _ _ h9 (by decide) (by omega) (by omega),hx.trans (hxR R (by omega) (by omega))⟩
 · refine (((keeps_below hxA).trans ((KeepsOthers.of_grownBy hg (fun k o hk ho=>?_)).from _)).trans ((KeepsOthers.setCell _ _ _).from _)).trans ((KeepsOthers.setCell _ _ _).from _)
   obtain ⟨_,cur,hc⟩:=Own.type hown k hk
   rw [hc] at ho
   cases ho
   rfl
 · exact (hBlk6 _ _ _ h6 (by decide) (by omega) (by omega)).trans h6.symm
 · exact (hBlk6 _ _ _ h7 (by decide) (by omega) (by omega)).trans h7.symm
 · exact (hS5.setCell hB5 (by decide) (by decide) _ _).setCell hF5' (by decide) (by decide) _ _
 · have ho5:OwnB w5 R vr (Tr.rootL l):=Own.keep (Own.below hO hxA) fun k hk hlt _=>hg.block k hlt (fun e=>Own.apart (Own.below hO hxA) hown (by decide) k hk e.symm)
   have ho6:=Own.setCell (p:=⟨B+1,2,none⟩) ho5 (Own.ne_blk ho5 hB5 (by decide)) v5
   exact Own.setCell (p:=⟨B+1+1,0,none⟩) ho6 (Own.ne_blk ho6 hF5' (by decide)) _
 · exact hL.map_ fun _ _ _ h=>h.below_of (hxR R (by omega) (by omega)) (fun _ h=>h)
set_option maxRecDepth 100000 in
set_option maxHeartbeats 4000000 in
theorem export_own (w:World) (G:Nat->Prop) (v:Value) (l:List Bs) (hl:BList w G v l) (hf:Fine l) :
 Calls Try.prog 59 #[v] w fun e w'=>∃ vr vs,e = .returned (.tuple #[.agg #[.int .i64 (l.length:Int),vr,vs],.agg #[.int .i64 0,.int .i64 0]])/\OwnB w' w.heap.size vr (Tr.rootL l)/\(∃ m,w.heap.size<=m/\(∀ k,vr.ownBlock=some k->k<m)/\OwnSegs w' m vs (Shf.segsOf l))/\Below w.heap.size w w':=by
 obtain ⟨i0,hi,hz0,hz1,hz2⟩:=info_parts info_seg
 obtain ⟨A,c,hv,hac,hcm,hAA⟩:=hl.shape
 subst hv
 have hn100:=hf.1
 obtain ⟨q,off,hA1⟩:∃ q off,0<l.length->A=some ⟨q,off,none⟩:=by
  by_cases h0:0<l.length
  · obtain ⟨b,o,h,_⟩:=hAA h0
    exact ⟨b,o,fun _=>h⟩
  · exact ⟨0,0,fun h=>absurd h h0⟩
 have hx0:=((Below.refl w.heap.size w).alloc (Nat.le_refl _) (.cells #[.int .i64 0,.slice none 0 0,.slice none 0 0] 77)).alloc (by simp) (.cells #[.int .i64 0,.int .i64 0] 32)
 have hbM:Blk ((w.alloc (.cells #[.int .i64 0,.slice none 0 0,.slice none 0 0] 77)).alloc (.cells #[.int .i64 0,.int .i64 0] 32)) w.heap.size 77 #[.int .i64 0,.slice none 0 0,.slice none 0 0]:=Blk.alloc (heap_alloc_new w _) _
 have hbF:Blk ((w.alloc (.cells #[.int .i64 0,.slice none 0 0,.slice none 0 0] 77)).alloc (.cells #[.int .i64 0,.int .i64 0] 32)) (w.heap.size+1) 32 #[.int .i64 0,.int .i64 0]:=by
  have:=heap_alloc_new (w.alloc (.cells #[.int .i64 0,.slice none 0 0,.slice none 0 0] 77)) (.cells #[.int .i64 0,.int .i64 0] 32)
  rw [World.size_alloc] at this
  exact this
 have hl0:BList ((w.alloc (.cells #[.int .i64 0,.slice none 0 0,.slice none 0 0] 77)).alloc (.cells #[.int .i64 0,.int .i64 0] 32)) (fun k=>k<w.heap.size) (.slice A l.length c) l:=((hl.weak (fun k hk _=>hk)).alloc _).alloc _
 have HF:=Lib.hid hf
 clear hf
 refine (callsIn_wide (n:=6)).1 ?_
 refine callsIn_of_wp_marks Try.func59 rfl trivial ?_ rfl
 simp only [Try.ntmps59,List.size_toArray,List.length_cons,List.length_nil,Nat.reduceAdd,Nat.reduceSub,Array.replicate_succ,Array.replicate_zero,List.push_toArray,List.append_toArray,List.nil_append,List.cons_append]
 gi_wp2_with fail
 generalize hW0:((w.alloc (.cells #[.int .i64 0,.slice none 0 0,.slice none 0 0] 77)).alloc (.cells #[.int .i64 0,.int .i64 0] 32))=w0 at *
 clear hW0
 refine ⟨trivial,(callsIn_wide.2 (Root_fine w0 _ _ l hl0 HF.out)).mono ?_⟩
 rintro e w1 ⟨vr,rfl,ho1,hx1⟩
 have hrl:Tr.root (l.map Tr.leafH)=Tr.rootL l:=rfl
 rw [hrl] at ho1
 clear hrl
 obtain ⟨Ar,cr,hvr,_,_⟩:=Own.shape ho1
 have hvrk:∀ k,vr.ownBlock=some k->k<w1.heap.size:=fun k hk=>(Own.lt ho1 k hk).2
 generalize hnr:(Tr.rootL l).length=nr at hvr
 subst hvr
 have HNR:=Lib.hid hnr
 clear hnr
 have hx2:=hx0.trans (hx1.mono hx0.size)
 have hlt1:=hbF.lt
 have hbM1:=hbM.below hx1 hbM.lt
 have hbF1:=hbF.below hx1 hbF.lt
 have hl1:=hl0.below hx1
 have ho1':=OwnB.mono ho1 hx0.size
 gi_wp2_with (refine ⟨trivial,?_⟩;gi_at_call 108;refine (chunkL_in Fence.wide _ trivial rfl _ _ _ _).mono ?_;rintro e w' ⟨rfl,rfl⟩)
 refine rangeOne (α:=Nat) 8 rfl (by omega) (enc:=eighth q off 1 l.length) (Kp:=Kp2 (w1.heap.size+3) (w1.heap.size+4)) (N:=eights l.length) rfl trivial (enters_of Try.func132 (by kernel_rfl) rfl) (chunkL_stops Fence.wide _ trivial rfl (by omega) _ _ q off _ _ A hA1 hac (by simpa only [maxLen] using hcm) (by omega) _ ?hb1 ?hb2) ?hKt ?hKb (Below.refl _ _) (fun pre W=>ExI w w.heap.size w1.heap.size A l.length c l (.slice Ar nr cr) (Shf.stG l pre).1 (Shf.stG l pre).2 W) (fun _ _ _=>False) ?hI ?hIx ?h0 ?hassign ?hbody ?hdone ?hstop
 case hbody =>
  intro l' pre x W hI hN
  have hn0:0<l.length:=by unfold eights at hN;omega
  have hAe:=hA1 hn0
  subst hAe
  obtain ⟨vs,hB,hF1,hS,hO,hL,hBs,hBn,hR0,hR1,hx⟩:=hI
  obtain ⟨As,cs,hvs,hlcs,hcms⟩:=hS.shape
  subst hvs
  have hst:=Shf.stG_len l pre
  have hpl:pre.length<=13:=by unfold eights at hN;omega
  have hgl:=eighth_list hL x
  have hpf:=Shf.part_fine HF.out x
  have hll:=Shf.lay_part_len HF.out x
  have hsn:=Shf.stG_snoc l pre x
  unfold Shf.stepG at hsn
  obtain ⟨A3,c3,hv3⟩:=hgl.form
  rw [hv3] at hgl ⊢
  clear hv3
  generalize hP:Shf.part l x=P at *
  generalize (Shf.stG l pre)=st at *
  obtain ⟨segs,first⟩:=st
  simp only at hB hF1 hS hsn hst hlcs
  obtain ⟨hst1,hst2⟩:=hst
  have HS:=Lib.hid hsn
  have hsl:segs.length<=13:=by omega
  have hfl:first<=104:=by omega
  clear hsn hP hst1
  gi_wp2_with (refine ⟨trivial,?_⟩;gi_at_call 109;refine (CallsIn.inRound l' (callsIn_wide.2 (lay_any W _ _ P hgl (by omega) hpf.2))).mono ?_;rintro e w2 ⟨v2,rfl,ho2,hx2⟩;obtain ⟨A2,c2,hv2,_,_⟩:=Own.shape ho2;subst hv2)
  gi_wp2_with (first
               | (refine ⟨trivial,?_⟩
                  gi_at_call 21
                  refine (CallsIn.inRound l' (callsIn_wide.2 (pack_any w2 _ _ (Shf.lay P) (OwnB.bytes ho2) (by omega)))).mono ?_
                  rintro e w3 ⟨v3,rfl,ho3,hx3⟩
                  obtain ⟨A4,c4,hv4,_,_⟩:=Own.shape ho3
                  subst hv4
                  have hxa:=hx2.trans (hx3.mono hx2.size)
                  have hxw:=hx.trans (hxa.mono hx.size)
                  have hlW:=hB.lt
                  have hsz3:=hxa.size
                  have hB3:=hB.below hxa hB.lt
                  have hF3:=hF1.below hxa hF1.lt
                  obtain ⟨us,u1,u2,u3,u4⟩:=hS
                  have hnew:∀ a ∈ us,∀ k,a.ownBlock=some k->(Value.slice A4 (Pk.pack (Shf.lay P)).length c4).ownBlock≠some k:=fun a ha k hk he=>by
                   obtain ⟨i,hi,hia⟩:=List.getElem_of_mem ha
                   have h1:=(Own.lt (u3 i segs[i] us[i] (List.getElem?_eq_getElem (by omega)) (List.getElem?_eq_getElem hi)) k (by rw [hia];exact hk)).2
                   have h2:=(Own.lt ho3 k he).1
                   have:=hx2.size
                   omega
                  have hown3:=u2.below hxa
                  have hin3:∀ (i:Nat) (s:Seg) (u:Value),segs[i]? = some s->us[i]? = some u->OwnB w3 w1.heap.size u s.packed:=fun i s u hs hu=>Own.below (u3 i s u hs hu) hxa
                  have ho3':=OwnB.mono ho3 (B':=w1.heap.size) (by have:=hx2.size;omega)
                  have hsrc:=SlAt.new3 w3 152 (.int .i64 (first:Int)) (.int .i64 (P.length:Int)) (.slice A4 (Pk.pack (Shf.lay P)).length c4)
                  have hownA:=hown3.alloc (.cells #[.int .i64 (first:Int),.int .i64 (P.length:Int),.slice A4 (Pk.pack (Shf.lay P)).length c4] 152)
                  have hxA:=hxa.alloc hxa.size (.cells #[.int .i64 (first:Int),.int .i64 (P.length:Int),.slice A4 (Pk.pack (Shf.lay P)).length c4] 152)
                  have m1:w3.cell? ⟨w1.heap.size+1,2,none⟩=some (.slice As segs.length cs):=hB3.cell 2
                  have m2:w3.cell? ⟨w1.heap.size+1+1,0,none⟩=some (.int .i64 (first:Int)):=hF3.cell 0)
               | (gi_at_builtin
                  refine wpListIn_append_Own _ (by rfl) (.tmp 41) (.tmp 47) 75 (by rfl) w1.heap.size 152 i0 _ 3 40 Try.underlying75 hi hz0 hz1 hz2 (by rfl) (by omega) (.slice As segs.length cs) segs.length (flatS segs us) (by rfl) hownA _ _ _ _ (by rfl) hsrc (by simp [Value.oneCell']) (by simp only [maxLen];omega) (by omega) (by simp;omega) ?_
                  intro v5 w5 hown5 hgr5 hat5
                  obtain ⟨A5,c5,hv5,hlc5,hcm5⟩:=Own.shape hown5
                  subst hv5
                  have hB5:Blk w5 (w1.heap.size+1) 77 #[.int .i64 (l.length:Int),.slice Ar nr cr,.slice As segs.length cs]:=(hB3.alloc _).keep (hgr5.block _ (hB3.alloc _).lt (fun e=>Own.ne_blk hownA (hB3.alloc _) (by decide) e.symm))
                  have hF5:Blk w5 (w1.heap.size+1+1) 3 #[.int .i64 (first:Int)]:=(hF3.alloc _).keep (hgr5.block _ (hF3.alloc _).lt (fun e=>Own.ne_blk hownA (hF3.alloc _) (by decide) e.symm))
                  have d1:=hB5.frozen 2
                  have d2:w5.cell? ⟨w1.heap.size+1,2,none⟩=some (.slice As segs.length cs):=hB5.cell 2
                  have d3:=hF5.frozen 0
                  have d4:w5.cell? ⟨w1.heap.size+1+1,0,none⟩=some (.int .i64 (first:Int)):=hF5.cell 0))
  have hend:=ExI.app (K:=w1.heap.size+1+1+1+1+1) (z:=(first:Int)+(P.length:Int)) (m:=P.length) (s:=⟨(first:Int),(P.length:Int),Pk.pack (Shf.lay P)⟩) (by have:=hx1.size;omega) (by omega) hB hF1 hO hL hBs hBn hR0 hR1 hx hxa u1 hownA hin3 u4 ho3' hnew hgr5 hown5
  obtain ⟨e1,e2,e3⟩:=hend
  refine ⟨by simpa [World.size_alloc] using e1,e2,?_⟩
  show ExI _ _ _ _ _ _ _ _ (Shf.stG l (pre++[x])).1 (Shf.stG l (pre++[x])).2 _
  rw [HS.out]
  exact e3
 case hb1=>exact (five_blks _ _ _ _ _ _).2.2.1
 case hb2=>exact (five_blks _ _ _ _ _ _).2.2.2
 case hassign =>
  intro l x W K hK
  gi_wp2
  exact hK
 case hIx=>exact fun _=>fun _ _ _ _ h _ _=>h
 case hI=>exact ExI.from_ w _ w1.heap.size A _ c l _ _ _ _ (by have:=hx1.size;omega) (by simp)
 case hKt=>exact fun h k=>⟨k.1.trans h.1,k.2.trans h.2⟩
 case hKb =>
  intro W l o o' hl _ _ _
  simp at hl
  exact ⟨World.putObj_heap_other (by omega),World.putObj_heap_other (by omega)⟩
 case hstop=>intro D c pre W hD _ hf;exact absurd hf id
 case h0 =>
  have hsz:=hx1.size
  have hx3:=((((hx2.alloc hx2.size (.cells #[.int .i64 0,.int .i64 0] 32)).alloc (by simp;omega) (.cells #[.int .i64 (l.length:Int),.slice Ar nr cr,.slice none 0 0] 77)).alloc (by simp;omega) (.cells #[.int .i64 0] 3)).alloc (by simp;omega) (.cells #[.slice A l.length c] 40)).alloc (by simp;omega) (.cells #[.int .i64 8] 3)
  exact ⟨.slice none 0 0,(five_blks _ _ _ _ _ _).1,(five_blks _ _ _ _ _ _).2.1,OwnSegs.nil_ _ _,((((ho1'.alloc _).alloc _).alloc _).alloc _).alloc _,((((hl1.alloc _).alloc _).alloc _).alloc _).alloc _,(five_blks _ _ _ _ _ _).2.2.1,(five_blks _ _ _ _ _ _).2.2.2,
   ((((hbM1.alloc _).alloc _).alloc _).alloc _).alloc _,((((hbF1.alloc _).alloc _).alloc _).alloc _).alloc _,hx3⟩
 case hdone =>
  rintro D xs W hD rfl ⟨vs,hB,hF1,hS,hO,hL,hBs,hBn,hR0,hR1,hx⟩ hK
  rw [eights_nsegs,Shf.stG_range l _ (Nat.le_refl _)] at hS
  have hSg:OwnSegs W w1.heap.size vs (Shf.segsOf l):=hS
  clear hS hF1 hBs hBn hL
  obtain ⟨A2,c2,hv2,hlc2,hcm2⟩:=hSg.shape
  generalize hns:(Shf.segsOf l).length=ns at hv2
  subst hv2
  have HNS:=Lib.hid hns
  clear hns
  have hc0:W.cell? ⟨w1.heap.size+1,0,none⟩=some (.int .i64 (l.length:Int)):=hB.cell 0
  have hc1:W.cell? ⟨w1.heap.size+1,1,none⟩=some (.slice Ar nr cr):=hB.cell 1
  have hc2:W.cell? ⟨w1.heap.size+1,2,none⟩=some (.slice A2 ns c2):=hB.cell 2
  have r0:W.cell? ⟨w.heap.size,0,none⟩=some (.int .i64 0):=hR0.cell 0
  have r1:W.cell? ⟨w.heap.size,1,none⟩=some (.slice none 0 0):=hR0.cell 1
  have r2:W.cell? ⟨w.heap.size,2,none⟩=some (.slice none 0 0):=hR0.cell 2
  have r3:=hR0.frozen 0
  have r4:=hR0.frozen 1
  have r5:=hR0.frozen 2
  have r6:W.cell? ⟨w.heap.size+1,0,none⟩=some (.int .i64 0):=hR1.cell 0
  have r7:W.cell? ⟨w.heap.size+1,1,none⟩=some (.int .i64 0):=hR1.cell 1
  have r8:=hR1.frozen 0
  have r9:=hR1.frozen 1
  gi_wp2
  have hsz1:=hx1.size
  have hD':w1.heap.size+5<=D:=by simp at hD;omega
  obtain ⟨W5,hW5⟩:∃ z:World,z=(((((W.setCell ⟨w.heap.size,0,none⟩ (.int .i64 (l.length:Int))).setCell ⟨w.heap.size,1,none⟩ (.slice Ar nr cr)).setCell ⟨w.heap.size,2,none⟩ (.slice A2 ns c2)).setCell ⟨w.heap.size+1,0,none⟩ (.int .i64 0)).setCell ⟨w.heap.size+1,1,none⟩ (.int .i64 0)):=⟨_,rfl⟩
  rw [<-hW5]
  have hM3:Blk (((W.setCell ⟨w.heap.size,0,none⟩ (.int .i64 (l.length:Int))).setCell ⟨w.heap.size,1,none⟩ (.slice Ar nr cr)).setCell ⟨w.heap.size,2,none⟩ (.slice A2 ns c2)) w.heap.size 77 #[.int .i64 (l.length:Int),.slice Ar nr cr,.slice A2 ns c2]:=((hR0.set_ 0 _).set_ 1 _).set_ 2 _
  have hM5:Blk W5 w.heap.size 77 #[.int .i64 (l.length:Int),.slice Ar nr cr,.slice A2 ns c2]:=by rw [hW5];exact hM3.far2 (g:=w.heap.size+1) (by omega) _ _
  have hF3:Blk (((W.setCell ⟨w.heap.size,0,none⟩ (.int .i64 (l.length:Int))).setCell ⟨w.heap.size,1,none⟩ (.slice Ar nr cr)).setCell ⟨w.heap.size,2,none⟩ (.slice A2 ns c2)) (w.heap.size+1) 32 #[.int .i64 0,.int .i64 0]:=((hR1.far (p:=⟨w.heap.size,0,none⟩) (by show w.heap.size+1≠w.heap.size;omega) _).far (p:=⟨w.heap.size,1,none⟩) (by show w.heap.size+1≠w.heap.size;omega) _).far (p:=⟨w.heap.size,2,none⟩) (by show w.heap.size+1≠w.heap.size;omega) _
  have hF5:Blk W5 (w.heap.size+1) 32 #[.int .i64 0,.int .i64 0]:=by rw [hW5];exact hF3.set2 _ _
  have hX5:Below w.heap.size w W5:=by
   rw [hW5]
   exact below_set2 (((hx.setCell (p:=⟨w.heap.size,0,none⟩) (Nat.le_refl _) _).setCell (p:=⟨w.heap.size,1,none⟩) (Nat.le_refl _) _).setCell (p:=⟨w.heap.size,2,none⟩) (Nat.le_refl _) _) (by omega) _ _
  have hk5:∀ k,k≠w.heap.size->k≠w.heap.size+1->W5.heap[k]? = W.heap[k]?:=fun k h1 h2=>by
   rw [hW5,Below.heap_setCell _ _ _ k h2,Below.heap_setCell _ _ _ k h2,Below.heap_setCell _ _ _ k h1,Below.heap_setCell _ _ _ k h1,Below.heap_setCell _ _ _ k h1]
  have hO5:OwnB W5 w.heap.size (.slice Ar nr cr) (Tr.rootL l):=Own.keep hO fun k hk _ _=>hk5 k (fun e=>Own.ne_blk hO hR0 (by decide) (by rw [<-e];exact hk)) (fun e=>Own.ne_blk hO hR1 (by decide) (by rw [<-e];exact hk))
  have hS5:OwnSegs W5 w1.heap.size (.slice A2 ns c2) (Shf.segsOf l):=hSg.keep fun k h1 _=>hk5 k (by omega) (by omega)
  have hK5:W5.heap[D]? = some (.deferred (some [])):=by rw [hk5 D (by omega) (by omega)];exact hK
  clear hM3 hF3 hW5 hk5
  have hgr:=grownBy_putObj' W5 D (.deferred none)
  have hgr':∀ r,(some D:Option Nat)=some r->∃ o:Obj,W5.heap[r]? = some o/\o.isCells=false:=fun r e=>by cases e;exact ⟨_,hK5,rfl⟩
  have hM6:=hM5.noncells hgr hgr'
  have hF6:=hF5.noncells hgr hgr'
  have s0:(W5.putObj D (.deferred none)).cell? ⟨w.heap.size,0,none⟩=some (.int .i64 (l.length:Int)):=hM6.cell 0
  have s1:(W5.putObj D (.deferred none)).cell? ⟨w.heap.size,1,none⟩=some (.slice Ar nr cr):=hM6.cell 1
  have s2:(W5.putObj D (.deferred none)).cell? ⟨w.heap.size,2,none⟩=some (.slice A2 ns c2):=hM6.cell 2
  have s3:(W5.putObj D (.deferred none)).cell? ⟨w.heap.size+1,0,none⟩=some (.int .i64 0):=hF6.cell 0
  have s4:(W5.putObj D (.deferred none)).cell? ⟨w.heap.size+1,1,none⟩=some (.int .i64 0):=hF6.cell 1
  refine ⟨by simp,.inl ⟨_,_,rfl,run_takeDeferred hK5,?_⟩⟩
  exact ⟨.tuple #[.agg #[.int .i64 (l.length:Int),.slice Ar nr cr,.slice A2 ns c2],.agg #[.int .i64 0,.int .i64 0]],by simp [results,Try.results59,go_sem,s0,s1,s2,s3,s4],_,_,rfl,Own.noncells_ hO5 hgr hgr',⟨w1.heap.size,by omega,hvrk,hS5.noncells hgr hgr'⟩,
   hX5.trans (belowK_b (w:=w) (Nat.le_refl _) W5 D _ _ (by omega) hK5 rfl rfl)⟩
end Go.Proofs.Ytfdibjgmbdkbcaa
