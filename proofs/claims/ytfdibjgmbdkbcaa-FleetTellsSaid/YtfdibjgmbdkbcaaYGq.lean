/-
  Words for memory: a fleet that goes on. No conditions. Words for memory: a fleet, on: what a step leaves. No conditions. THE WALKS of slices.IndexFunc over shards, entries and rows, with the fleet's own questions. Conditions: what is read is shards, entries, rows. Words for memory: what a step of a fleet leaves; an entry more. No conditions. Words for memory: a fleet with its rows named; a cell of a shard's is set; a record more; a byte is turned. No conditions.
-/
import Derived.Test.YtfdibjgmbdkbcaaYGi
import Derived.Test.YtfdibjgmbdkbcaaYGp
namespace Go.Proofs.Ytfdibjgmbdkbcaa
open Go.RowKit Go.Lib
abbrev Tag:=Nat->Option (Nat × Nat)
def Tg (tag:Tag) (t:Option (Nat × Nat)) (v:Value):Prop:=∀ k,v.ownBlock=some k->tag k=t
def TB (w:World) (B:Nat) (tag:Tag) (t:Option (Nat × Nat)) (v:Value) (b:Bs):Prop:=OwnB w B v b/\Tg tag t v
def TL (w:World) (B:Nat) (tag:Tag) (k:Nat) (v:Value) (ll:List Bs):Prop :=
 ∃ vs,Own w B 22 1 v ll.length vs/\Tg tag (some (k,0)) v/\∀ (i:Nat) (b:Bs),ll[i]? = some b->∃ u,vs[i]? = some u/\TB w B tag none u b
def TS (w:World) (B:Nat) (tag:Tag) (k:Nat) (v:Value) (l:List Seg):Prop :=
 ∃ ps:List Value,ps.length=l.length/\Own w B 152 3 v l.length (flatS l ps)/\Tg tag none v/\∀ (j:Nat) (s:Seg) (p:Value),l[j]? = some s->ps[j]? = some p->TB w B tag (some (k,j+1)) p s.packed
structure ShV where
 ev:Value
 rv:Value
 sv:Value
def shCells (s:Shd) (u:ShV):List Value:=[.int .i64 s.fr,.int .i64 s.til,.int .i64 s.st,u.ev,.int .i64 s.man.size,u.rv,u.sv]
def TSh (w:World) (B:Nat) (tag:Tag) (k:Nat) (s:Shd) (u:ShV):Prop:=TL w B tag k u.ev s.ents/\TB w B tag none u.rv s.man.root/\TS w B tag k u.sv s.man.segs
def flatSh (l:List Shd) (us:List ShV):List Value:=(List.zipWith shCells l us).flatten
def rcCells (r:Rec) (v:Value):List Value:=[.int .i64 r.sh,.int .i64 r.fr,.int .i64 r.to,.int .i64 r.sz,v]
def flatRc (l:List Rec) (ws:List Value):List Value:=(List.zipWith rcCells l ws).flatten
def TagOk (w:World) (B:Nat) (tag:Tag):Prop:=(∀ b,b<B->tag b=none)/\∀ b,w.heap.size<=b->tag b=none
def Own3 (t:TypeId):Prop:=t=165\/t=156\/t=61
def FltAt (w:World) (B gF:Nat) (tag:Tag) (f:Flt):Prop :=
 ∃ vs vb us ws,B<=gF/\Blk w gF 165 #[vs,vb]/\us.length=f.sh.length/\Own w B 156 7 vs f.sh.length (flatSh f.sh us) ∧
  (∀ (k:Nat) (s:Shd) (u:ShV),f.sh[k]? = some s->us[k]? = some u->TSh w B tag k s u) ∧
  ws.length=f.book.length/\Own w B 61 5 vb f.book.length (flatRc f.book ws)/\(∀ (i:Nat) (r:Rec) (v:Value),f.book[i]? = some r->ws[i]? = some v->TB w B tag none v r.root)
structure Chg (w w':World) (B:Nat) (tag:Tag) (x:Option (Nat × Nat)):Prop where
 below:Below B w w'
 same:∀ b,b<w.heap.size->tag b≠x->(∀ o,w.heap[b]? = some o->∀ cs t,o = .cells cs t (0,0)->¬ Own3 t)->w'.heap[b]? = w.heap[b]?
def Kept (w w':World) (B:Nat) (tag tag':Tag):Prop:=Below B w w'/\(∀ b,b<w.heap.size->tag b=none->tag' b=none) ∧
 ∀ b cs t,Blk w b t cs->¬ Own3 t->tag b=none->Blk w' b t cs
section
variable {w w':World} {B gF k:Nat} {tag tag':Tag} {t x:Option (Nat × Nat)} {v:Value} {b:Bs} {ll:List Bs} {l:List Seg} {s:Shd} {u:ShV} {f:Flt}
theorem Chg.of_below (h:Below w.heap.size w w') (hB:B<=w.heap.size):Chg w w' B tag x:=⟨h.mono hB,fun b hb _ _=>h.block b hb⟩
theorem Own.chg {e:TypeId} {size n:Nat} {xs:List Value} (h:Own w B e size v n xs) (hc:Chg w w' B tag x) (hx:∀ k,v.ownBlock=some k->tag k≠x) (he:¬ Own3 e):Own w' B e size v n xs :=
 Own.keep h fun k hk hlt _=>hc.same k hlt (hx k hk) fun o ho cs t hot=>by
  obtain ⟨_,cur,hcur⟩:=Own.type h k hk
  rw [hcur] at ho
  injection ho with ho
  rw [<-ho] at hot
  injection hot with _ h2
  rw [<-h2]
  exact he
theorem u8_not:¬ Own3 5:=by unfold Own3;decide
theorem bytes_not:¬ Own3 22:=by unfold Own3;decide
theorem seg_not:¬ Own3 152:=by unfold Own3;decide
theorem TB.chg (h:TB w B tag t v b) (hc:Chg w w' B tag x) (hx:t≠x):TB w' B tag t v b:=⟨Own.chg h.1 hc (fun k hk=>by rw [h.2 k hk];exact hx) u8_not,h.2⟩
theorem TL.chg (h:TL w B tag k v ll) (hc:Chg w w' B tag x) (hx:some (k,0)≠x) (hn:none≠x):TL w' B tag k v ll:=by
 obtain ⟨vs,h1,h2,h3⟩:=h
 refine ⟨vs,Own.chg h1 hc (fun k hk=>by rw [h2 k hk];exact hx) bytes_not,h2,fun i b hb=>?_⟩
 obtain ⟨u,hu,ht⟩:=h3 i b hb
 exact ⟨u,hu,ht.chg hc hn⟩
theorem TS.chg (h:TS w B tag k v l) (hc:Chg w w' B tag x) (hx:∀ j,some (k,j+1)≠x) (hn:none≠x):TS w' B tag k v l:=by
 obtain ⟨ps,h1,h2,h3,h4⟩:=h
 exact ⟨ps,h1,Own.chg h2 hc (fun k hk=>by rw [h3 k hk];exact hn) seg_not,h3,fun j s p hs hp=>(h4 j s p hs hp).chg hc (hx j)⟩
theorem TSh.chg (h:TSh w B tag k s u) (hc:Chg w w' B tag x) (hx:∀ j,some (k,j)≠x) (hn:none≠x):TSh w' B tag k s u:=⟨h.1.chg hc (hx 0) hn,h.2.1.chg hc hn,h.2.2.chg hc (fun _j=>hx _) hn⟩
theorem Tg.retag (h:Tg tag t v) (hv:∀ k,v.ownBlock=some k->tag' k=tag k):Tg tag' t v:=fun k hk=>(hv k hk).trans (h k hk)
theorem TB.retag (h:TB w B tag t v b) (hr:∀ b,b<w.heap.size->tag' b=tag b):TB w B tag' t v b:=⟨h.1,h.2.retag fun k hk=>hr k (Own.lt h.1 k hk).2⟩
theorem TL.retag (h:TL w B tag k v ll) (hr:∀ b,b<w.heap.size->tag' b=tag b):TL w B tag' k v ll:=by
 obtain ⟨vs,h1,h2,h3⟩:=h
 refine ⟨vs,h1,h2.retag fun k hk=>hr k (Own.lt h1 k hk).2,fun i b hb=>?_⟩
 obtain ⟨u,hu,ht⟩:=h3 i b hb
 exact ⟨u,hu,ht.retag hr⟩
theorem TS.retag (h:TS w B tag k v l) (hr:∀ b,b<w.heap.size->tag' b=tag b):TS w B tag' k v l:=by
 obtain ⟨ps,h1,h2,h3,h4⟩:=h
 exact ⟨ps,h1,h2,h3.retag fun k hk=>hr k (Own.lt h2 k hk).2,fun j s p hs hp=>(h4 j s p hs hp).retag hr⟩
theorem TSh.retag (h:TSh w B tag k s u) (hr:∀ b,b<w.heap.size->tag' b=tag b):TSh w B tag' k s u:=⟨h.1.retag hr,h.2.1.retag hr,h.2.2.retag hr⟩
theorem TL.ownL (h:TL w B tag k v ll):OwnL w B v ll:=by
 obtain ⟨vs,h1,h2,h3⟩:=h
 refine ⟨vs,h1,fun i b hb=>?_⟩
 obtain ⟨u,hu,ht⟩:=h3 i b hb
 exact ⟨u,hu,ht.1⟩
theorem TS.rd (h:TS w B tag k v l):RdL w (fun k=>B<=k) v l:=by
 obtain ⟨us,h1,h2,_,h3⟩:=h
 have hR:OwnR w B 152 (fun k=>B<=k) v l:=⟨_,h2,fun i s hs=>by
  have hi:i<us.length:=by
   rw [h1]
   rcases Nat.lt_or_ge i l.length with h | h
   · exact h
   · rw [List.getElem?_eq_none h] at hs;cases hs
  have hu:=List.getElem?_eq_getElem hi
  refine ⟨segCells s us[i],?_,fun j x hx=>flatS_at l us i j s _ x hs hu hx⟩
  exact ⟨[_],[_,_],rfl,rfl,[_],[_],rfl,rfl,_,rfl,rdL_bytes.2 ((OwnB.bytes (h3 i s _ hs hu).1).weak (fun _ _ h=>h.1))⟩⟩
 exact hR.rd (fun k hk=>(hR.lt k hk).1)
theorem TSh.rd (h:TSh w B tag k s u):Rp.rd w (fun b=>B<=b) (shCells s u) s :=
 ⟨[_],[_,_,_,_,_,_],rfl,rfl,[_],[_,_,_,_,_],rfl,rfl,[_],[_,_,_,_],rfl,rfl,[_],[_,_,_],rfl,⟨_,rfl,rdL_blist.2 (h.1.ownL.blist.weak fun _ _ h=>h.1)⟩,
  [_,_],[_],rfl,⟨[_],[_],rfl,rfl,_,rfl,rdL_bytes.2 ((OwnB.bytes h.2.1.1).weak fun _ _ h=>h.1)⟩,_,rfl,h.2.2.rd⟩
end
theorem flat_set {α β:Type} {n:Nat} (c:α->β->List Value) (hc:∀ a b,(c a b).length=n):∀ (l:List α) (us:List β) (k i:Nat) (a a':α) (u u':β) (x:Value),us.length=l.length->l[k]? = some a->us[k]? = some u->i<n->c a' u'=(c a u).set i x →
 (List.zipWith c (l.set k a') (us.set k u')).flatten=((List.zipWith c l us).flatten).set (k*n+i) x
 | [],_,_,_,_,_,_,_,_,_,h,_,_,_=>by simp at h
 | _::_,[],_,_,_,_,_,_,_,h,_,_,_,_=>by simp at h
 | a0::l,u0::us,0,i,a,a',u,u',x,hl,h1,h2,hi,he=>by
   simp only [List.getElem?_cons_zero,Option.some.injEq] at h1 h2
   subst h1 h2
   simp only [List.set_cons_zero,List.zipWith_cons_cons,List.flatten_cons]
   rw [he,Nat.zero_mul,Nat.zero_add,List.set_append_left _ _ (by rw [hc];exact hi)]
 | a0::l,u0::us,k+1,i,a,a',u,u',x,hl,h1,h2,hi,he=>by
   simp only [List.getElem?_cons_succ] at h1 h2
   have ih:=flat_set c hc l us k i a a' u u' x (by simpa using hl) h1 h2 hi he
   simp only [List.set_cons_succ,List.zipWith_cons_cons,List.flatten_cons]
   rw [ih,List.set_append_right _ _ (by rw [hc,Nat.add_mul];omega),hc]
   congr 2
   rw [Nat.add_mul]
   omega
theorem flat_at {α β:Type} {n:Nat} (c:α->β->List Value) (hc:∀ a b,(c a b).length=n):∀ (l:List α) (us:List β) (k i:Nat) (a:α) (u:β) (x:Value),l[k]? = some a->us[k]? = some u->(c a u)[i]? = some x->((List.zipWith c l us).flatten)[k*n+i]? = some x
 | [],_,_,_,_,_,_,h,_,_=>by simp at h
 | _::_,[],_,_,_,_,_,_,h,_=>by simp at h
 | a0::l,u0::us,0,i,a,u,x,h1,h2,h3=>by
   simp only [List.getElem?_cons_zero,Option.some.injEq] at h1 h2
   subst h1 h2
   have hi:i<(c a0 u0).length:=by
    rcases Nat.lt_or_ge i (c a0 u0).length with h | h
    · exact h
    · rw [List.getElem?_eq_none h] at h3;cases h3
   rw [List.zipWith_cons_cons,List.flatten_cons,Nat.zero_mul,Nat.zero_add,List.getElem?_append_left hi]
   exact h3
 | a0::l,u0::us,k+1,i,a,u,x,h1,h2,h3=>by
   simp only [List.getElem?_cons_succ] at h1 h2
   have ih:=flat_at c hc l us k i a u x h1 h2 h3
   rw [List.zipWith_cons_cons,List.flatten_cons,List.getElem?_append_right (by rw [hc,Nat.add_mul];omega),hc,show (k+1)*n+i-n=k*n+i by rw [Nat.add_mul];omega]
   exact ih
theorem flat_snoc {α β:Type} (c:α->β->List Value) (l:List α) (us:List β) (a:α) (u:β) (h:us.length=l.length):(List.zipWith c (l++[a]) (us++[u])).flatten=(List.zipWith c l us).flatten++c a u:=by
 rw [List.zipWith_append h.symm]
 simp
theorem Own.setN {w:World} {base:Nat} {e:TypeId} {size n g off c:Nat} {xs:List Value} (h:Own w base e size (.slice (some ⟨g,off,none⟩) n c) n xs) (j:Nat) (u:Value) :
 Own (w.setCell ⟨g,off+j,none⟩ u) base e size (.slice (some ⟨g,off,none⟩) n c) n (xs.set j u):=by
 obtain ⟨hl,⟨h0,_⟩ | ⟨g2,off2,cap2,cur,hv2,hb,hg,hn,hm,hs,ht⟩⟩:=h
 · cases h0
 · injection hv2 with e1 e2 e3
   injection e1 with e1
   injection e1 with e1 e4
   subst e1 e3 e4
   refine ⟨by simpa using hl,.inr ⟨g,off,c,cur.setIfInBounds (off+j) u,rfl,hb,heap_setCell_same w g _ cur e u hg,hn,hm,by simpa using hs,?_⟩⟩
   rw [Array.toList_setIfInBounds,set_window,ht]
theorem Own.frozenAt {w:World} {base:Nat} {e:TypeId} {size n g off c:Nat} {xs:List Value} (h:Own w base e size (.slice (some ⟨g,off,none⟩) n c) n xs) (j:Nat):w.frozen? ⟨g,j,none⟩=false:=by
 obtain ⟨hl,⟨h0,_⟩ | ⟨g2,off2,cap2,cur,hv2,hb,hg,hn,hm,hs,ht⟩⟩:=h
 · cases h0
 · injection hv2 with e1 e2 e3
   injection e1 with e1
   injection e1 with e1 e4
   subst e1
   exact frozen_of_row w g j cur e hg
theorem FltAt.rd {w:World} {B gF:Nat} {tag:Tag} {f:Flt} (h:FltAt w B gF tag f):∃ vs vb,B<=gF/\Blk w gF 165 #[vs,vb]/\RdL w (fun b=>B<=b) vs f.sh/\RdL w (fun b=>B<=b) vb f.book:=by
 obtain ⟨vs,vb,us,ws,h0,h1,h2,h3,h4,h5,h6,h7⟩:=h
 refine ⟨vs,vb,h0,h1,?_,?_⟩
 · have hR:OwnR w B 156 (fun k=>B<=k) vs f.sh:=⟨_,h3,fun i s hs=>by
    obtain ⟨hlt,_⟩:=List.getElem?_eq_some_iff.1 hs
    have hu:=List.getElem?_eq_getElem (l:=us) (i:=i) (by omega)
    exact ⟨shCells s us[i],(h4 i s _ hs hu).rd,fun j x hx=>flat_at shCells (fun _ _=>rfl) f.sh us i j s _ x hs hu hx⟩⟩
   exact hR.rd (fun k hk=>(hR.lt k hk).1)
 · have hR:OwnR w B 61 (fun k=>B<=k) vb f.book:=⟨_,h6,fun i r hr=>by
    obtain ⟨hlt,_⟩:=List.getElem?_eq_some_iff.1 hr
    have hu:=List.getElem?_eq_getElem (l:=ws) (i:=i) (by omega)
    refine ⟨rcCells r ws[i],?_,fun j x hx=>flat_at rcCells (fun _ _=>rfl) f.book ws i j r _ x hr hu hx⟩
    exact ⟨[_],[_,_,_,_],rfl,rfl,[_],[_,_,_],rfl,rfl,[_],[_,_],rfl,rfl,[_],[_],rfl,rfl,_,rfl,rdL_bytes.2 ((OwnB.bytes (h7 i r _ hr hu).1).weak fun _ _ h=>h.1)⟩⟩
   exact hR.rd (fun k hk=>(hR.lt k hk).1)
end Go.Proofs.Ytfdibjgmbdkbcaa
namespace Go.Proofs.Ytfdibjgmbdkbcaa
open Go.RowKit Go.Lib
section
variable {w w' w'':World} {B gF k:Nat} {tag tag' tag'':Tag} {t x:Option (Nat × Nat)} {v:Value} {b:Bs} {ll:List Bs} {l:List Seg} {s:Shd} {u:ShV} {f:Flt}
theorem TB.below (h:TB w B tag t v b) (hb:Below w.heap.size w w'):TB w' B tag t v b:=⟨Own.below h.1 hb,h.2⟩
theorem TL.below (h:TL w B tag k v ll) (hb:Below w.heap.size w w'):TL w' B tag k v ll:=by
 obtain ⟨vs,h1,h2,h3⟩:=h
 refine ⟨vs,h1.below hb,h2,fun i b hi=>?_⟩
 obtain ⟨u,hu,ht⟩:=h3 i b hi
 exact ⟨u,hu,ht.below hb⟩
theorem TS.below (h:TS w B tag k v l) (hb:Below w.heap.size w w'):TS w' B tag k v l:=by
 obtain ⟨ps,h1,h2,h3,h4⟩:=h
 exact ⟨ps,h1,h2.below hb,h3,fun j s p hs hp=>(h4 j s p hs hp).below hb⟩
theorem TSh.below (h:TSh w B tag k s u) (hb:Below w.heap.size w w'):TSh w' B tag k s u:=⟨h.1.below hb,h.2.1.below hb,h.2.2.below hb⟩
theorem FltAt.below (h:FltAt w B gF tag f) (hb:Below w.heap.size w w'):FltAt w' B gF tag f:=by
 obtain ⟨vs,vb,us,ws,h0,h1,h2,h3,h4,h5,h6,h7⟩:=h
 exact ⟨vs,vb,us,ws,h0,h1.below hb h1.lt,h2,h3.below hb,fun k s u hs hu=>(h4 k s u hs hu).below hb,h5,h6.below hb,fun i r v hr hv=>(h7 i r v hr hv).below hb⟩
theorem TagOk.size (h:TagOk w B tag) (hs:w.heap.size<=w'.heap.size):TagOk w' B tag:=⟨h.1,fun b hb=>h.2 b (by omega)⟩
theorem Kept.of_below (hb:Below w.heap.size w w') (hB:B<=w.heap.size):Kept w w' B tag tag:=⟨hb.mono hB,fun _ _ h=>h,fun _ _ _ h _ _=>h.below hb h.lt⟩
theorem Kept.trans (h:Kept w w' B tag tag') (h':Kept w' w'' B tag' tag'') (_hB:B<=w.heap.size):Kept w w'' B tag tag'':=by
 refine ⟨h.1.trans h'.1,fun b hb ht=>h'.2.1 b (by have:=h.1.size;omega) (h.2.1 b hb ht),fun b cs t hk hn ht=>?_⟩
 exact h'.2.2 b cs t (h.2.2 b cs t hk hn ht) hn (h.2.1 b hk.lt ht)
theorem Chg.kept (h:Chg w w' B tag x) (hx:none≠x):Kept w w' B tag tag:=⟨h.below,fun _ _ h=>h,fun b cs t hk hn ht=>(h.same b hk.lt (by rw [ht];exact hx) (fun o ho cs' t' he=>by
 unfold Blk at hk
 rw [hk] at ho
 injection ho with ho
 rw [<-ho] at he
 injection he with _ e2
 rw [<-e2]
 exact hn)).trans hk⟩
theorem Kept.retag (hr:∀ b,b<w.heap.size->tag' b=tag b):Kept w w B tag tag':=⟨Below.refl _ _,fun b hb ht=>(hr b hb).trans ht,fun _ _ _ h _ _=>h⟩
end
theorem FltAt.setShard {w w':World} {B gF k i0:Nat} {tag:Tag} {f:Flt} {vs vb:Value} {us:List ShV} {ws:List Value} {s':Shd} {u':ShV} (h0:B<=gF) (hg:Blk w' gF 165 #[vs,vb]) (hus:us.length=f.sh.length)
 (hS:Own w' B 156 7 vs f.sh.length (flatSh (f.sh.set k s') (us.set k u'))) (hsh:∀ (j:Nat) (s:Shd) (u:ShV),f.sh[j]? = some s->us[j]? = some u->TSh w B tag j s u)
 (hws:ws.length=f.book.length) (hR:Own w' B 61 5 vb f.book.length (flatRc f.book ws)) (hrc:∀ (i:Nat) (r:Rec) (v:Value),f.book[i]? = some r->ws[i]? = some v->TB w B tag none v r.root)
 (hc:Chg w w' B tag (some (k,i0))) (hk:TSh w' B tag k s' u') (hlt:k<f.sh.length):FltAt w' B gF tag ⟨f.sh.set k s',f.book⟩:=by
 refine ⟨vs,vb,us.set k u',ws,h0,hg,by simpa using hus,by simpa using hS,fun j s u hs hu=>?_,hws,hR,fun i r v hr hv=>(hrc i r v hr hv).chg hc (by simp)⟩
 simp only at hs
 by_cases e:k=j
 · subst e
   rw [List.getElem?_set_self hlt] at hs
   rw [List.getElem?_set_self (by omega)] at hu
   injection hs with hs
   injection hu with hu
   subst hs hu
   exact hk
 · rw [List.getElem?_set_ne e] at hs hu
   exact (hsh j s u hs hu).chg hc (fun j' h=>by injection h with h;injection h with h _;exact e h.symm) (by simp)
theorem FltAt.take {w3 w4:World} {B gF gS oS cS k:Nat} {tag:Tag} {f:Flt} {vb:Value} {us:List ShV} {ws:List Value} {s:Shd} {u:ShV} {e0:Bs} {es:List Value} {v4 ue:Value} {N:Nat}
 (hB:B<=w3.heap.size) (h0:B<=gF) (hg:Blk w3 gF 165 #[.slice (some ⟨gS,oS,none⟩) f.sh.length cS,vb]) (hus:us.length=f.sh.length)
 (hS:Own w3 B 156 7 (.slice (some ⟨gS,oS,none⟩) f.sh.length cS) f.sh.length (flatSh f.sh us)) (hsh:∀ (j:Nat) (s:Shd) (u:ShV),f.sh[j]? = some s->us[j]? = some u->TSh w3 B tag j s u)
 (hws:ws.length=f.book.length) (hR:Own w3 B 61 5 vb f.book.length (flatRc f.book ws)) (hrc:∀ (i:Nat) (r:Rec) (v:Value),f.book[i]? = some r->ws[i]? = some v->TB w3 B tag none v r.root)
 (hT:TagOk w3 B tag) (hs:f.sh[k]? = some s) (hu:us[k]? = some u) (hes:Own w3 B 22 1 u.ev s.ents.length es) (hTg:Tg tag (some (k,0)) u.ev) (hin:∀ (i:Nat) (b:Bs),s.ents[i]? = some b->∃ x,es[i]? = some x/\TB w3 B tag none x b)
 (hue:OwnB w3 B ue e0) (hN:∀ b,ue.ownBlock=some b->tag b=none) (hgr:w3.grownBy w4 u.ev.ownBlock) (hown:Own w4 B 22 1 v4 (s.ents.length+1) (es++[ue])) (hat:v4.ownBlock=u.ev.ownBlock\/v4.ownBlock=some w3.heap.size) (hnil:s.ents.length+1=N) :
 ∃ tag',FltAt (w4.setCell ⟨gS,oS+(k*7+3),none⟩ v4) B gF tag' ⟨f.sh.set k { s with ents:=s.ents++[e0] },f.book⟩/\TagOk (w4.setCell ⟨gS,oS+(k*7+3),none⟩ v4) B tag'/\Kept w3 (w4.setCell ⟨gS,oS+(k*7+3),none⟩ v4) B tag tag':=by
 obtain ⟨hlt,_⟩:=List.getElem?_eq_some_iff.1 hs
 obtain ⟨cur,hcur⟩:∃ cur,w3.heap[gS]? = some (.cells cur 156 (0,0)):=(Own.type hS gS rfl).2
 have hgSB:B<=gS:=(hS.lt gS rfl).1
 have hgSlt:gS<w3.heap.size:=(hS.lt gS rfl).2
 have hrowS:u.ev.ownBlock≠some gS:=fun e=>by
  obtain ⟨_,c,hc⟩:=Own.type hes gS e
  rw [hcur] at hc
  injection hc with hc
  injection hc with _ h2
  exact absurd h2 (by decide)
 let tag':Tag:=fun b=>if v4.ownBlock=some b then some (k,0) else tag b
 have hr:∀ b,b<w3.heap.size->tag' b=tag b:=fun b hb=>by
  show (if v4.ownBlock=some b then some (k,0) else tag b)=tag b
  split
  · rename_i e
    rcases hat with h | h
    · rw [h] at e;exact (hTg b e).symm
    · rw [h] at e;injection e with e;omega
  · rfl
 have hbel:Below B w3 (w4.setCell ⟨gS,oS+(k*7+3),none⟩ v4):=((Below.refl B w3).grown hgr hB (fun b hb=>(hes.lt b hb).1)).setCell (p:=⟨gS,oS+(k*7+3),none⟩) hgSB _
 have hblk:∀ b,b<w3.heap.size->u.ev.ownBlock≠some b->b≠gS->(w4.setCell ⟨gS,oS+(k*7+3),none⟩ v4).heap[b]? = w3.heap[b]?:=fun b hb h1 h2=>by
  rw [Below.heap_setCell _ _ _ b h2]
  exact hgr.block b hb (fun e=>h1 e.symm)
 have hc:Chg w3 (w4.setCell ⟨gS,oS+(k*7+3),none⟩ v4) B tag' (some (k,0)):=⟨hbel,fun b hb ht ho=>hblk b hb (fun e=>ht (by rw [hr b hb];exact hTg b e)) (fun e=>by
  subst e
  exact ho _ hcur cur _ rfl (.inr (.inl rfl)))⟩
 have hg4:Blk w4 gF 165 #[.slice (some ⟨gS,oS,none⟩) f.sh.length cS,vb]:=hg.keep (hgr.block _ hg.lt (fun e=>Own.ne_blk hes hg (by decide) e.symm))
 have hS4:Own w4 B 156 7 (.slice (some ⟨gS,oS,none⟩) f.sh.length cS) f.sh.length (flatSh f.sh us):=hS.keep fun b hb hbl _=>hgr.block b hbl (fun e=>Own.apart hS hes (by decide) b hb e.symm)
 have hR4:Own w4 B 61 5 vb f.book.length (flatRc f.book ws):=hR.keep fun b hb hbl _=>hgr.block b hbl (fun e=>Own.apart hR hes (by decide) b hb e.symm)
 have hcur4:Blk w4 gS 156 cur:=Blk.keep (w:=w3) hcur (hgr.block _ hgSlt (fun e=>hrowS e.symm))
 have hS5:=Own.setN hS4 (k*7+3) v4
 have hfl:flatSh (f.sh.set k { s with ents:=s.ents++[e0] }) (us.set k { u with ev:=v4 })=(flatSh f.sh us).set (k*7+3) v4:=flat_set shCells (fun _ _=>rfl) f.sh us k 3 s _ u _ v4 hus hs hu (by decide) rfl
 rw [<-hfl] at hS5
 have hTk:=(hsh k s u hs hu).retag hr
 refine ⟨tag',FltAt.setShard h0 (hg4.far (p:=⟨gS,oS+(k*7+3),none⟩) (fun e=>by have:=hcur4;unfold Blk at this hg4;rw [show gS=gF from e.symm] at this;rw [hg4] at this;injection this with this;injection this with _ h2;exact absurd h2 (by decide)) v4) hus hS5 (fun j s u hs hu=>(hsh j s u hs hu).retag hr) hws
  (Own.setCell (p:=⟨gS,oS+(k*7+3),none⟩) hR4 (Own.ne_blk hR4 hcur4 (by decide)) v4) (fun i r v hr' hv=>(hrc i r v hr' hv).retag hr) hc ?_ hlt,⟨fun b hb=>?_,fun b hb=>?_⟩,(Kept.retag hr).trans (hc.kept (by simp)) hB⟩
 · have hown5:=Own.setCell (p:=⟨gS,oS+(k*7+3),none⟩) hown (Own.ne_blk hown hcur4 (by decide)) v4
   have hue':TB w3 B tag' none ue e0:=⟨hue,fun b hb=>by rw [hr b (Own.lt hue b hb).2];exact hN b hb⟩
   refine ⟨⟨es++[ue],by simpa using hown5,fun b hb=>?_,fun i b hi=>?_⟩,hTk.2.1.chg hc (by simp),hTk.2.2.chg hc (by simp) (by simp)⟩
   · show (if v4.ownBlock=some b then some (k,0) else tag b)=some (k,0)
     rw [if_pos hb]
   · have hlen:es.length=s.ents.length:=by have:=hes.1;omega
     simp only at hi
     rcases Nat.lt_or_ge i s.ents.length with h | h
     · rw [List.getElem?_append_left h] at hi
       obtain ⟨x,hx,ht⟩:=hin i b hi
       exact ⟨x,by rw [List.getElem?_append_left (by omega)];exact hx,(ht.retag hr).chg hc (by simp)⟩
     · rw [List.getElem?_append_right h] at hi
       have hi0:i-s.ents.length=0:=by
        rcases Nat.eq_zero_or_pos (i-s.ents.length) with h | h
        · exact h
        · rw [List.getElem?_eq_none (by simp;omega)] at hi;cases hi
       rw [hi0] at hi
       simp only [List.getElem?_cons_zero,Option.some.injEq] at hi
       subst hi
       exact ⟨ue,by rw [List.getElem?_append_right (by omega),hlen,hi0];rfl,hue'.chg hc (by simp)⟩
 · rw [show tag' b=tag b from hr b (by omega)]
   exact hT.1 b hb
 · have hsz:=hgr.size
   show (if v4.ownBlock=some b then some (k,0) else tag b)=none
   rw [if_neg (fun e=>by have:=(hown.lt b e).2;simp at hb;omega)]
   exact hT.2 b (by simp at hb;omega)
def Alien (t:TypeId):Prop:=¬ Own3 t/\5≠t/\22≠t/\152≠t
theorem ans_alien:Alien 105:=by unfold Alien Own3;decide
theorem FltAt.setBlk {w:World} {B gF g i:Nat} {tag:Tag} {f:Flt} {t:TypeId} {cs:Array Value} (h:FltAt w B gF tag f) (hg:Blk w g t cs) (ha:Alien t) (x:Value):FltAt (w.setCell ⟨g,i,none⟩ x) B gF tag f:=by
 obtain ⟨h3,h4,h5,h6⟩:=ha
 have n1:156≠t:=fun e=>h3 (.inr (.inl e.symm))
 have n2:61≠t:=fun e=>h3 (.inr (.inr e.symm))
 have tb:∀ {tt v b},TB w B tag tt v b->TB (w.setCell ⟨g,i,none⟩ x) B tag tt v b:=fun h=>⟨Own.setCell (p:=⟨g,i,none⟩) h.1 (Own.ne_blk h.1 hg h4) x,h.2⟩
 obtain ⟨vs,vb,us,ws,q0,q1,q2,q3,q4,q5,q6,q7⟩:=h
 refine ⟨vs,vb,us,ws,q0,q1.far (p:=⟨g,i,none⟩) (fun e=>?_) x,q2,Own.setCell (p:=⟨g,i,none⟩) q3 (Own.ne_blk q3 hg n1) x,fun k s u hs hu=>?_,q5,Own.setCell (p:=⟨g,i,none⟩) q6 (Own.ne_blk q6 hg n2) x,fun i r v hr hv=>tb (q7 i r v hr hv)⟩
 · have e':gF=g:=e
   subst e'
   unfold Blk at q1 hg
   rw [q1] at hg
   injection hg with hg
   injection hg with _ h2
   exact h3 (.inl h2.symm)
 · obtain ⟨⟨vs1,t1,t2,t3⟩,t4,ps,t5,t6,t7,t8⟩:=q4 k s u hs hu
   exact ⟨⟨vs1,Own.setCell (p:=⟨g,i,none⟩) t1 (Own.ne_blk t1 hg h5) x,t2,fun i b hb=>by obtain ⟨y,hy,ht⟩:=t3 i b hb;exact ⟨y,hy,tb ht⟩⟩,tb t4,ps,t5,Own.setCell (p:=⟨g,i,none⟩) t6 (Own.ne_blk t6 hg h6) x,t7,fun j s p hs hp=>tb (t8 j s p hs hp)⟩
def set5 (w:World) (g:Nat) (a b c d e:Value):World:=((((w.setCell ⟨g,0,none⟩ a).setCell ⟨g,1,none⟩ b).setCell ⟨g,2,none⟩ c).setCell ⟨g,3,none⟩ d).setCell ⟨g,4,none⟩ e
section
variable {w:World} {g:Nat} {x0 x1 x2 x3 x4 a b c d e:Value}
theorem set5_blk {t:TypeId} (h:Blk w g t #[x0,x1,x2,x3,x4]):Blk (set5 w g a b c d e) g t #[a,b,c,d,e]:=((((h.set_ 0 a).set_ 1 b).set_ 2 c).set_ 3 d).set_ 4 e
theorem set5_below {B:Nat} {w0:World} (h:Below B w0 w) (hg:B<=g):Below B w0 (set5 w g a b c d e) :=
 ((((h.setCell (p:=⟨g,0,none⟩) hg a).setCell (p:=⟨g,1,none⟩) hg b).setCell (p:=⟨g,2,none⟩) hg c).setCell (p:=⟨g,3,none⟩) hg d).setCell (p:=⟨g,4,none⟩) hg e
theorem set5_size:(set5 w g a b c d e).heap.size=w.heap.size:=by simp [set5]
theorem set5_far {k:Nat} (hk:k≠g):(set5 w g a b c d e).heap[k]? = w.heap[k]?:=by
 unfold set5
 rw [Below.heap_setCell _ _ _ k hk,Below.heap_setCell _ _ _ k hk,Below.heap_setCell _ _ _ k hk,Below.heap_setCell _ _ _ k hk,Below.heap_setCell _ _ _ k hk]
theorem FltAt.set5 {B gF:Nat} {tag:Tag} {f:Flt} (h:FltAt w B gF tag f) (hg:Blk w g 105 #[x0,x1,x2,x3,x4]):FltAt (set5 w g a b c d e) B gF tag f :=
 ((((h.setBlk hg ans_alien a).setBlk (hg.set_ 0 a) ans_alien b).setBlk ((hg.set_ 0 a).set_ 1 b) ans_alien c).setBlk (((hg.set_ 0 a).set_ 1 b).set_ 2 c) ans_alien d).setBlk ((((hg.set_ 0 a).set_ 1 b).set_ 2 c).set_ 3 d) ans_alien e
theorem Kept.set5 {w0:World} {B:Nat} {tag tag':Tag} (h:Kept w0 w B tag tag') (hg:w0.heap.size<=g) (hB:B<=w0.heap.size):Kept w0 (Go.Proofs.Ytfdibjgmbdkbcaa.set5 w g a b c d e) B tag tag' :=
 ⟨set5_below h.1 (by omega),h.2.1,fun k cs t hk hn ht=>(h.2.2 k cs t hk hn ht).keep (set5_far (fun e=>by have:=hk.lt;omega))⟩
end
end Go.Proofs.Ytfdibjgmbdkbcaa
namespace Go.Proofs.Ytfdibjgmbdkbcaa
open Go.RowKit Go.Lib
def DoAt (w:World) (B q o:Nat) (d:Dob):Prop :=
 q<B/\B<=w.heap.size/\w.cell? ⟨q,o,none⟩=some (.int .i64 d.kind)/\w.cell? ⟨q,o+1,none⟩=some (.int .i64 d.n)/\w.cell? ⟨q,o+2,none⟩=some (.int .i64 d.time) ∧
  (∃ A c,w.cell? ⟨q,o+3,none⟩=some (.slice A d.entry.length c)/\Bytes w (fun k=>k<B) (.slice A d.entry.length c) d.entry) ∧
  w.cell? ⟨q,o+4,none⟩=some (.int .i64 d.seg)/\w.cell? ⟨q,o+5,none⟩=some (.int .i64 d.pos)/\w.cell? ⟨q,o+6,none⟩=some (bv d.turn)
theorem DoAt.below {w w':World} {B q o:Nat} {d:Dob} (h:DoAt w B q o d) (hb:Below B w w'):DoAt w' B q o d:=by
 obtain ⟨h0,hs,h1,h2,h3,⟨A,c,h4,h5⟩,h6,h7,h8⟩:=h
 have k:∀ i:Nat,w'.cell? ⟨q,i,none⟩=w.cell? ⟨q,i,none⟩:=fun i=>hb.cell (p:=⟨q,i,none⟩) h0
 exact ⟨h0,Nat.le_trans hs hb.size,(k _).trans h1,(k _).trans h2,(k _).trans h3,⟨A,c,(k _).trans h4,SlAt.below_of h5 hb (fun _ h=>h)⟩,(k _).trans h6,(k _).trans h7,(k _).trans h8⟩
theorem inW_yes {t:Int} {s:Shd} (h1:s.fr<=t) (h2:t<s.til):Fl.inW t s=true:=by unfold Fl.inW;simp [h1,h2]
theorem inW_no {t:Int} {s:Shd} (h:¬ (s.fr<=t/\t<s.til)):Fl.inW t s=false:=by unfold Fl.inW;simp;omega
set_option maxRecDepth 100000 in
set_option maxHeartbeats 1000000 in
theorem inW_any (w:World) (gb q o:Nat) (s:Shd) (u1 u2 u3:Value) (t:Int) (hb:w.cell? ⟨gb,0,none⟩=some (.pointer (some ⟨q,o,none⟩))) (ht:w.cell? ⟨q,o+2,none⟩=some (.int .i64 t)) (hgb:gb<w.heap.size) (hq:q<w.heap.size) :
 Calls Try.prog 144 #[.agg #[.int .i64 s.fr,.int .i64 s.til,.int .i64 s.st,u1,.int .i64 s.man.size,u2,u3],.pointer (some ⟨gb,0,none⟩)] w fun e w'=>e = .returned (.bool (Fl.inW t s))/\Below w.heap.size w w':=by
 obtain ⟨fr,til,st,ents,man⟩:=s
 simp only
 have hx0:=(Below.refl w.heap.size w).alloc (Nat.le_refl _) (.cells #[.int .i64 fr,.int .i64 til,.int .i64 st,u1,.int .i64 man.size,u2,u3] 156)
 have hk:Blk (w.alloc (.cells #[.int .i64 fr,.int .i64 til,.int .i64 st,u1,.int .i64 man.size,u2,u3] 156)) w.heap.size 156 #[.int .i64 fr,.int .i64 til,.int .i64 st,u1,.int .i64 man.size,u2,u3]:=heap_alloc_new w _
 have c0:=(hx0.cell (p:=⟨gb,0,none⟩) hgb).trans hb
 have c1:=(hx0.cell (p:=⟨q,o+2,none⟩) hq).trans ht
 by_cases h1:fr<=t
 · by_cases h2:t<til
   · have HW:=Lib.hid (inW_yes (s:=⟨fr,til,st,ents,man⟩) h1 h2)
     go_enter Try.func144,Try.ntmps144
     go_wp2_with fail
     generalize w.alloc (.cells #[.int .i64 fr,.int .i64 til,.int .i64 st,u1,.int .i64 man.size,u2,u3] 156)=w1 at *
     have k0:w1.cell? ⟨w.heap.size,0,none⟩=some (.int .i64 fr):=hk.cell 0
     have k1:w1.cell? ⟨w.heap.size,1,none⟩=some (.int .i64 til):=hk.cell 1
     go_quiet (fail)
     go_wp2_with fail
     go_ret
     exact ⟨by rw [HW.out];rfl,below_drewN hx0 _⟩
   · have b2:decide (t<til)=false:=decide_eq_false h2
     have HW:=Lib.hid (inW_no (s:=⟨fr,til,st,ents,man⟩) (fun h=>h2 h.2))
     go_enter Try.func144,Try.ntmps144
     go_wp2_with fail
     generalize w.alloc (.cells #[.int .i64 fr,.int .i64 til,.int .i64 st,u1,.int .i64 man.size,u2,u3] 156)=w1 at *
     have k0:w1.cell? ⟨w.heap.size,0,none⟩=some (.int .i64 fr):=hk.cell 0
     have k1:w1.cell? ⟨w.heap.size,1,none⟩=some (.int .i64 til):=hk.cell 1
     go_quiet (fail)
     go_wp2_with fail
     go_ret
     exact ⟨by rw [HW.out];rfl,below_drewN hx0 _⟩
 · have b1:decide (fr<=t)=false:=decide_eq_false h1
   have HW:=Lib.hid (inW_no (s:=⟨fr,til,st,ents,man⟩) (fun h=>h1 h.1))
   go_enter Try.func144,Try.ntmps144
   go_wp2_with fail
   generalize w.alloc (.cells #[.int .i64 fr,.int .i64 til,.int .i64 st,u1,.int .i64 man.size,u2,u3] 156)=w1 at *
   have k0:w1.cell? ⟨w.heap.size,0,none⟩=some (.int .i64 fr):=hk.cell 0
   have k1:w1.cell? ⟨w.heap.size,1,none⟩=some (.int .i64 til):=hk.cell 1
   go_quiet (fail)
   go_wp2_with fail
   go_ret
   exact ⟨by rw [HW.out];rfl,below_drewN hx0 _⟩
def idx (o:Option Nat):Int:=match o with
 | some i=>i
 | none=>-1
theorem findIdx_at {α:Type} {p:α->Bool} {l:List α} {j:Nat} (h:(l.take j).all (fun a=>!p a)=true) (hj:j<l.length) (hp:p l[j]=true):l.findIdx? p=some j:=by
 rw [List.findIdx?_eq_some_iff_getElem]
 refine ⟨hj,hp,fun i hi=>?_⟩
 have:=List.all_eq_true.1 h l[i] (by rw [List.mem_take_iff_getElem];exact ⟨i,by omega,rfl⟩)
 simpa using this
theorem findIdx_no {α:Type} {p:α->Bool} {l:List α} (h:l.all (fun a=>!p a)=true):l.findIdx? p=none:=by
 rw [List.findIdx?_eq_none_iff]
 intro x hx
 have:=List.all_eq_true.1 h x hx
 simpa using this
theorem all_snoc {α:Type} {p:α->Bool} {l:List α} {j:Nat} (h:(l.take j).all (fun a=>!p a)=true) (hj:j<l.length) (hp:p l[j]=false):(l.take (j+1)).all (fun a=>!p a)=true:=by
 rw [List.take_succ_eq_append_getElem hj,List.all_append,h]
 simp [hp]
theorem shd_at {w:World} {F:Nat->Prop} {v:Value} {l:List Shd} (h:RdL w F v l) {j:Nat} (hj:j<l.length):∃ b off c u1 u2 u3,v = .slice (some ⟨b,off,none⟩) l.length c/\F b/\b<w.heap.size ∧
 (∀ (i:Nat) (x:Value),[.int .i64 l[j].fr,.int .i64 l[j].til,.int .i64 l[j].st,u1,.int .i64 l[j].man.size,u2,u3][i]? = some x->w.cell? ⟨b,off+j*7+i,none⟩=some x) ∧
 BList w F u1 l[j].ents/\Bytes w F u2 l[j].man.root/\RdL w F u3 l[j].man.segs:=by
 obtain ⟨b,off,c,hv,hF,hb,ecs,hr,hc⟩:=h.at_ hj
 obtain ⟨c1,c1',rfl,h1,c2,c2',rfl,h2,c3,c3',rfl,h3,c4,c4',rfl,⟨u1,h4',h4⟩,c5,c6,rfl,⟨c7,c8,rfl,h5,u2,h6',h6⟩,u3,h7',h7⟩:=hr
 have e1:c1=[.int .i64 l[j].fr]:=h1
 have e2:c2=[.int .i64 l[j].til]:=h2
 have e3:c3=[.int .i64 l[j].st]:=h3
 have e5:c7=[.int .i64 l[j].man.size]:=h5
 subst e1 e2 e3 e5 h4' h6' h7'
 exact ⟨b,off,c,u1,u2,u3,hv,hF,hb,fun i x hx=>hc i x hx,rdL_blist.1 h4,rdL_bytes.1 h6,h7⟩
set_option maxRecDepth 100000 in
set_option maxHeartbeats 2000000 in
theorem idxSh_any (w:World) (F:Nat->Prop) (v:Value) (l:List Shd) (gb q o:Nat) (t:Int) (hl:RdL w F v l) (hb:w.cell? ⟨gb,0,none⟩=some (.pointer (some ⟨q,o,none⟩))) (ht:w.cell? ⟨q,o+2,none⟩=some (.int .i64 t)) (hgb:gb<w.heap.size) (hq:q<w.heap.size) :
 Calls Try.prog 143 #[v,.func (.func 144) #[] #[.pointer (some ⟨gb,0,none⟩)]] w fun e w'=>e = .returned (.int .i64 (idx (l.findIdx? (Fl.inW t))))/\Below w.heap.size w w':=by
 obtain ⟨A,c,hv,hlc,hcm⟩:=hl.form
 subst hv
 unfold maxLen at hcm
 obtain ⟨R,HR⟩:∃ R,Hid (R=idx (l.findIdx? (Fl.inW t))):=⟨_,Lib.hid rfl⟩
 rw [<-HR.out]
 go_enter Try.func143,Try.ntmps143
 go_wp2_with fail
 go_loopg [8] l.length (fun k i wr=>∃ j:Nat,j+k=l.length/\i = .int .i64 (j:Int)/\Hid ((l.take j).all (fun a=>!Fl.inW t a)=true)/\Below w.heap.size w wr)
 case atStart=>exact ⟨0,by omega,rfl,Lib.hid (by simp),Below.refl _ _⟩
 case round =>
  obtain ⟨j,hj,rfl,HA,hx⟩:=hrel
  by_cases hlt:j<l.length
  · obtain ⟨b,off,c',u1,u2,u3,hA1,_,hb1,hc1,_,_,_⟩:=shd_at (hl.below hx) hlt
    injection hA1 with hA1 _ hA3
    subst hA1 hA3
    have hltB:(j:Int)<(l.length:Int):=by omega
    have p0:wr.cell? ⟨b,off+j*7,none⟩=some (.int .i64 l[j].fr):=hc1 0 _ rfl
    have p1:=hc1 1 _ rfl
    have p2:=hc1 2 _ rfl
    have p3:=hc1 3 _ rfl
    have p4:=hc1 4 _ rfl
    have p5:=hc1 5 _ rfl
    have p6:=hc1 6 _ rfl
    have hfy:Fl.inW t l[j]=true->R=(j:Int):=fun h=>by rw [HR.out,findIdx_at HA.out hlt h];rfl
    have hfn:Fl.inW t l[j]=false->(l.take (j+1)).all (fun a=>!Fl.inW t a)=true:=fun h=>all_snoc HA.out hlt h
    have hcl:=inW_any wr gb q o l[j] u1 u2 u3 t ((hx.cell (p:=⟨gb,0,none⟩) hgb).trans hb) ((hx.cell (p:=⟨q,o+2,none⟩) hq).trans ht) (by have:=hx.size;omega) (by have:=hx.size;omega)
    have HCL:=Lib.hid hcl
    clear hcl hc1
    generalize l[j]=s at *
    cases hin:Fl.inW t s with
    | true =>
      have hR:=hfy hin
      rw [hin] at HCL
      clear hin hfy hfn
      go_wp2_with fail
      with_reducible refine HCL.out.mono ?_
      rintro e w2 ⟨rfl,hx2⟩
      go_wp2_with fail
      go_ret
      exact ⟨by rw [hR];rfl,hx.trans (hx2.mono hx.size)⟩
    | false =>
      have HN:=Lib.hid (hfn hin)
      rw [hin] at HCL
      clear hin hfy hfn
      go_wp2_with fail
      with_reducible refine HCL.out.mono ?_
      rintro e w2 ⟨rfl,hx2⟩
      go_wp2_with fail
      go_roundg (gk-1)
      case measure=>omega
      case rel=>exact ⟨j+1,by omega,by go_num,HN,hx.trans (hx2.mono hx.size)⟩
  · have hltB:decide ((j:Int)<(l.length:Int))=false:=decide_eq_false (by omega)
    have hR:R = -1:=by
     have h:=HA.out
     rw [List.take_of_length_le (by omega)] at h
     rw [HR.out,findIdx_no h];rfl
    have HRR:=Lib.hid hR
    clear hR
    go_wp2_with fail
    go_ret
    exact ⟨by rw [HRR.out];rfl,hx⟩
end Go.Proofs.Ytfdibjgmbdkbcaa
namespace Go.Proofs.Ytfdibjgmbdkbcaa
open Go.RowKit Go.Lib
def StepP (w:World) (B gF:Nat) (tag:Tag) (r:Flt × Ans) (e:Ending) (w':World):Prop :=
 ∃ rv tag',e = .returned (.agg #[.int .i64 (r.2.err:Int),.int .i64 r.2.sh,.int .i64 r.2.pl,.int .i64 r.2.sz,rv])/\FltAt w' B gF tag' r.1/\TagOk w' B tag'/\Kept w w' B tag tag'/\OwnB w' B rv r.2.root
theorem StepP.same {w w':World} {B gF:Nat} {tag:Tag} {f:Flt} {a:Ans} {e:Ending} (hF:FltAt w B gF tag f) (hT:TagOk w B tag) (hB:B<=w.heap.size) (hb:Below w.heap.size w w') (ha:a.root=[])
 (he:e = .returned (.agg #[.int .i64 (a.err:Int),.int .i64 a.sh,.int .i64 a.pl,.int .i64 a.sz,.slice none 0 0])):StepP w B gF tag (f,a) e w' :=
 ⟨_,tag,he,hF.below hb,hT.size hb.size,Kept.of_below hb hB,by rw [ha];exact Own.nil_ _ _ _ _⟩
def SubS (w:World) (q o:Nat) (Ae:Option Addr) (n ce:Nat) (z:World):Prop:=z.cell? ⟨w.heap.size,0,none⟩=some (.pointer (some ⟨q,o,none⟩))/\z.cell? ⟨q,o+3,none⟩=some (.slice Ae n ce)
section
variable {w z z':World} {q o n ce B:Nat} {Ae:Option Addr}
theorem SubS.keep (h:SubS w q o Ae n ce z) (hb:Below z.heap.size z z') (h1:w.heap.size<z.heap.size) (h2:q<z.heap.size):SubS w q o Ae n ce z' :=
 ⟨(hb.cell (p:=⟨w.heap.size,0,none⟩) h1).trans h.1,(hb.cell (p:=⟨q,o+3,none⟩) h2).trans h.2⟩
theorem SubS.grown (h:SubS w q o Ae n ce z) {k:Option Nat} (hg:z.grownBy z' k) (hk:∀ b,k=some b->B<=b) (hq:q<B) (h1:w.heap.size<z.heap.size) (h2:q<z.heap.size) (hn:k≠some w.heap.size):SubS w q o Ae n ce z' :=
 ⟨(World.cell?_of_block (hg.block _ h1 (fun e=>hn e.symm))).trans h.1,(World.cell?_of_block (hg.block _ h2 (fun e=>by have:=hk q e.symm;omega))).trans h.2⟩
theorem SubS.set (h:SubS w q o Ae n ce z) {g:Nat} (h1:g≠w.heap.size) (h2:g≠q) (i:Nat) (v:Value):SubS w q o Ae n ce (z.setCell ⟨g,i,none⟩ v) :=
 ⟨(World.cell?_of_block (Below.heap_setCell _ _ _ _ (fun e=>h1 e.symm))).trans h.1,(World.cell?_of_block (Below.heap_setCell _ _ _ _ (fun e=>h2 e.symm))).trans h.2⟩
end
theorem submit_take {w W2 W6 W8:World} {B gF gS oS cS k A5c:Nat} {A5:Option Addr} {tag:Tag} {f:Flt} {d:Dob} {vb v6 v8:Value} {us:List ShV} {ws:List Value} {s:Shd} {u:ShV} {es:List Value}
 (hBw:B<=w.heap.size) (hx3:Below w.heap.size w W2) (q0:B<=gF) (q1:Blk W2 gF 165 #[.slice (some ⟨gS,oS,none⟩) f.sh.length cS,vb]) (q2:us.length=f.sh.length)
 (q3:Own W2 B 156 7 (.slice (some ⟨gS,oS,none⟩) f.sh.length cS) f.sh.length (flatSh f.sh us)) (q4:∀ (j:Nat) (s:Shd) (u:ShV),f.sh[j]? = some s->us[j]? = some u->TSh W2 B tag j s u)
 (q5:ws.length=f.book.length) (q6:Own W2 B 61 5 vb f.book.length (flatRc f.book ws)) (q7:∀ (i:Nat) (r:Rec) (v:Value),f.book[i]? = some r->ws[i]? = some v->TB W2 B tag none v r.root)
 (hT2:TagOk W2 B tag) (hsk:f.sh[k]? = some s) (huk:us[k]? = some u) (hes:Own W2 B 22 1 u.ev s.ents.length es) (hTg:Tg tag (some (k,0)) u.ev) (hin:∀ (i:Nat) (b:Bs),s.ents[i]? = some b->∃ x,es[i]? = some x/\TB W2 B tag none x b)
 (HEV:Hid (u.ev = .slice A5 s.ents.length A5c)) (hans2:Blk W2 (w.heap.size+1) 105 #[.int .i64 0,.int .i64 0,.int .i64 0,.int .i64 0,.slice none 0 0])
 (ho6:OwnB W6 W2.drew.heap.size v6 d.entry) (hx7:Below W2.heap.size W2 (W6.alloc (.cells #[v6] 22))) (hgr8:(W6.alloc (.cells #[v6] 22)).grownBy W8 (Value.slice A5 s.ents.length A5c).ownBlock)
 (hown8:Own W8 B 22 1 v8 (s.ents.length+1) (es++[v6])) (hat8:v8.ownBlock=(Value.slice A5 s.ents.length A5c).ownBlock\/v8.ownBlock=some (W6.alloc (.cells #[v6] 22)).heap.size) :
 Blk (W8.setCell ⟨gS,oS+k*7+3,none⟩ v8) (w.heap.size+1) 105 #[.int .i64 0,.int .i64 0,.int .i64 0,.int .i64 0,.slice none 0 0] ∧
 StepP w B gF tag (⟨f.sh.set k { s with ents:=s.ents++[d.entry] },f.book⟩,⟨0,(k:Int),(s.ents.length:Int),0,[]⟩) (.returned (.agg #[.int .i64 0,.int .i64 (k:Int),.int .i64 (s.ents.length:Int),.int .i64 0,.slice none 0 0]))
  (set5 (W8.setCell ⟨gS,oS+k*7+3,none⟩ v8) (w.heap.size+1) (.int .i64 0) (.int .i64 (k:Int)) (.int .i64 (s.ents.length:Int)) (.int .i64 0) (.slice none 0 0)):=by
 have hBW:B<=W2.heap.size:=Nat.le_trans hBw hx3.size
 obtain ⟨curS,hcurS⟩:∃ cur,W2.heap[gS]? = some (.cells cur 156 (0,0)):=(Own.type q3 gS rfl).2
 rw [<-HEV.out] at hgr8 hat8
 have hans7:=hans2.below hx7 hans2.lt
 have hes7:=hes.below hx7
 have hgSa:w.heap.size+1≠gS:=fun e=>by
  subst e
  have h1:=hans2
  unfold Blk at h1
  rw [hcurS] at h1
  injection h1 with h1
  injection h1 with _ h2
  exact absurd h2 (by decide)
 have hans9:Blk (W8.setCell ⟨gS,oS+k*7+3,none⟩ v8) (w.heap.size+1) 105 #[.int .i64 0,.int .i64 0,.int .i64 0,.int .i64 0,.slice none 0 0] :=
  (hans7.keep (hgr8.block _ hans7.lt (fun e=>Own.ne_blk hes7 hans7 (by decide) e.symm))).far (p:=⟨gS,oS+k*7+3,none⟩) hgSa v8
 refine ⟨hans9,?_⟩
 have hv6:=Own.lt ho6
 have h6:OwnB (W6.alloc (.cells #[v6] 22)) B v6 d.entry:=(ho6.mono hBW).alloc _
 have hsz7:=hx7.size
 obtain ⟨tag',hFl,hTok,hK⟩:=FltAt.take (N:=s.ents.length+1) (Nat.le_trans hBW hsz7) q0 (q1.below hx7 q1.lt) q2 (q3.below hx7) (fun j s u hs hu=>(q4 j s u hs hu).below hx7) q5 (q6.below hx7) (fun i r v hr hv=>(q7 i r v hr hv).below hx7)
  (hT2.size hsz7) hsk huk hes7 hTg (fun i b hb=>by obtain ⟨x,hx,ht⟩:=hin i b hb;exact ⟨x,hx,ht.below hx7⟩) h6 (fun b hb=>hT2.2 b (hv6 b hb).1) hgr8 hown8 hat8 rfl
 rw [<-Nat.add_assoc] at hFl hTok hK
 have hK3:Kept w (W8.setCell ⟨gS,oS+k*7+3,none⟩ v8) B tag tag':=((Kept.of_below hx3 hBw).trans (Kept.of_below hx7 hBW) hBw).trans hK hBw
 exact ⟨.slice none 0 0,tag',rfl,hFl.set5 hans9,hTok.size (by rw [set5_size];exact Nat.le_refl _),hK3.set5 (Nat.le_succ _) hBw,Own.nil_ _ _ _ _⟩
end Go.Proofs.Ytfdibjgmbdkbcaa
namespace Go.Proofs.Ytfdibjgmbdkbcaa
open Go.RowKit Go.Lib
def FltP (w:World) (B gF:Nat) (tag:Tag) (f:Flt) (vs vb:Value) (us:List ShV) (ws:List Value):Prop :=
 B<=gF/\Blk w gF 165 #[vs,vb]/\us.length=f.sh.length/\Own w B 156 7 vs f.sh.length (flatSh f.sh us) ∧
  (∀ (k:Nat) (s:Shd) (u:ShV),f.sh[k]? = some s->us[k]? = some u->TSh w B tag k s u) ∧
  ws.length=f.book.length/\Own w B 61 5 vb f.book.length (flatRc f.book ws)/\(∀ (i:Nat) (r:Rec) (v:Value),f.book[i]? = some r->ws[i]? = some v->TB w B tag none v r.root)
section
variable {w w':World} {B gF k:Nat} {tag:Tag} {f:Flt} {vs vb x:Value} {us:List ShV} {ws:List Value} {s s':Shd} {u u':ShV}
theorem FltP.at_ (h:FltP w B gF tag f vs vb us ws):FltAt w B gF tag f:=⟨vs,vb,us,ws,h⟩
theorem FltAt.parts (h:FltAt w B gF tag f):∃ vs vb us ws,FltP w B gF tag f vs vb us ws:=h
theorem FltP.below (h:FltP w B gF tag f vs vb us ws) (hb:Below w.heap.size w w'):FltP w' B gF tag f vs vb us ws:=by
 obtain ⟨h0,h1,h2,h3,h4,h5,h6,h7⟩:=h
 exact ⟨h0,h1.below hb h1.lt,h2,h3.below hb,fun k s u hs hu=>(h4 k s u hs hu).below hb,h5,h6.below hb,fun i r v hr hv=>(h7 i r v hr hv).below hb⟩
theorem FltP.drew (h:FltP w B gF tag f vs vb us ws):FltP w.drew B gF tag f vs vb us ws:=h.below ((Below.refl _ _).drew)
theorem FltP.row (h:FltP w B gF tag f vs vb us ws) (hs:f.sh[k]? = some s):∃ gS oS cS u,vs = .slice (some ⟨gS,oS,none⟩) f.sh.length cS/\us[k]? = some u/\B<=gS/\gS<w.heap.size/\f.sh.length<=cS/\cS<=maxLen/\k<f.sh.length ∧
 (∃ cur,Blk w gS 156 cur)/\TSh w B tag k s u/\∀ (i:Nat) (x:Value),(shCells s u)[i]? = some x->w.cell? ⟨gS,oS+k*7+i,none⟩=some x:=by
 obtain ⟨h0,h1,h2,h3,h4,h5,h6,h7⟩:=h
 obtain ⟨hlt,_⟩:=List.getElem?_eq_some_iff.1 hs
 obtain ⟨gS,oS,cS,e1,e2,e3,e4,e5,e6⟩:=h3.form (by omega)
 have hu:us[k]? = some (us[k]'(by omega)):=List.getElem?_eq_getElem _
 subst e1
 refine ⟨gS,oS,cS,_,rfl,hu,e2,e3,e4,e5,hlt,(Own.type h3 gS rfl).2,h4 k s _ hs hu,fun i x hx=>?_⟩
 rw [Nat.add_assoc]
 exact e6 _ x (flat_at shCells (fun _ _=>rfl) f.sh us k i s _ x hs hu hx)
theorem FltP.cell {gS oS n cS i:Nat} (h:FltP w B gF tag f (.slice (some ⟨gS,oS,none⟩) n cS) vb us ws) (hs:f.sh[k]? = some s) (hu:us[k]? = some u) (hi:i<7) (he:shCells s' u'=(shCells s u).set i x) (hk:TSh w B tag k s' u') :
 FltP (w.setCell ⟨gS,oS+k*7+i,none⟩ x) B gF tag ⟨f.sh.set k s',f.book⟩ (.slice (some ⟨gS,oS,none⟩) n cS) vb (us.set k u') ws/\(f.sh.set k s')[k]? = some s'/\(us.set k u')[k]? = some u' ∧
  Kept w (w.setCell ⟨gS,oS+k*7+i,none⟩ x) B tag tag:=by
 obtain ⟨h0,h1,h2,h3,h4,h5,h6,h7⟩:=h
 obtain ⟨hlt,_⟩:=List.getElem?_eq_some_iff.1 hs
 have hn:n=f.sh.length:=by
  obtain ⟨_,⟨e,_⟩ | ⟨g2,off2,cap2,cur,hv2,_⟩⟩:=h3
  · cases e
  · injection hv2
 subst hn
 obtain ⟨hgB,cur,hcur⟩:=Own.type h3 gS rfl
 have hlt':=(Own.lt h3 gS rfl).2
 have hne:gF≠gS:=fun e=>by
  subst e
  unfold Blk at h1
  rw [hcur] at h1
  injection h1 with h1
  injection h1 with _ h2
  exact absurd h2 (by decide)
 have hbel:Below B w (w.setCell ⟨gS,oS+k*7+i,none⟩ x):=(Below.refl B w).setCell (p:=⟨gS,oS+k*7+i,none⟩) hgB x
 have hc:∀ y,Chg w (w.setCell ⟨gS,oS+k*7+i,none⟩ x) B tag y:=fun y=>⟨hbel,fun b hb _ ho=>Below.heap_setCell _ _ _ b (fun e=>by
  have e:b=gS:=e
  subst e
  exact ho _ hcur cur _ rfl (.inr (.inl rfl)))⟩
 have hS:=Own.setN h3 (k*7+i) x
 rw [<-Nat.add_assoc] at hS
 have hfl:flatSh (f.sh.set k s') (us.set k u')=(flatSh f.sh us).set (k*7+i) x:=flat_set shCells (fun _ _=>rfl) f.sh us k i s _ u _ x h2 hs hu hi he
 rw [<-hfl] at hS
 refine ⟨⟨h0,h1.far (p:=⟨gS,oS+k*7+i,none⟩) hne x,by simpa using h2,by simpa using hS,fun j t v hj hv=>?_,h5,Own.setCell (p:=⟨gS,oS+k*7+i,none⟩) h6 (Own.ne_blk h6 hcur (by decide)) x,fun i r v hr hv=>(h7 i r v hr hv).chg (hc (some (0,0))) (by simp)⟩,
  List.getElem?_set_self hlt,List.getElem?_set_self (by omega),(hc (some (0,0))).kept (by simp)⟩
 simp only at hj
 by_cases e:k=j
 · subst e
   rw [List.getElem?_set_self hlt] at hj
   rw [List.getElem?_set_self (by omega)] at hv
   injection hj with hj
   injection hv with hv
   subst hj hv
   exact hk.chg (hc (some (k+1,0))) (fun j h=>by injection h with h;injection h with h _;omega) (by simp)
 · rw [List.getElem?_set_ne e] at hj hv
   exact (h4 j t v hj hv).chg (hc (some (k,0))) (fun j' h=>by injection h with h;injection h with h _;exact e h.symm) (by simp)
theorem FltP.snoc {v4 rv:Value} {r:Rec} {w3 w4:World} (h:FltP w3 B gF tag f vs vb us ws) (hT:TagOk w3 B tag) (hB:B<=w3.heap.size) (hrv:TB w3 B tag none rv r.root) (hgr:w3.grownBy w4 vb.ownBlock) (hown:Own w4 B 61 5 v4 (f.book.length+1) (flatRc f.book ws++rcCells r rv)) :
 FltP (w4.setCell ⟨gF,1,none⟩ v4) B gF tag ⟨f.sh,f.book++[r]⟩ vs v4 us (ws++[rv])/\TagOk (w4.setCell ⟨gF,1,none⟩ v4) B tag/\Kept w3 (w4.setCell ⟨gF,1,none⟩ v4) B tag tag:=by
 obtain ⟨h0,h1,h2,h3,h4,h5,h6,h7⟩:=h
 have hbel:Below B w3 (w4.setCell ⟨gF,1,none⟩ v4):=((Below.refl B w3).grown hgr hB (fun b hb=>(h6.lt b hb).1)).setCell (p:=⟨gF,1,none⟩) h0 _
 have hc:∀ y,Chg w3 (w4.setCell ⟨gF,1,none⟩ v4) B tag y:=fun y=>⟨hbel,fun b hb _ ho=>by
  have hne:b≠gF:=fun e=>by subst e;exact ho _ h1 _ _ rfl (.inl rfl)
  rw [Below.heap_setCell _ _ _ b hne]
  refine hgr.block b hb (fun e=>?_)
  obtain ⟨_,cur,hcur⟩:=Own.type h6 b e.symm
  exact ho _ hcur _ _ rfl (.inr (.inr rfl))⟩
 have h14:Blk w4 gF 165 #[vs,vb]:=h1.keep (hgr.block _ h1.lt (fun e=>Own.ne_blk h6 h1 (by decide) e.symm))
 have h34:Own w4 B 156 7 vs f.sh.length (flatSh f.sh us):=h3.keep fun b hb hbl _=>hgr.block b hbl (fun e=>Own.apart h3 h6 (by decide) b hb e.symm)
 have hsz:=hgr.size
 refine ⟨⟨h0,h14.set_ 1 v4,h2,Own.setCell (p:=⟨gF,1,none⟩) h34 (Own.ne_blk h34 h14 (by decide)) v4,fun k s u hs hu=>(h4 k s u hs hu).chg (hc (some (k+1,0))) (fun j h=>by injection h with h;injection h with h _;omega) (by simp),by simp [h5],?_,fun i r' v hr hv=>?_⟩,
  hT.size (by simp;omega),(hc (some (0,0))).kept (by simp)⟩
 · have hfl:flatRc (f.book++[r]) (ws++[rv])=flatRc f.book ws++rcCells r rv:=flat_snoc rcCells f.book ws r rv h5
   rw [hfl]
   simpa using Own.setCell (p:=⟨gF,1,none⟩) hown (Own.ne_blk hown h14 (by decide)) v4
 · simp only at hr
   rcases Nat.lt_or_ge i f.book.length with hlt | hge
   · rw [List.getElem?_append_left hlt] at hr
     rw [List.getElem?_append_left (by omega)] at hv
     exact (h7 i r' v hr hv).chg (hc (some (0,0))) (by simp)
   · rw [List.getElem?_append_right hge] at hr
     rw [List.getElem?_append_right (by omega),h5] at hv
     have hi0:i-f.book.length=0:=by
      rcases Nat.eq_zero_or_pos (i-f.book.length) with h | h
      · exact h
      · rw [List.getElem?_eq_none (by simp;omega)] at hr;cases hr
     rw [hi0] at hr hv
     simp only [List.getElem?_cons_zero,Option.some.injEq] at hr hv
     subst hr hv
     exact hrv.chg (hc (some (0,0))) (by simp)
theorem FltP.cells {gS oS n cS i:Nat} (h:FltP w B gF tag f (.slice (some ⟨gS,oS,none⟩) n cS) vb us ws) (hs:f.sh[k]? = some s) (hu:us[k]? = some u) {x:Value} (hx:(shCells s u)[i]? = some x):w.cell? ⟨gS,oS+k*7+i,none⟩=some x:=by
 obtain ⟨h0,h1,h2,h3,h4,h5,h6,h7⟩:=h
 obtain ⟨hlt,_⟩:=List.getElem?_eq_some_iff.1 hs
 obtain ⟨gS',oS',cS',e1,e2,e3,e4,e5,e6⟩:=h3.form (by omega)
 injection e1 with e1
 injection e1 with e1
 injection e1 with e1 e7
 subst e1 e7
 rw [Nat.add_assoc]
 exact e6 _ x (flat_at shCells (fun _ _=>rfl) f.sh us k i s _ x hs hu hx)
theorem FltP.frz {gS oS n cS:Nat} (h:FltP w B gF tag f (.slice (some ⟨gS,oS,none⟩) n cS) vb us ws) (i:Nat):w.frozen? ⟨gS,i,none⟩=false:=by
 obtain ⟨_,cur,hcur⟩:=Own.type h.2.2.2.1 gS rfl
 exact frozen_of_row w gS _ cur 156 hcur
theorem FltP.blk {gS oS n cS:Nat} (h:FltP w B gF tag f (.slice (some ⟨gS,oS,none⟩) n cS) vb us ws):B<=gS/\gS<w.heap.size/\∃ cur,Blk w gS 156 cur :=
 ⟨(Own.lt h.2.2.2.1 gS rfl).1,(Own.lt h.2.2.2.1 gS rfl).2,(Own.type h.2.2.2.1 gS rfl).2⟩
end
theorem Blk.ne {w:World} {g g':Nat} {t t':TypeId} {cs cs':Array Value} (h:Blk w g t cs) (h':Blk w g' t' cs') (hne:t≠t'):g≠g':=fun e=>by
 subst e
 unfold Blk at h h'
 rw [h] at h'
 injection h' with h'
 injection h' with _ h2
 exact hne h2
theorem SlAt.newK (w:World) (e:TypeId) (cs:List Value) (n:Nat) (hn:cs.length=n):SlAt (w.alloc (.cells cs.toArray e)) (fun k=>k=w.heap.size) n (.slice (some ⟨w.heap.size,0,none⟩) 1 1) 1 cs:=by
 refine ⟨_,1,rfl,Nat.le_refl _,by decide,by omega,fun _=>⟨w.heap.size,0,rfl,rfl,by simp,fun j u hu=>?_⟩⟩
 rw [Nat.zero_add,World.cell?_alloc_new,<-Array.getElem?_toList]
 exact hu
theorem info_rec:(Try.prog.info? 61).map (fun i=>(i.zero,i.size,i.bytes))=some (some (.agg #[.int .i64 0,.int .i64 0,.int .i64 0,.int .i64 0,.slice none 0 0]),5,56):=by kernel_rfl
theorem info_ans:(Try.prog.info? 105).map (fun i=>(i.zero,i.size,i.bytes))=some (some (.agg #[.int .i64 0,.int .i64 0,.int .i64 0,.int .i64 0,.slice none 0 0]),5,56):=by kernel_rfl
theorem info_shd:(Try.prog.info? 156).map (fun i=>(i.zero,i.size,i.bytes))=some (some (.agg #[.int .i64 0,.int .i64 0,.int .i64 0,.slice none 0 0,.int .i64 0,.slice none 0 0,.slice none 0 0]),7,104):=by kernel_rfl
theorem Own.set5 {w:World} {B size n g:Nat} {el t:TypeId} {v:Value} {xs:List Value} {x0 x1 x2 x3 x4 a b c d e:Value} (h:Own w B el size v n xs) (hg:Blk w g t #[x0,x1,x2,x3,x4]) (hne:el≠t):Own (set5 w g a b c d e) B el size v n xs :=
 Own.keep h fun k hk _ _=>set5_far (fun ek=>Own.ne_blk h hg hne (by rw [hk,ek]))
def FrzS (gS a gH:Nat) (x y n r:Value) (z:World):Prop:=z.cell? ⟨gS,a,none⟩=some x/\z.cell? ⟨gS,a+1,none⟩=some y/\z.cell? ⟨gH,0,none⟩=some n/\z.cell? ⟨gH,1,none⟩=some r
theorem FrzS.of {gS a gH:Nat} {x y n r:Value} {z z':World} (h:FrzS gS a gH x y n r z) (h1:z'.heap[gS]? = z.heap[gS]?) (h2:z'.heap[gH]? = z.heap[gH]?):FrzS gS a gH x y n r z' :=
 ⟨(World.cell?_of_block h1).trans h.1,(World.cell?_of_block h1).trans h.2.1,(World.cell?_of_block h2).trans h.2.2.1,(World.cell?_of_block h2).trans h.2.2.2⟩
end Go.Proofs.Ytfdibjgmbdkbcaa
