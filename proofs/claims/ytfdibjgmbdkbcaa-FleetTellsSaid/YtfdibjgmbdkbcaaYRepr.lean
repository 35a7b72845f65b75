/-
  Words for memory, for data of every shape at once, no program: what cells read as. No conditions. A block's two cells are stored, one behind the other: what is so behind it; no program. No conditions. What is laid in a new row is read. No conditions.
-/
import Derived.Deep.Slices
import Derived.OpenShut
import Derived.Test.YtfdibjgmbdkbcaaYGm
namespace Go.Proofs.Ytfdibjgmbdkbcaa
open Go.RowKit Go.Deep
class Rp (α:Type) where
 sz:Nat
 rd:World->(Nat->Prop)->List Value->α->Prop
 len:∀ {w:World} {F:Nat->Prop} {cs:List Value} {a:α},rd w F cs a->cs.length=sz
 keep:∀ {w w':World} {F F':Nat->Prop} {cs:List Value} {a:α},rd w F cs a->w.heap.size<=w'.heap.size->(∀ k,k<w.heap.size->F k->F' k/\w'.heap[k]? = w.heap[k]?)->rd w' F' cs a
instance:Rp Int:=⟨1,fun _ _ cs z=>cs=[.int .i64 z],by rintro w F cs z rfl;rfl,fun h _ _=>h⟩
instance:Rp UInt8:=⟨1,fun _ _ cs z=>cs=[bv z],by rintro w F cs z rfl;rfl,fun h _ _=>h⟩
instance:Rp Bool:=⟨1,fun _ _ cs z=>cs=[.bool z],by rintro w F cs z rfl;rfl,fun h _ _=>h⟩
instance {α β:Type} [Rp α] [Rp β]:Rp (α × β) :=
 ⟨Rp.sz α+Rp.sz β,fun w F cs p=>∃ c1 c2,cs=c1++c2/\Rp.rd w F c1 p.1/\Rp.rd w F c2 p.2,
  by rintro w F cs p ⟨c1,c2,rfl,h1,h2⟩;rw [List.length_append,Rp.len h1,Rp.len h2],
  by rintro w w' F F' cs p ⟨c1,c2,rfl,h1,h2⟩ hs hk;exact ⟨c1,c2,rfl,Rp.keep h1 hs hk,Rp.keep h2 hs hk⟩⟩
def RdL {α:Type} [Rp α] (w:World) (F:Nat->Prop) (v:Value) (l:List α):Prop :=
 ∃ A c,v = .slice A l.length c/\l.length<=c/\c<=maxLen ∧
  (0<l.length->∃ b off,A=some ⟨b,off,none⟩/\F b/\b<w.heap.size ∧
    ∀ (i:Nat) (a:α),l[i]? = some a->∃ ecs,Rp.rd w F ecs a/\∀ j u,ecs[j]? = some u->w.cell? ⟨b,off+i*Rp.sz α+j,none⟩=some u)
theorem RdL.keep {α:Type} [Rp α] {w w':World} {F F':Nat->Prop} {v:Value} {l:List α} (h:RdL w F v l) (hs:w.heap.size<=w'.heap.size) (hk:∀ k,k<w.heap.size->F k->F' k/\w'.heap[k]? = w.heap[k]?):RdL w' F' v l:=by
 obtain ⟨A,c,hv,h1,h2,h3⟩:=h
 refine ⟨A,c,hv,h1,h2,fun hn=>?_⟩
 obtain ⟨b,off,hA,hF,hb,hc⟩:=h3 hn
 refine ⟨b,off,hA,(hk b hb hF).1,by omega,fun i a ha=>?_⟩
 obtain ⟨ecs,he,hj⟩:=hc i a ha
 exact ⟨ecs,Rp.keep he hs hk,fun j u hu=>(World.cell?_of_block (hk b hb hF).2).trans (hj j u hu)⟩
instance {α:Type} [Rp α]:Rp (List α) :=
 ⟨1,fun w F cs l=>∃ v,cs=[v]/\RdL w F v l,by rintro w F cs p ⟨v,rfl,_⟩;rfl,
  by rintro w w' F F' cs p ⟨v,rfl,h⟩ hs hk;exact ⟨v,rfl,h.keep hs hk⟩⟩
@[reducible] def Rp.of {α β:Type} [Rp α] (f:β->α):Rp β:=⟨Rp.sz α,fun w F cs b=>Rp.rd w F cs (f b),fun h=>Rp.len h,fun h hs hk=>Rp.keep h hs hk⟩
section
variable {α:Type} [Rp α] {w w':World} {F F' S:Nat->Prop} {v:Value} {cs:List Value} {a:α} {l:List α}
theorem Rp.ch (h:Rp.rd w F cs a) (hc:Ch S w w') (hS:∀ k,F k->¬ S k):Rp.rd w' F cs a:=Rp.keep h hc.size fun k hk hF=>⟨hF,hc.block k hk (hS k hF)⟩
theorem Rp.below (h:Rp.rd w F cs a) (hb:Below w.heap.size w w'):Rp.rd w' F cs a:=Rp.keep h hb.size fun k hk hF=>⟨hF,hb.block k hk⟩
theorem Rp.below_of {B:Nat} (h:Rp.rd w F cs a) (hb:Below B w w') (hF:∀ k,F k->k<B):Rp.rd w' F cs a:=Rp.keep h hb.size fun k _ hk=>⟨hk,hb.block k (hF k hk)⟩
theorem Rp.drewN (h:Rp.rd w F cs a) (n:Nat):Rp.rd (w.drewN n) F cs a:=Rp.keep h (Nat.le_refl _) fun _ _ hF=>⟨hF,rfl⟩
theorem Rp.drew (h:Rp.rd w F cs a):Rp.rd w.drew F cs a:=Rp.keep h (Nat.le_refl _) fun _ _ hF=>⟨hF,rfl⟩
theorem Rp.alloc (h:Rp.rd w F cs a) (o:Obj):Rp.rd (w.alloc o) F cs a:=Rp.keep h (by simp) fun k hk hF=>⟨hF,Below.heap_alloc w o k hk⟩
theorem Rp.setCell (h:Rp.rd w F cs a) {p:Addr} (hp:¬ F p.block) (u:Value):Rp.rd (w.setCell p u) F cs a:=Rp.keep h (by simp) fun k _ hF=>⟨hF,Below.heap_setCell w p u k (fun e=>hp (e ▸ hF))⟩
theorem Rp.weak (h:Rp.rd w F cs a) (hF:∀ k,k<w.heap.size->F k->F' k):Rp.rd w F' cs a:=Rp.keep h (Nat.le_refl _) fun k hk hx=>⟨hF k hk hx,rfl⟩
theorem Rp.top (h:Rp.rd w F cs a):Rp.rd w (fun _=>True) cs a:=Rp.weak h fun _ _ _=>trivial
theorem RdL.ch (h:RdL w F v l) (hc:Ch S w w') (hS:∀ k,F k->¬ S k):RdL w' F v l:=h.keep hc.size fun k hk hF=>⟨hF,hc.block k hk (hS k hF)⟩
theorem RdL.below (h:RdL w F v l) (hb:Below w.heap.size w w'):RdL w' F v l:=h.keep hb.size fun k hk hF=>⟨hF,hb.block k hk⟩
theorem RdL.below_of {B:Nat} (h:RdL w F v l) (hb:Below B w w') (hF:∀ k,F k->k<B):RdL w' F v l:=h.keep hb.size fun k _ hk=>⟨hk,hb.block k (hF k hk)⟩
theorem RdL.drewN (h:RdL w F v l) (n:Nat):RdL (w.drewN n) F v l:=h.keep (Nat.le_refl _) fun _ _ hF=>⟨hF,rfl⟩
theorem RdL.drew (h:RdL w F v l):RdL w.drew F v l:=h.keep (Nat.le_refl _) fun _ _ hF=>⟨hF,rfl⟩
theorem RdL.alloc (h:RdL w F v l) (o:Obj):RdL (w.alloc o) F v l:=h.keep (by simp) fun k hk hF=>⟨hF,Below.heap_alloc w o k hk⟩
theorem RdL.setCell (h:RdL w F v l) {p:Addr} (hp:¬ F p.block) (u:Value):RdL (w.setCell p u) F v l:=h.keep (by simp) fun k _ hF=>⟨hF,Below.heap_setCell w p u k (fun e=>hp (e ▸ hF))⟩
theorem RdL.weak (h:RdL w F v l) (hF:∀ k,k<w.heap.size->F k->F' k):RdL w F' v l:=h.keep (Nat.le_refl _) fun k hk hx=>⟨hF k hk hx,rfl⟩
theorem RdL.top (h:RdL w F v l):RdL w (fun _=>True) v l:=h.weak fun _ _ _=>trivial
theorem RdL.form (h:RdL w F v l):∃ A c,v = .slice A l.length c/\l.length<=c/\c<=maxLen:=by
 obtain ⟨A,c,hv,h1,h2,_⟩:=h
 exact ⟨A,c,hv,h1,h2⟩
theorem RdL.nil_ (w:World) (F:Nat->Prop) (α:Type) [Rp α]:RdL w F (.slice none 0 0) ([]:List α):=⟨none,0,rfl,Nat.le_refl _,by simp [maxLen],fun h=>absurd h (by simp)⟩
theorem RdL.at_ (h:RdL w F v l) {i:Nat} (hi:i<l.length):∃ b off c,v = .slice (some ⟨b,off,none⟩) l.length c/\F b/\b<w.heap.size ∧
 ∃ ecs,Rp.rd w F ecs l[i]/\∀ j u,ecs[j]? = some u->w.cell? ⟨b,off+i*Rp.sz α+j,none⟩=some u:=by
 obtain ⟨A,c,hv,h1,h2,h3⟩:=h
 obtain ⟨b,off,rfl,hF,hb,hc⟩:=h3 (by omega)
 exact ⟨b,off,c,hv,hF,hb,hc i l[i] (List.getElem?_eq_getElem hi)⟩
theorem RdL.first {A:Option Addr} {n c:Nat} (h:RdL w F (.slice A n c) l) (k:Nat) (hk:k<=l.length):RdL w F (.slice A k c) (l.take k):=by
 obtain ⟨A',c',hv,h1,h2,h3⟩:=h
 injection hv with e1 e2 e3
 subst e1 e2 e3
 have hl:(l.take k).length=k:=by rw [List.length_take];omega
 refine ⟨A,c,by rw [hl],by omega,h2,fun hn=>?_⟩
 obtain ⟨b,off,hA,hF,hb,hc⟩:=h3 (by omega)
 refine ⟨b,off,hA,hF,hb,fun i a ha=>hc i a ?_⟩
 rw [List.getElem?_take] at ha
 split at ha
 · exact ha
 · cases ha
theorem RdL.rest {b off n c k:Nat} (h:RdL w F (.slice (some ⟨b,off,none⟩) n c) l) (hk:k<=l.length):RdL w F (.slice (some ⟨b,off+k*Rp.sz α,none⟩) (n-k) (c-k)) (l.drop k):=by
 obtain ⟨A',c',hv,h1,h2,h3⟩:=h
 injection hv with e1 e2 e3
 subst e1 e2 e3
 have hl:(l.drop k).length=l.length-k:=List.length_drop
 refine ⟨_,c-k,by rw [hl],by omega,by omega,fun hn=>?_⟩
 obtain ⟨b',off',hA,hF,hb,hc⟩:=h3 (by omega)
 injection hA with hA
 injection hA with e1 e2
 subst e1 e2
 refine ⟨b,_,rfl,hF,hb,fun i a ha=>?_⟩
 rw [List.getElem?_drop] at ha
 obtain ⟨ecs,he,hj⟩:=hc _ a ha
 refine ⟨ecs,he,fun j u hu=>?_⟩
 have:=hj j u hu
 rwa [Nat.add_mul,<-Nat.add_assoc] at this
end
theorem rdL_bytes {w:World} {F:Nat->Prop} {v:Value} {l:Bs}:RdL w F v l ↔ Bytes w F v l:=by
 constructor
 · rintro ⟨A,c,hv,h1,h2,h3⟩
   refine ⟨A,c,hv,h1,h2,by simp,fun hn=>?_⟩
   obtain ⟨b,off,hA,hF,hb,hc⟩:=h3 hn
   refine ⟨b,off,hA,hF,hb,fun j u hu=>?_⟩
   rw [List.getElem?_map] at hu
   obtain ⟨x,hx,rfl⟩:=Option.map_eq_some_iff.1 hu
   obtain ⟨ecs,he,hj⟩:=hc j x hx
   have he':ecs=[bv x]:=he
   subst he'
   have:=hj 0 (bv x) rfl
   rwa [show Rp.sz UInt8=1 from rfl,Nat.mul_one,Nat.add_zero] at this
 · rintro ⟨A,c,hv,h1,h2,_,h3⟩
   refine ⟨A,c,hv,h1,h2,fun hn=>?_⟩
   obtain ⟨b,off,hA,hF,hb,hc⟩:=h3 hn
   refine ⟨b,off,hA,hF,hb,fun i x hx=>⟨[bv x],rfl,fun j u hu=>?_⟩⟩
   cases j with
   | succ j=>simp at hu
   | zero =>
     rw [show Rp.sz UInt8=1 from rfl,Nat.mul_one,Nat.add_zero]
     refine hc i u ?_
     rw [List.getElem?_map,hx]
     simpa using hu
theorem rdL_blist {w:World} {F:Nat->Prop} {v:Value} {ll:List Bs}:RdL w F v ll ↔ BList w F v ll:=by
 constructor
 · rintro ⟨A,c,hv,h1,h2,h3⟩
   by_cases hn:0<ll.length
   · obtain ⟨b,off,hA,hF,hb,hc⟩:=h3 hn
     have hex:∀ i,i<ll.length->∃ u:Value,w.cell? ⟨b,off+i,none⟩=some u/\∀ x,ll[i]? = some x->Bytes w F u x:=fun i hi=>by
      obtain ⟨ecs,⟨u,he,hr⟩,hj⟩:=hc i ll[i] (List.getElem?_eq_getElem hi)
      subst he
      have:=hj 0 u rfl
      rw [show Rp.sz (List UInt8)=1 from rfl,Nat.mul_one,Nat.add_zero] at this
      exact ⟨u,this,fun x hx=>by rw [List.getElem?_eq_getElem hi] at hx;injection hx with hx;subst hx;exact rdL_bytes.1 hr⟩
     have:Inhabited Value:=⟨undef⟩
     obtain ⟨V,hV⟩:=choose_lt hex
     refine ⟨(List.range ll.length).map V,⟨A,c,hv,h1,h2,by simp,fun _=>⟨b,off,hA,hF,hb,fun j u hu=>?_⟩⟩,fun i x hx=>?_⟩
     · have hj:j<ll.length:=by
        rcases Nat.lt_or_ge j ll.length with h | h
        · exact h
        · rw [List.getElem?_eq_none (by simp;omega)] at hu;cases hu
       rw [List.getElem?_map,List.getElem?_range hj] at hu
       simp only [Option.map_some,Option.some.injEq] at hu
       rw [<-hu]
       exact (hV j hj).1
     · have hi:i<ll.length:=by
        rcases Nat.lt_or_ge i ll.length with h | h
        · exact h
        · rw [List.getElem?_eq_none h] at hx;cases hx
       refine ⟨V i,by rw [List.getElem?_map,List.getElem?_range hi];rfl,(hV i hi).2 x hx⟩
   · have h0:ll=[]:=List.eq_nil_of_length_eq_zero (by omega)
     subst h0
     exact ⟨[],⟨A,c,hv,h1,h2,rfl,fun h=>absurd h hn⟩,fun i x hx=>by simp at hx⟩
 · rintro ⟨vs,⟨A,c,hv,h1,h2,_,h3⟩,h4⟩
   refine ⟨A,c,hv,h1,h2,fun hn=>?_⟩
   obtain ⟨b,off,hA,hF,hb,hc⟩:=h3 hn
   refine ⟨b,off,hA,hF,hb,fun i x hx=>?_⟩
   obtain ⟨u,hu,hr⟩:=h4 i x hx
   refine ⟨[u],⟨u,rfl,rdL_bytes.2 hr⟩,fun j z hz=>?_⟩
   cases j with
   | succ j=>simp at hz
   | zero =>
     rw [show Rp.sz (List UInt8)=1 from rfl,Nat.mul_one,Nat.add_zero]
     simp only [List.getElem?_cons_zero,Option.some.injEq] at hz
     subst hz
     exact hc i _ hu
def OwnR {α:Type} [Rp α] (w:World) (B:Nat) (e:TypeId) (F:Nat->Prop) (v:Value) (l:List α):Prop :=
 ∃ xs:List Value,Own w B e (Rp.sz α) v l.length xs/\∀ (i:Nat) (a:α),l[i]? = some a->∃ ecs,Rp.rd w F ecs a/\∀ j u,ecs[j]? = some u->xs[i*Rp.sz α+j]? = some u
section
variable {α:Type} [Rp α] {w w':World} {F F' S:Nat->Prop} {v:Value} {a:α} {l:List α} {B:Nat} {e:TypeId}
theorem OwnR.nil_ (w:World) (B:Nat) (e:TypeId) (F:Nat->Prop) (α:Type) [Rp α]:OwnR w B e F (.slice none 0 0) ([]:List α):=⟨[],Own.nil_ _ _ _ _,fun i a h=>by simp at h⟩
theorem OwnR.keep (h:OwnR w B e F v l) (hs:w.heap.size<=w'.heap.size) (hk:∀ k,k<w.heap.size->F k->F' k/\w'.heap[k]? = w.heap[k]?) (ho:∀ k,v.ownBlock=some k->k<w.heap.size->B<=k->w'.heap[k]? = w.heap[k]?):OwnR w' B e F' v l:=by
 obtain ⟨xs,h1,h2⟩:=h
 refine ⟨xs,h1.keep ho,fun i a ha=>?_⟩
 obtain ⟨ecs,he,hj⟩:=h2 i a ha
 exact ⟨ecs,Rp.keep he hs hk,hj⟩
theorem OwnR.below (h:OwnR w B e F v l) (hb:Below w.heap.size w w'):OwnR w' B e F v l:=h.keep hb.size (fun k hk hF=>⟨hF,hb.block k hk⟩) fun k _ hk _=>hb.block k hk
theorem OwnR.alloc (h:OwnR w B e F v l) (o:Obj):OwnR (w.alloc o) B e F v l:=h.below ((Below.refl _ _).alloc (Nat.le_refl _) o)
theorem OwnR.drewN (h:OwnR w B e F v l) (n:Nat):OwnR (w.drewN n) B e F v l:=h.keep (Nat.le_refl _) (fun _ _ hF=>⟨hF,rfl⟩) fun _ _ _ _=>rfl
theorem OwnR.drew (h:OwnR w B e F v l):OwnR w.drew B e F v l:=h.keep (Nat.le_refl _) (fun _ _ hF=>⟨hF,rfl⟩) fun _ _ _ _=>rfl
theorem OwnR.weak (h:OwnR w B e F v l) (hF:∀ k,k<w.heap.size->F k->F' k):OwnR w B e F' v l:=h.keep (Nat.le_refl _) (fun k hk hx=>⟨hF k hk hx,rfl⟩) fun _ _ _ _=>rfl
theorem OwnR.mono (h:OwnR w B e F v l) {B':Nat} (hb:B'<=B):OwnR w B' e F v l:=by
 obtain ⟨xs,h1,h2⟩:=h
 exact ⟨xs,h1.mono hb,h2⟩
theorem OwnR.lt (h:OwnR w B e F v l):∀ k,v.ownBlock=some k->B<=k/\k<w.heap.size:=by
 obtain ⟨xs,h1,_⟩:=h
 exact h1.lt
theorem OwnR.shape (h:OwnR w B e F v l):∃ A c,v = .slice A l.length c/\l.length<=c/\c<=maxLen:=by
 obtain ⟨xs,h1,_⟩:=h
 obtain ⟨_,⟨rfl,h0⟩ | ⟨g,off,cap,cur,rfl,_,_,hn,hm,_⟩⟩:=h1
 · exact ⟨none,0,by rw [h0],by omega,by simp [maxLen]⟩
 · exact ⟨_,cap,rfl,hn,hm⟩
theorem OwnR.rd (h:OwnR w B e F v l) (hF:∀ k,v.ownBlock=some k->F k):RdL w F v l:=by
 have hlt:=h.lt
 obtain ⟨xs,⟨hx,⟨rfl,h0⟩ | ⟨g,off,cap,cur,rfl,hb,hg,hn,hm,hs,ht⟩⟩,h2⟩:=h
 · exact ⟨none,0,by rw [h0],by omega,by simp [maxLen],fun h=>absurd h (by omega)⟩
 · refine ⟨_,cap,rfl,hn,hm,fun _=>⟨g,off,rfl,hF g rfl,(hlt g rfl).2,fun i a ha=>?_⟩⟩
   obtain ⟨ecs,he,hj⟩:=h2 i a ha
   refine ⟨ecs,he,fun j u hu=>?_⟩
   have hu':=hj j u hu
   have hlt':i*Rp.sz α+j<l.length*Rp.sz α:=by
    rcases Nat.lt_or_ge (i*Rp.sz α+j) (l.length*Rp.sz α) with h | h
    · exact h
    · rw [List.getElem?_eq_none (by omega)] at hu';cases hu'
   rw [cell_of_row w g _ cur e (0,0) hg,<-Array.getElem?_toList]
   rw [<-ht,List.getElem?_take_of_lt hlt',List.getElem?_drop] at hu'
   rw [show off+i*Rp.sz α+j=off+(i*Rp.sz α+j) by omega]
   exact hu'
theorem OwnR.snoc {xs ecs:List Value} {v':Value} (h2:∀ (i:Nat) (a:α),l[i]? = some a->∃ ecs,Rp.rd w' F ecs a/\∀ j u,ecs[j]? = some u->xs[i*Rp.sz α+j]? = some u) (hx:xs.length=l.length*Rp.sz α)
 (ha:Rp.rd w' F ecs a) (hown:Own w' B e (Rp.sz α) v' (l.length+1) (xs++ecs)):OwnR w' B e F v' (l++[a]):=by
 refine ⟨xs++ecs,by rw [List.length_append];exact hown,fun i b hi=>?_⟩
 rcases Nat.lt_or_ge i l.length with hlt | hge
 · rw [List.getElem?_append_left hlt] at hi
   obtain ⟨es,he,hj⟩:=h2 i b hi
   refine ⟨es,he,fun j u hu=>?_⟩
   have hl:=hj j u hu
   have hlt':i*Rp.sz α+j<xs.length:=by
    rcases Nat.lt_or_ge (i*Rp.sz α+j) xs.length with h | h
    · exact h
    · rw [List.getElem?_eq_none h] at hl;cases hl
   rw [List.getElem?_append_left hlt']
   exact hl
 · rw [List.getElem?_append_right hge] at hi
   have hi0:i=l.length:=by
    rcases Nat.eq_or_lt_of_le hge with h | h
    · exact h.symm
    · rw [List.getElem?_eq_none (by simp;omega)] at hi;cases hi
   subst hi0
   simp only [Nat.sub_self,List.getElem?_cons_zero,Option.some.injEq] at hi
   subst hi
   refine ⟨ecs,ha,fun j u hu=>?_⟩
   rw [<-hx,List.getElem?_append_right (by omega),Nat.add_sub_cancel_left]
   exact hu
end
section
variable {H:Type} {enc:TypeId × Value->H} {P:Program} {w:World} {base:Nat} {spare:Nat->Bool} {held:Bool}
def Opens (P:Program) (t:TypeId) (α:Type) [Rp α]:Prop :=
 P.cellsOf t=Rp.sz α/\∀ {H:Type} {enc:TypeId × Value->H} {w:World} {base:Nat} {spare:Nat->Bool} {held:Bool} {fuel:Nat} {cs:List Value} {x:DataW H × List MemPlace},
  DataW.trod enc P w base spare held fuel t cs=some x->∃ a:α,Rp.rd w (fun _=>True) cs a
theorem opens_int {t:TypeId} (ht:P.underlying t=some (.int .i64)) (hc:P.cellsOf t=1):Opens P t Int:=⟨hc,fun h=>by
 obtain ⟨n,hcs,_⟩:=DataW.trod_int ht h
 exact ⟨n,hcs⟩⟩
theorem opens_u8 {t:TypeId} (ht:P.underlying t=some (.int .u8)) (hc:P.cellsOf t=1):Opens P t UInt8:=⟨hc,fun h=>by
 obtain ⟨n,hcs,_,hw⟩:=DataW.trod_int ht h
 have hb:=bounds_u8 hw
 refine ⟨UInt8.ofNat n.toNat,?_⟩
 show _=[bv _]
 rw [hcs]
 unfold bv
 rw [UInt8.toNat_ofNat']
 congr 2
 omega⟩
theorem opens_list {t e:TypeId} {α:Type} [Rp α] (ht:P.underlying t=some (.slice e)) (hc:P.cellsOf t=1) (he:Opens P e α) (h1:0<Rp.sz α):Opens P t (List α):=⟨hc,fun {H enc w base spare held fuel cs x} h=>by
 rcases open_slice ht h with ⟨hcs,_⟩ | ⟨a,len,cap,m,n,D,Pl,hcs,_,hl,hm,hmm,_,hx⟩
 · exact ⟨[],_,hcs,RdL.nil_ _ _ _⟩
 · have hlm:len<=m:=by rw [hmm];split<;>omega
   have hall:∀ k,k<=len->∃ l:List α,l.length=k/\∀ (i:Nat) (y:α),l[i]? = some y->∃ ecs,Rp.rd w (fun _=>True) ecs y/\∀ j u,ecs[j]? = some u->w.cell? (a.add (i*Rp.sz α+j))=some u:=by
    intro k
    induction k with
    | zero=>intro _;exact ⟨[],rfl,fun i y hy=>by simp at hy⟩
    | succ k ih =>
      intro hk
      obtain ⟨l,hlen,hl⟩:=ih (by omega)
      obtain ⟨ecs,hcell,htr⟩:=hx k (by omega)
      obtain ⟨y,hy⟩:=he.2 htr
      obtain ⟨_,hcl,hcc⟩:=World.cells?_some hcell
      refine ⟨l++[y],by simp [hlen],fun i z hz=>?_⟩
      rcases Nat.lt_or_ge i k with h | h
      · rw [List.getElem?_append_left (by omega)] at hz
        exact hl i z hz
      · rw [List.getElem?_append_right (by omega)] at hz
        have hi:i=k:=by
         rcases Nat.eq_or_lt_of_le h with h | h
         · exact h.symm
         · rw [List.getElem?_eq_none (by simp;omega)] at hz;cases hz
        subst hi
        rw [hlen,Nat.sub_self] at hz
        simp only [List.getElem?_cons_zero,Option.some.injEq] at hz
        subst hz
        refine ⟨ecs,hy,fun j u hu=>?_⟩
        have hj:j<ecs.length:=by
         rcases Nat.lt_or_ge j ecs.length with h | h
         · exact h
         · rw [List.getElem?_eq_none h] at hu;cases hu
        have:=hcc j (by omega)
        rw [<-he.1,<-add_add,this]
        exact hu
   obtain ⟨l,hlen,hll⟩:=hall len (Nat.le_refl _)
   refine ⟨l,_,hcs,some a,cap,by rw [hlen],by omega,hm,fun hp=>?_⟩
   obtain ⟨ecs,hr,hj⟩:=hll 0 l[0] (List.getElem?_eq_getElem (by omega))
   have hel:=Rp.len hr
   have h0:=hj 0 ecs[0] (List.getElem?_eq_getElem (by omega))
   rw [Nat.zero_mul,Nat.zero_add] at h0
   have h0':w.cell? a=some ecs[0]:=by simpa [Addr.add] using h0
   have hs:=World.cell?_spot h0'
   have ha:a=⟨a.block,a.off,none⟩:=by cases a;simp_all
   have hb:=World.block_lt_of_cell? w a h0'
   refine ⟨a.block,a.off,congrArg some ha,trivial,hb,fun i y hy=>?_⟩
   obtain ⟨ecs,hr,hj⟩:=hll i y hy
   refine ⟨ecs,hr,fun j u hu=>?_⟩
   have:=hj j u hu
   rw [ha,Addr.add_lit] at this
   rwa [Nat.add_assoc]⟩
theorem rd_pair {α β:Type} [Rp α] [Rp β] {F:Nat->Prop} {cs:List Value} {a:α} {b:β} {n m:Nat} (hn:n=Rp.sz α) (hl:cs.length=n+m) (h1:Rp.rd w F (cs.take n) a) (h2:Rp.rd w F ((cs.drop n).take m) b):Rp.rd w F cs (a,b):=by
 refine ⟨cs.take n,(cs.drop n).take m,?_,h1,h2⟩
 have e:(cs.drop n).take m=cs.drop n:=List.take_of_length_le (by rw [List.length_drop];omega)
 rw [e,List.take_append_drop]
end
end Go.Proofs.Ytfdibjgmbdkbcaa
namespace Go.Proofs.Ytfdibjgmbdkbcaa
open Go.RowKit
section
variable {w a:World} {g o B:Nat} {t e:TypeId} {cs:Array Value} {x y:Value}
theorem Blk.set2 (h:Blk w g t #[x,y]) (u v:Value):Blk ((w.setCell ⟨g,0,none⟩ u).setCell ⟨g,1,none⟩ v) g t #[u,v]:=(h.set_ 0 u).set_ 1 v
theorem Blk.far2 (h:Blk w o t cs) (hne:o≠g) (u v:Value):Blk ((w.setCell ⟨g,0,none⟩ u).setCell ⟨g,1,none⟩ v) o t cs:=(h.far (p:=⟨g,0,none⟩) hne u).far (p:=⟨g,1,none⟩) hne v
theorem below_set2 (h:Below B a w) (hg:B<=g) (u v:Value):Below B a ((w.setCell ⟨g,0,none⟩ u).setCell ⟨g,1,none⟩ v):=(h.setCell (p:=⟨g,0,none⟩) hg u).setCell (p:=⟨g,1,none⟩) hg v
theorem Own.set2 {size n:Nat} {z:Value} {xs:List Value} (h:Own w B e size z n xs) (hg:z.ownBlock≠some g) (u v:Value):Own ((w.setCell ⟨g,0,none⟩ u).setCell ⟨g,1,none⟩ v) B e size z n xs :=
 Own.setCell (p:=⟨g,1,none⟩) (Own.setCell (p:=⟨g,0,none⟩) h hg u) hg v
end
end Go.Proofs.Ytfdibjgmbdkbcaa
namespace Go.Proofs.Ytfdibjgmbdkbcaa
open Go.RowKit Go.Lib
open Go.RowKit
theorem flatten_at {n:Nat}:∀ (ls:List (List Value)) (i j:Nat) (ecs:List Value) (u:Value),(∀ c ∈ ls,c.length=n)->ls[i]? = some ecs->ecs[j]? = some u->ls.flatten[i*n+j]? = some u
 | [],_,_,_,_,_,h,_=>by simp at h
 | c::ls,0,j,ecs,u,_,h,hu=>by
   simp only [List.getElem?_cons_zero,Option.some.injEq] at h
   subst h
   have hj:j<c.length:=by
    rcases Nat.lt_or_ge j c.length with h | h
    · exact h
    · rw [List.getElem?_eq_none h] at hu;cases hu
   rw [List.flatten_cons,Nat.zero_mul,Nat.zero_add,List.getElem?_append_left hj]
   exact hu
 | c::ls,i+1,j,ecs,u,hl,h,hu=>by
   have hc:=hl c (List.mem_cons_self ..)
   simp only [List.getElem?_cons_succ] at h
   have ih:=flatten_at ls i j ecs u (fun d hd=>hl d (List.mem_cons_of_mem _ hd)) h hu
   rw [List.flatten_cons,List.getElem?_append_right (by rw [hc,Nat.add_mul];omega),hc,show (i+1)*n+j-n=i*n+j by rw [Nat.add_mul];omega]
   exact ih
theorem RdL.new {α:Type} [Rp α] (w:World) (F:Nat->Prop) (e:TypeId) (ls:List (List Value)) (l:List α) (hm:l.length<=maxLen) (hn:ls.length=l.length) (h:∀ (i:Nat) (a:α),l[i]? = some a->∃ ecs,ls[i]? = some ecs/\Rp.rd w F ecs a) :
 RdL (w.alloc (.cells ls.flatten.toArray e)) (fun _=>True) (.slice (some ⟨w.heap.size,0,none⟩) l.length l.length) l:=by
 refine ⟨_,l.length,rfl,Nat.le_refl _,hm,fun _=>⟨w.heap.size,0,rfl,trivial,by simp,fun i a ha=>?_⟩⟩
 obtain ⟨ecs,he,hr⟩:=h i a ha
 refine ⟨ecs,Rp.top (Rp.alloc hr _),fun j u hu=>?_⟩
 have hlen:∀ c ∈ ls,c.length=Rp.sz α:=fun c hc=>by
  obtain ⟨k,hk,hkc⟩:=List.getElem_of_mem hc
  obtain ⟨ecs',he',hr'⟩:=h k l[k] (List.getElem?_eq_getElem (by omega))
  rw [List.getElem?_eq_getElem hk] at he'
  injection he' with he'
  rw [<-hkc,he']
  exact Rp.len hr'
 rw [cell_of_row _ w.heap.size _ ls.flatten.toArray e (0,0) (heap_alloc_new w _),Nat.zero_add,List.getElem?_toArray]
 exact flatten_at ls i j ecs u hlen he hu
end Go.Proofs.Ytfdibjgmbdkbcaa
