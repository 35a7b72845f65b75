/-
  THE PLAIN LAW of manifests in a fleet: they are not too long, whatever is done. No conditions. Words for memory: the document's fleet in a play, its answers behind it. No conditions. THE WALK of yearref5.WrongWindows. Conditions: what comes in is read as windows.
-/
import Derived.Test.YtfdibjgmbdkbcaaYGp
import Derived.Test.YtfdibjgmbdkbcaaYGu
import Derived.Test.YtfdibjgmbdkbcaaYR7A
namespace Go.Proofs.Ytfdibjgmbdkbcaa
namespace Fl
def ManOk (m:Man):Prop:=m.segs.length<=100/\∀ t ∈ m.segs,t.packed.length<=1000000
def MOk (f:Flt):Prop:=∀ (k:Nat) (s:Shd),f.sh[k]? = some s->s.man.segs.length<=100/\∀ t ∈ s.man.segs,t.packed.length<=1000000
theorem MOk.set_ {f:Flt} (h:MOk f) {k:Nat} {s':Shd} {b:List Rec} (hs:ManOk s'.man):MOk ⟨f.sh.set k s',b⟩:=fun j t hj=>by
 simp only at hj
 by_cases e:k=j
 · subst e
   rw [List.getElem?_set] at hj
   split at hj
   · rename_i hlt
     first | (split at hj<;>first | (injection hj with hj;subst hj;exact hs) | cases hj) | (injection hj with hj;subst hj;exact hs)
   · exact h k t hj
 · rw [List.getElem?_set_ne e] at hj
   exact h j t hj
theorem ManOk.man {l:List Bs} (h:Fine l):ManOk (Shf.manOf l):=by
 refine ⟨?_,fun t ht=>?_⟩
 · show (Shf.segsOf l).length<=100
   have:=h.1
   rw [Shf.segs_len]
   unfold Shf.nsegs
   omega
 · obtain ⟨j,_,rfl⟩:=List.mem_map.1 (show t ∈ (List.range (Shf.nsegs l.length)).map (Shf.segOf l) from ht)
   have h1:=Pk.pack_le (Shf.lay (Shf.part l j))
   have h2:=Shf.lay_part_len h j
   show (Pk.pack (Shf.lay (Shf.part l j))).length<=1000000
   omega
theorem ManOk.spoil {m:Man} (h:ManOk m) (j p:Nat) (x:UInt8):ManOk (spoilM m j p x):=by
 unfold spoilM
 refine ⟨by simpa using h.1,fun t ht=>?_⟩
 simp only at ht
 rcases List.mem_or_eq_of_mem_set ht with h1 | h1
 · exact h.2 t h1
 · subst h1
   show (turned _ p x).length<=1000000
   unfold turned
   rw [List.length_set,List.getD_eq_getElem?_getD]
   cases hj:m.segs[j]? with
   | none=>simp
   | some g=>exact h.2 g (List.mem_of_getElem? hj)
theorem MOk.step {f:Flt} (h:MOk f) (hI:Inv f) (d:Dob):MOk (step f d).1:=by
 unfold Fl.step
 split
 · unfold Fl.submit
   split
   · exact h
   · split
     · exact h
     · split
       · exact h
       · rename_i s hs
         split
         · exact h
         · split
           · exact h
           · split
             · exact h
             · exact h.set_ (h _ s hs)
 · split
   · exact h
   · split
     · exact h
     · split
       · exact h
       · rename_i s hs
         split
         · exact h
         · split
           · exact h.set_ (h _ s hs)
           · split
             · exact h.set_ (ManOk.man (hI.sh _ s hs).fine)
             · split
               · unfold Fl.retire
                 split
                 · exact h.set_ (h _ s hs)
                 · exact h
               · unfold Fl.spoil
                 split
                 · exact h
                 · split
                   · exact h
                   · exact h.set_ (ManOk.spoil (h _ s hs) _ _ _)
theorem MOk.run:∀ {f:Flt} (_:MOk f) (_:Inv f) (l:List Dob),MOk (run f l).1
 | _,h,_,[]=>h
 | _,h,hI,d::l=>MOk.run (h.step hI d) (hI.step d) l
theorem MOk.start (l:List (Int × Int)):MOk (start l):=fun k s hs=>by
 have hs:(l.map fun p=>(⟨p.1,p.2,1,[],Shf.zeroM⟩:Shd))[k]? = some s:=hs
 rw [List.getElem?_map] at hs
 obtain ⟨p,_,rfl⟩:=Option.map_eq_some_iff.1 hs
 exact ⟨by simp [Shf.zeroM],fun t ht=>by simp [Shf.zeroM] at ht⟩
end Fl
end Go.Proofs.Ytfdibjgmbdkbcaa
namespace Go.Proofs.Ytfdibjgmbdkbcaa
open Go.RowKit Go.Lib
theorem SlAt.move {w w':World} {F F':Nat->Prop} {size n:Nat} {v:Value} {xs:List Value} (h:SlAt w F size v n xs) (hs:w.heap.size<=w'.heap.size) (hk:∀ k,k<w.heap.size->F k->F' k/\w'.heap[k]? = w.heap[k]?):SlAt w' F' size v n xs :=
 SlAt.weak (SlAt.keep (SlAt.weak h (F':=fun k=>k<w.heap.size/\F k) fun _ h1 h2=>⟨h1,h2⟩) hs fun k _ hk'=>(hk k hk'.1 hk'.2).2) fun k _ hk'=>(hk k hk'.1 hk'.2).1
def RF0 (w:World) (B gF:Nat) (A:Option Addr) (cS:Nat) (sh:List Shd):Prop :=
 B<=gF/\Blk w gF 92 #[.slice A sh.length cS,.slice none 0 0]/\Own w B 156 7 (.slice A sh.length cS) sh.length (flatSh sh (sh.map fun _=>newShV))
theorem RF0.below {w w':World} {B gF cS:Nat} {A:Option Addr} {sh:List Shd} (h:RF0 w B gF A cS sh) (hb:Below w.heap.size w w'):RF0 w' B gF A cS sh:=⟨h.1,h.2.1.below hb h.2.1.lt,h.2.2.below hb⟩
theorem RF0.snoc {w w4:World} {B gF cS c4:Nat} {A A4:Option Addr} {sh:List Shd} {a b:Int} (h:RF0 w B gF A cS sh) (hB:B<=w.heap.size) (hgr:w.grownBy w4 (Value.slice A sh.length cS).ownBlock)
 (hown:Own w4 B 156 7 (.slice A4 (sh.length+1) c4) (sh.length+1) (flatSh sh (sh.map fun _=>newShV)++shCells (newShd a b) newShV)) :
 RF0 (w4.setCell ⟨gF,0,none⟩ (.slice A4 (sh.length+1) c4)) B gF A4 c4 (sh++[newShd a b])/\Below B w (w4.setCell ⟨gF,0,none⟩ (.slice A4 (sh.length+1) c4)):=by
 obtain ⟨h0,h1,h2⟩:=h
 have h14:Blk w4 gF 92 #[.slice A sh.length cS,.slice none 0 0]:=h1.keep (hgr.block _ h1.lt (fun e=>Own.ne_blk h2 h1 (by decide) e.symm))
 have hl:(sh++[newShd a b]).length=sh.length+1:=by simp
 have hfl:flatSh (sh++[newShd a b]) ((sh++[newShd a b]).map fun _=>newShV)=flatSh sh (sh.map fun _=>newShV)++shCells (newShd a b) newShV:=by
  rw [List.map_append]
  exact flat_snoc shCells sh _ _ _ (by simp)
 refine ⟨⟨h0,by rw [hl];exact h14.set_ 0 _,?_⟩,((Below.refl B w).grown hgr hB (fun b hb=>(h2.lt b hb).1)).setCell (p:=⟨gF,0,none⟩) h0 _⟩
 rw [hl,hfl]
 exact Own.setCell (p:=⟨gF,0,none⟩) hown (Own.ne_blk hown h14 (by decide)) _
abbrev awayOf (B:Nat) (v:Value):Away:=⟨fun b=>b<B\/v.ownBlock=some b⟩
theorem RF0.flt {w:World} {B gF cS:Nat} {A:Option Addr} {sh:List Shd} (h:RF0 w B gF A cS sh) (hn:∀ s ∈ sh,s.ents=[]/\s.man=Shf.zeroM):∃ gS,gS<w.heap.size/\∀ i:Away,(∀ b,i.X b->b<w.heap.size)->@RFlt i w B gF gS gF ⟨sh,[]⟩:=by
 obtain ⟨h0,h1,h2⟩:=h
 have key:∀ gS,B<=gS->gS<w.heap.size->(∀ p,A=some p->p.block=gS)->∀ i:Away,(∀ b,i.X b->b<w.heap.size)->@RFlt i w B gF gS gF ⟨sh,[]⟩:=by
  intro gS hB hl hA i hX
  refine ⟨A,cS,.slice none 0 0,sh.map fun _=>newShV,h0,hB,hl,h1,by simp,h2,hA,fun k s u hs hu=>?_,RdL.nil_ _ _ _,hX⟩
  simp only at hs
  rw [List.getElem?_map,hs] at hu
  injection hu with hu
  subst hu
  obtain ⟨e1,e2⟩:=hn s (List.mem_of_getElem? hs)
  refine ⟨?_,?_,?_⟩
  · rw [e1];exact ⟨[],SlAt.nil_ _ _ _,fun i b h=>by simp at h⟩
  · rw [e2];exact SlAt.nil_ _ _ _
  · rw [e2];exact RdL.nil_ _ _ _
 cases A with
 | none=>exact ⟨gF,h1.lt,key gF h0 h1.lt (fun p hp=>by cases hp)⟩
 | some p =>
   obtain ⟨hb,hl⟩:=h2.lt p.block rfl
   exact ⟨p.block,hl,key p.block hb hl (fun q hq=>by injection hq with hq;rw [hq])⟩
theorem RFlP.move {i i':Away} {w w':World} {B gF gS cS:Nat} {A:Option Addr} {vb:Value} {us:List ShV} {f:Flt} (h:@RFlP i w B gF gS gF A cS vb us f) (hs:w.heap.size<=w'.heap.size) (hF:w'.heap[gF]? = w.heap[gF]?) (hS:w'.heap[gS]? = w.heap[gS]?)
 (hk:∀ b,b<w.heap.size->@NF i gF gS gF b->@NF i' gF gS gF b/\w'.heap[b]? = w.heap[b]?) (hX:∀ b,i'.X b->b<w'.heap.size):@RFlP i' w' B gF gS gF A cS vb us f:=by
 obtain ⟨h0,h1,h2,h3,h4,h5,h6,h7,h8,_⟩:=h
 refine ⟨h0,h1,Nat.lt_of_lt_of_le h2 hs,h3.keep hF,h4,Own.keep h5 fun b hb _ _=>?_,h6,fun k s u hk1 hk2=>?_,h8.keep hs hk,hX⟩
 · cases A with
   | none=>cases hb
   | some p =>
     injection hb with hb
     have:=h6 p rfl
     rw [<-hb,this]
     exact hS
 · obtain ⟨a1,a2,a3⟩:=h7 k s u hk1 hk2
   exact ⟨a1.map_ fun _ _ _ q=>q.move hs hk,SlAt.move a2 hs hk,a3.keep hs hk⟩
def POut (w:World) (B gF gS:Nat) (v:Value) (r:Flt × List Ans):Prop :=
 @RFlt (awayOf B v) w B gF gS gF r.1/\OwnR w B 105 (@NF (awayOf B v) gF gS gF) v r.2/\v.ownBlock≠some gF/\v.ownBlock≠some gS
theorem POut.below {w w':World} {B gF gS:Nat} {v:Value} {r:Flt × List Ans} (h:POut w B gF gS v r) (hb:Below w.heap.size w w'):POut w' B gF gS v r:=⟨@RFlt.below (awayOf B v) _ _ _ _ _ _ _ h.1 hb,h.2.1.below hb,h.2.2⟩
theorem POut.step {w w':World} {B gF gS:Nat} {v:Value} {f:Flt} {l:List Ans} {r:Flt × Ans} {e:Ending} (h:POut w B gF gS v (f,l)) (hs:@RStepP (awayOf B v) w B gF gS r e w') :
 POut w' B gF gS v (r.1,l)/\Below B w w'/\∃ rv,e = .returned (.agg #[.int .i64 (r.2.err:Int),.int .i64 r.2.sh,.int .i64 r.2.pl,.int .i64 r.2.sz,rv])/\Bytes w' (@NF (awayOf B v) gF gS gF) rv r.2.root:=by
 obtain ⟨rv,h1,h2,h3,h4⟩:=hs
 obtain ⟨q1,q2,q3,q4⟩:=h
 refine ⟨⟨h2,q2.keep h4.size (fun k hk hF=>⟨hF,h4.1.block k hk fun e=>?_⟩) (fun k hk hlt _=>h4.1.block k hlt fun e=>?_),q3,q4⟩,h4.2,rv,h1,h3⟩
 · rcases e with e | e | e
   · exact hF.1 e
   · exact hF.2.1 e
   · exact hF.1 e
 · rcases e with e | e | e
   · exact q3 (by rw [hk,e])
   · exact q4 (by rw [hk,e])
   · exact q3 (by rw [hk,e])
theorem POut.snoc {w w':World} {B gF gS:Nat} {v v' rv:Value} {f:Flt} {l:List Ans} {a:Ans} {xs:List Value} (hf:@RFlt (awayOf B v) w B gF gS gF f) (hB:B<=w.heap.size) (hx:xs.length=l.length*5) (hown0:Own w B 105 5 v l.length xs)
 (hr:∀ (i:Nat) (a:Ans),l[i]? = some a->∃ ecs,Rp.rd w (@NF (awayOf B v) gF gS gF) ecs a/\∀ j u,ecs[j]? = some u->xs[i*5+j]? = some u) (hF:v.ownBlock≠some gF) (hS:v.ownBlock≠some gS) (hrv:Bytes w (@NF (awayOf B v) gF gS gF) rv a.root)
 (hgr:w.grownBy w' v.ownBlock) (hown:Own w' B 105 5 v' (l.length+1) (xs++[.int .i64 (a.err:Int),.int .i64 a.sh,.int .i64 a.pl,.int .i64 a.sz,rv])) (hat:v'.ownBlock=v.ownBlock\/v'.ownBlock=some w.heap.size):POut w' B gF gS v' (f,l++[a])/\Below B w w':=by
 obtain ⟨A,cS,vb,us,hP⟩:=hf
 have hgF:gF<w.heap.size:=hP.2.2.2.1.lt
 have hgS:gS<w.heap.size:=hP.2.2.1
 have hk:∀ b,b<w.heap.size->@NF (awayOf B v) gF gS gF b->@NF (awayOf B v') gF gS gF b/\w'.heap[b]? = w.heap[b]?:=fun b hb hn=>by
  refine ⟨⟨hn.1,hn.2.1,hn.2.2.1,fun e=>?_⟩,hgr.block b hb fun e=>hn.2.2.2 (.inr e.symm)⟩
  rcases e with e | e
  · exact hn.2.2.2 (.inl e)
  · rcases hat with h | h
    · exact hn.2.2.2 (.inr (h.symm.trans e))
    · rw [h] at e;injection e with e;omega
 have hX:∀ b,(awayOf B v').X b->b<w'.heap.size:=fun b hb=>by
  rcases hb with h | h
  · have:=hgr.size;omega
  · exact (hown.lt b h).2
 refine ⟨⟨⟨A,cS,vb,us,hP.move hgr.size (hgr.block gF hgF fun e=>hF e.symm) (hgr.block gS hgS fun e=>hS e.symm) hk hX⟩,OwnR.snoc (xs:=xs) (fun i b hb=>?_) hx ?_ hown,?_,?_⟩,(Below.refl B w).grown hgr hB (fun b hb=>(hown0.lt b hb).1)⟩
 · obtain ⟨ecs,h1,h2⟩:=hr i b hb
   exact ⟨ecs,Rp.keep h1 hgr.size hk,h2⟩
 · exact ⟨[_],[_,_,_,_],rfl,rfl,[_],[_,_,_],rfl,rfl,[_],[_,_],rfl,rfl,[_],[_],rfl,rfl,_,rfl,rdL_bytes.2 (SlAt.move hrv hgr.size hk)⟩
 · rcases hat with h | h
   · rw [h];exact hF
   · rw [h];intro e;injection e with e;omega
 · rcases hat with h | h
   · rw [h];exact hS
   · rw [h];intro e;injection e with e;omega
theorem RSh.rd {i:Away} {w:World} {gF gS ga:Nat} {s:Shd} {u:ShV} {G:Nat->Prop} (h:@RSh i w gF gS ga s u) (hG:∀ b,@NF i gF gS ga b->G b):Rp.rd w G (shCells s u) s :=
 ⟨[_],[_,_,_,_,_,_],rfl,rfl,[_],[_,_,_,_,_],rfl,rfl,[_],[_,_,_,_],rfl,rfl,[_],[_,_,_],rfl,⟨_,rfl,rdL_blist.2 (h.1.weak fun b _ hb=>hG b hb)⟩,
  [_,_],[_],rfl,⟨[_],[_],rfl,rfl,_,rfl,rdL_bytes.2 (SlAt.weak h.2.1 fun b _ hb=>hG b hb)⟩,_,rfl,h.2.2.weak fun b _ hb=>hG b hb⟩
theorem POut.rd {w:World} {B gF gS:Nat} {v:Value} {r:Flt × List Ans} (h:POut w B gF gS v r) :
 ∃ A cS vb,Blk w gF 92 #[.slice A r.1.sh.length cS,vb]/\RdL w (fun b=>B<=b) (.slice A r.1.sh.length cS) r.1.sh/\RdL w (fun b=>B<=b) vb r.1.book/\RdL w (fun b=>B<=b) v r.2:=by
 obtain ⟨⟨A,cS,vb,us,h0,h1,h2,h3,h4,h5,h6,h7,h8,_⟩,q2,_,_⟩:=h
 have hG:∀ b,@NF (awayOf B v) gF gS gF b->B<=b:=fun b hb=>by
  rcases Nat.lt_or_ge b B with h | h
  · exact absurd (.inl h) hb.2.2.2
  · exact h
 refine ⟨A,cS,vb,h3,?_,h8.weak fun b _ hb=>hG b hb,(q2.weak fun b _ hb=>hG b hb).rd fun b hb=>(q2.lt b hb).1⟩
 have hR:OwnR w B 156 (fun k=>B<=k) (.slice A r.1.sh.length cS) r.1.sh:=⟨_,h5,fun i s hs=>by
  obtain ⟨hlt,_⟩:=List.getElem?_eq_some_iff.1 hs
  have hu:=List.getElem?_eq_getElem (l:=us) (i:=i) (by omega)
  exact ⟨shCells s us[i],(h7 i s _ hs hu).rd hG,fun j x hx=>flat_at shCells (fun _ _=>rfl) r.1.sh us i j s _ x hs hu hx⟩⟩
 exact hR.rd (fun k hk=>(hR.lt k hk).1)
end Go.Proofs.Ytfdibjgmbdkbcaa
namespace Go.Proofs.Ytfdibjgmbdkbcaa
open Go.RowKit Go.Lib
set_option maxRecDepth 100000 in
set_option maxHeartbeats 4000000 in
theorem rwrongW_any (w:World) (F:Nat->Prop) (v:Value) (l:List (Int × Int)) (hl:RdL w F v l) :
 Calls Try.prog 76 #[v] w fun e w'=>e = .returned (fv (Fl.wrongW l))/\Below w.heap.size w w':=by
 obtain ⟨A,c,hv,hlc,hcm⟩:=hl.form
 subst hv
 unfold maxLen at hcm
 have hx0:=(Below.refl w.heap.size w).alloc (Nat.le_refl _) (.cells #[.int .i64 0,.int .i64 0] 32)
 have hflt:Blk (w.alloc (.cells #[.int .i64 0,.int .i64 0] 32)) w.heap.size 32 #[.int .i64 0,.int .i64 0]:=heap_alloc_new w _
 obtain ⟨R,HR⟩:∃ R,Hid (R=Fl.wrongW l):=⟨_,Lib.hid rfl⟩
 rw [<-HR.out]
 by_cases h8:8<l.length
 · have HS:Hid (R=(5,0)):=Lib.hid (by rw [HR.out];unfold Fl.wrongW;rw [if_pos h8])
   have h8B:(8:Int)<(l.length:Int):=by omega
   go_enter Try.func76,Try.ntmps76
   go_wp2_with fail
   refine bodyPost_ret (v:=.agg #[.int .i64 5,.int .i64 0]) (by simp [results,Try.results76,go_sem]) rfl ?_
   exact ⟨by rw [HS.out];rfl,(Below.refl w.heap.size w).alloc (Nat.le_refl _) _⟩
 have HS:Hid (R=Fl.wrongF 0 l 0):=Lib.hid (by rw [HR.out];unfold Fl.wrongW;rw [if_neg h8])
 have h8B:decide ((8:Int)<(l.length:Int))=false:=decide_eq_false (by omega)
 go_enter Try.func76,Try.ntmps76
 go_wp2_with fail
 go_loopg [11] l.length (fun k i wr=>∃ j:Nat,j+k=l.length/\i = .int .i64 (j:Int)/\Hid (Fl.wrongF (prevE l j) (l.drop j) j=R)/\Blk wr w.heap.size 32 #[.int .i64 0,.int .i64 0]/\Below w.heap.size w wr)
 case atStart=>exact ⟨0,by omega,rfl,Lib.hid HS.out.symm,hflt,hx0⟩
 case round =>
  obtain ⟨j,hj,rfl,HW,hfl,hx⟩:=hrel
  by_cases hlt:j<l.length
  · have hlr:=hl.below hx
    obtain ⟨b,off,c',hA1,_,hb1,c0,c1⟩:=win_at hlr hlt
    injection hA1 with hA1 _ hA3
    subst hA1 hA3
    have hltB:(j:Int)<(l.length:Int):=by omega
    have hj0:(0:Int)<=(j:Int):=by omega
    have HN:=Lib.hid (HW.out.symm.trans (wrongF_at hlt _))
    have HP:=Lib.hid (prevE_succ hlt)
    have hprev:0<j->∃ (h:j-1<l.length),prevE l j=l[j-1].2/\wr.cell? ⟨b,off+(j-1)*2+1,none⟩=some (.int .i64 l[j-1].2):=fun h0=>by
     obtain ⟨hm,he⟩:=prevE_at h0 (Nat.le_of_lt hlt)
     obtain ⟨b',off',c',hA1,_,_,_,c1'⟩:=win_at hlr hm
     injection hA1 with hA1 _ hA3
     injection hA1 with hA1
     injection hA1 with e1 e2
     subst e1 e2
     exact ⟨hm,he,c1'⟩
    generalize prevE l j=pe at *
    generalize hp:l[j]=p at *
    clear hp
    obtain ⟨pa,pb⟩:=p
    simp only at c0 c1 HN HP
    go_upto_region 6 with (fail)
    have hx2:=(Below.refl wr.heap.size wr).alloc (Nat.le_refl _) (.cells #[.int .i64 pa,.int .i64 pb] 112)
    have hbox:Blk (wr.alloc (.cells #[.int .i64 pa,.int .i64 pb] 112)) wr.heap.size 112 #[.int .i64 pa,.int .i64 pb]:=heap_alloc_new wr _
    generalize wr.alloc (.cells #[.int .i64 pa,.int .i64 pb] 112)=w2 at *
    have hf2:=hfl.below hx2 hfl.lt
    have k0:w2.cell? ⟨wr.heap.size,0,none⟩=some (.int .i64 pa):=hbox.cell 0
    have k1:w2.cell? ⟨wr.heap.size,1,none⟩=some (.int .i64 pb):=hbox.cell 1
    have r0:w2.cell? ⟨w.heap.size,0,none⟩=some (.int .i64 0):=hf2.cell 0
    have r1:w2.cell? ⟨w.heap.size,1,none⟩=some (.int .i64 0):=hf2.cell 1
    have z0:=hf2.frozen 0
    have z1:=hf2.frozen 1
    by_cases ha:pa<0
    · have haB:decide (pa<0)=true:=decide_eq_true ha
      have HB:Hid (R=(3,j)):=Lib.hid (by rw [HN.out,if_pos (.inl ha)])
      go_wp2_with fail
      have hxe:=below_set2 (g:=w.heap.size) (hx.trans (hx2.mono hx.size)) (Nat.le_refl _) (.int .i64 3) (.int .i64 (j:Int))
      have hbe:=hf2.set2 (.int .i64 3) (.int .i64 (j:Int))
      generalize (w2.setCell ⟨w.heap.size,0,none⟩ (.int .i64 3)).setCell ⟨w.heap.size,1,none⟩ (.int .i64 (j:Int))=W at *
      have s0:W.cell? ⟨w.heap.size,0,none⟩=some (.int .i64 3):=hbe.cell 0
      have s1:W.cell? ⟨w.heap.size,1,none⟩=some (.int .i64 (j:Int)):=hbe.cell 1
      exact bodyPost_ret (v:=.agg #[.int .i64 3,.int .i64 (j:Int)]) (by simp [results,Try.results76,go_sem,s0,s1]) rfl ⟨by rw [HB.out];rfl,hxe⟩
    have haB:decide (pa<0)=false:=decide_eq_false ha
    by_cases hb:pb<=pa
    · have hbB:decide (pb<=pa)=true:=decide_eq_true hb
      have HB:Hid (R=(3,j)):=Lib.hid (by rw [HN.out,if_pos (.inr (.inl hb))])
      go_wp2_with fail
      have hxe:=below_set2 (g:=w.heap.size) (hx.trans (hx2.mono hx.size)) (Nat.le_refl _) (.int .i64 3) (.int .i64 (j:Int))
      have hbe:=hf2.set2 (.int .i64 3) (.int .i64 (j:Int))
      generalize (w2.setCell ⟨w.heap.size,0,none⟩ (.int .i64 3)).setCell ⟨w.heap.size,1,none⟩ (.int .i64 (j:Int))=W at *
      have s0:W.cell? ⟨w.heap.size,0,none⟩=some (.int .i64 3):=hbe.cell 0
      have s1:W.cell? ⟨w.heap.size,1,none⟩=some (.int .i64 (j:Int)):=hbe.cell 1
      exact bodyPost_ret (v:=.agg #[.int .i64 3,.int .i64 (j:Int)]) (by simp [results,Try.results76,go_sem,s0,s1]) rfl ⟨by rw [HB.out];rfl,hxe⟩
    have hbB:decide (pb<=pa)=false:=decide_eq_false hb
    by_cases hc:1000000<pb
    · have hcB:decide (1000000<pb)=true:=decide_eq_true hc
      have HB:Hid (R=(3,j)):=Lib.hid (by rw [HN.out,if_pos (.inr (.inr hc))])
      go_wp2_with fail
      have hxe:=below_set2 (g:=w.heap.size) (hx.trans (hx2.mono hx.size)) (Nat.le_refl _) (.int .i64 3) (.int .i64 (j:Int))
      have hbe:=hf2.set2 (.int .i64 3) (.int .i64 (j:Int))
      generalize (w2.setCell ⟨w.heap.size,0,none⟩ (.int .i64 3)).setCell ⟨w.heap.size,1,none⟩ (.int .i64 (j:Int))=W at *
      have s0:W.cell? ⟨w.heap.size,0,none⟩=some (.int .i64 3):=hbe.cell 0
      have s1:W.cell? ⟨w.heap.size,1,none⟩=some (.int .i64 (j:Int)):=hbe.cell 1
      exact bodyPost_ret (v:=.agg #[.int .i64 3,.int .i64 (j:Int)]) (by simp [results,Try.results76,go_sem,s0,s1]) rfl ⟨by rw [HB.out];rfl,hxe⟩
    have hcB:decide (1000000<pb)=false:=decide_eq_false hc
    have HN2:Hid (R=if 0<j/\pa<pe then (7,j) else Fl.wrongF pb (l.drop (j+1)) (j+1)):=Lib.hid (by rw [HN.out,if_neg (by omega)])
    go_upto_region 8 with (fail)
    by_cases h0:0<j
    · obtain ⟨hm,he,cp⟩:=hprev h0
      have cp2:=(hx2.cell (p:=⟨b,off+(j-1)*2+1,none⟩) hb1).trans cp
      rw [<-he] at cp2
      clear cp he hprev
      have h0B:decide (0<(j:Int))=true:=decide_eq_true (by omega)
      obtain ⟨m,hjm⟩:∃ m:Nat,j-1=m:=⟨_,rfl⟩
      have hw1:IntKind.i64.wrap ((j:Int)-1)=(m:Int):=by
       have:(j:Int)-1=(m:Int):=by omega
       rw [this]
       exact IntWalk.i64_in _ (by omega)
      rw [hjm] at cp2
      have hm1:(m:Int)<(l.length:Int):=by omega
      have hm0:(0:Int)<=(m:Int):=by omega
      have HJM:=Lib.hid hjm
      clear hjm
      by_cases hpe:pa<pe
      · have hpeB:decide (pa<pe)=true:=decide_eq_true hpe
        have HB:Hid (R=(7,j)):=Lib.hid (by rw [HN2.out,if_pos ⟨h0,hpe⟩])
        go_quiet (fail)
        have hx4:=hx2.trans (below_drewN (Below.refl wr.heap.size w2) nq)
        have hf4:Blk (w2.drewN nq) w.heap.size 32 #[.int .i64 0,.int .i64 0]:=hf2
        generalize w2.drewN nq=w4 at *
        have r40:w4.cell? ⟨w.heap.size,0,none⟩=some (.int .i64 0):=hf4.cell 0
        have r41:w4.cell? ⟨w.heap.size,1,none⟩=some (.int .i64 0):=hf4.cell 1
        have z40:=hf4.frozen 0
        have z41:=hf4.frozen 1
        go_wp2_with fail
        have hxe:=below_set2 (g:=w.heap.size) (hx.trans (hx4.mono hx.size)) (Nat.le_refl _) (.int .i64 7) (.int .i64 (j:Int))
        have hbe:=hf4.set2 (.int .i64 7) (.int .i64 (j:Int))
        generalize (w4.setCell ⟨w.heap.size,0,none⟩ (.int .i64 7)).setCell ⟨w.heap.size,1,none⟩ (.int .i64 (j:Int))=W at *
        have s0:W.cell? ⟨w.heap.size,0,none⟩=some (.int .i64 7):=hbe.cell 0
        have s1:W.cell? ⟨w.heap.size,1,none⟩=some (.int .i64 (j:Int)):=hbe.cell 1
        exact bodyPost_ret (v:=.agg #[.int .i64 7,.int .i64 (j:Int)]) (by simp [results,Try.results76,go_sem,s0,s1]) rfl ⟨by rw [HB.out];rfl,hxe⟩
      · have hpeB:decide (pa<pe)=false:=decide_eq_false hpe
        have HB:Hid (R=Fl.wrongF pb (l.drop (j+1)) (j+1)):=Lib.hid (by rw [HN2.out,if_neg (fun h=>hpe h.2)])
        go_quiet (fail)
        have hx4:=hx2.trans (below_drewN (Below.refl wr.heap.size w2) nq)
        have hf4:Blk (w2.drewN nq) w.heap.size 32 #[.int .i64 0,.int .i64 0]:=hf2
        generalize w2.drewN nq=w4 at *
        have r40:w4.cell? ⟨w.heap.size,0,none⟩=some (.int .i64 0):=hf4.cell 0
        have r41:w4.cell? ⟨w.heap.size,1,none⟩=some (.int .i64 0):=hf4.cell 1
        have z40:=hf4.frozen 0
        have z41:=hf4.frozen 1
        go_wp2_with fail
        go_roundg (gk-1)
        case measure=>omega
        case rel=>exact ⟨j+1,by omega,by go_num,Lib.hid (by rw [HP.out];exact HB.out.symm),hf4,hx.trans (hx4.mono hx.size)⟩
    · have h0B:decide (0<(j:Int))=false:=decide_eq_false (by omega)
      have HB:Hid (R=Fl.wrongF pb (l.drop (j+1)) (j+1)):=Lib.hid (by rw [HN2.out,if_neg (fun h=>h0 h.1)])
      clear hprev
      go_quiet (fail)
      have hx4:=hx2.trans (below_drewN (Below.refl wr.heap.size w2) nq)
      have hf4:Blk (w2.drewN nq) w.heap.size 32 #[.int .i64 0,.int .i64 0]:=hf2
      generalize w2.drewN nq=w4 at *
      have r40:w4.cell? ⟨w.heap.size,0,none⟩=some (.int .i64 0):=hf4.cell 0
      have r41:w4.cell? ⟨w.heap.size,1,none⟩=some (.int .i64 0):=hf4.cell 1
      have z40:=hf4.frozen 0
      have z41:=hf4.frozen 1
      go_wp2_with fail
      go_roundg (gk-1)
      case measure=>omega
      case rel=>exact ⟨j+1,by omega,by go_num,Lib.hid (by rw [HP.out];exact HB.out.symm),hf4,hx.trans (hx4.mono hx.size)⟩
  · have hltB:decide ((j:Int)<(l.length:Int))=false:=decide_eq_false (by omega)
    have HB:Hid (R=(0,0)):=Lib.hid (by
     have h:=HW.out.symm
     rw [List.drop_eq_nil_of_le (by omega)] at h
     exact h)
    have r0:wr.cell? ⟨w.heap.size,0,none⟩=some (.int .i64 0):=hfl.cell 0
    have r1:wr.cell? ⟨w.heap.size,1,none⟩=some (.int .i64 0):=hfl.cell 1
    have z0:=hfl.frozen 0
    have z1:=hfl.frozen 1
    go_wp2_with fail
    have hxe:=below_set2 (g:=w.heap.size) hx (Nat.le_refl _) (.int .i64 0) (.int .i64 0)
    have hbe:=hfl.set2 (.int .i64 0) (.int .i64 0)
    generalize (wr.setCell ⟨w.heap.size,0,none⟩ (.int .i64 0)).setCell ⟨w.heap.size,1,none⟩ (.int .i64 0)=W at *
    have s0:W.cell? ⟨w.heap.size,0,none⟩=some (.int .i64 0):=hbe.cell 0
    have s1:W.cell? ⟨w.heap.size,1,none⟩=some (.int .i64 0):=hbe.cell 1
    exact bodyPost_ret (v:=.agg #[.int .i64 0,.int .i64 0]) (by simp [results,Try.results76,go_sem,s0,s1]) rfl ⟨by rw [HB.out];rfl,hxe⟩
end Go.Proofs.Ytfdibjgmbdkbcaa
