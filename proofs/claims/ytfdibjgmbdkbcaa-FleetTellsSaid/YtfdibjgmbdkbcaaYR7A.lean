/-
  Words for memory: the document's fleet that goes on: its block, its row of shards; all else is only read. No conditions.
-/
import Derived.Test.YtfdibjgmbdkbcaaYGq
namespace Go.Proofs.Ytfdibjgmbdkbcaa
open Go.RowKit Go.Lib
def KR (w w':World) (B gF gS ga:Nat):Prop:=Ch (fun b=>b=gF\/b=gS\/b=ga) w w'/\Below B w w'
section
variable {w w' w'':World} {B gF gS ga:Nat}
theorem KR.of_below (hb:Below w.heap.size w w') (hB:B<=w.heap.size):KR w w' B gF gS ga:=⟨Ch.of_below' hb,hb.mono hB⟩
theorem KR.trans (h:KR w w' B gF gS ga) (h':KR w' w'' B gF gS ga):KR w w'' B gF gS ga:=⟨h.1.trans h'.1 fun _ _ h=>h,h.2.trans h'.2⟩
theorem KR.drew (h:KR w w' B gF gS ga):KR w w'.drew B gF gS ga:=⟨h.1.drew,h.2.drew⟩
theorem KR.blk {g:Nat} {t:TypeId} {cs:Array Value} (h:KR w w' B gF gS ga) (hk:Blk w g t cs) (h1:g≠gF) (h2:g≠gS) (h3:g≠ga):Blk w' g t cs:=hk.ch h.1 fun e=>by
 rcases e with e | e | e
 · exact h1 e
 · exact h2 e
 · exact h3 e
theorem KR.size (h:KR w w' B gF gS ga):w.heap.size<=w'.heap.size:=h.1.size
theorem KR.set5_ (h:KR w w' B gF gS ga) (hB:B<=ga) (a b c d e:Value):KR w (set5 w' ga a b c d e) B gF gS ga:=by
 have one:∀ (z:World) (i:Nat) (v:Value),KR w z B gF gS ga->KR w (z.setCell ⟨ga,i,none⟩ v) B gF gS ga:=fun z i v hz=>⟨hz.1.setCell (p:=⟨ga,i,none⟩) (fun _=>.inr (.inr rfl)) v,hz.2.setCell (p:=⟨ga,i,none⟩) hB v⟩
 exact one _ 4 e (one _ 3 d (one _ 2 c (one _ 1 b (one _ 0 a h))))
end
class Away where
 X:Nat->Prop
variable [Away]
def NF (gF gS ga:Nat) (b:Nat):Prop:=b≠gF/\b≠gS/\b≠ga/\¬ Away.X b
def RSh (w:World) (gF gS ga:Nat) (s:Shd) (u:ShV):Prop:=BList w (NF gF gS ga) u.ev s.ents/\Bytes w (NF gF gS ga) u.rv s.man.root/\RdL w (NF gF gS ga) u.sv s.man.segs
def RFlP (w:World) (B gF gS ga:Nat) (A:Option Addr) (cS:Nat) (vb:Value) (us:List ShV) (f:Flt):Prop :=
 B<=gF/\B<=gS/\gS<w.heap.size/\Blk w gF 92 #[.slice A f.sh.length cS,vb]/\us.length=f.sh.length/\Own w B 156 7 (.slice A f.sh.length cS) f.sh.length (flatSh f.sh us)/\(∀ p,A=some p->p.block=gS) ∧
  (∀ (k:Nat) (s:Shd) (u:ShV),f.sh[k]? = some s->us[k]? = some u->RSh w gF gS ga s u)/\RdL w (NF gF gS ga) vb f.book/\∀ b,Away.X b->b<w.heap.size
def RFlt (w:World) (B gF gS ga:Nat) (f:Flt):Prop:=∃ A cS vb us,RFlP w B gF gS ga A cS vb us f
section
variable {w w' w'':World} {B gF gS ga k cS:Nat} {A:Option Addr} {vb x:Value} {us:List ShV} {f:Flt} {s s':Shd} {u u':ShV}
theorem KR.rdL {α:Type} [Rp α] {v:Value} {l:List α} (h:KR w w' B gF gS ga) (hr:RdL w (NF gF gS ga) v l):RdL w' (NF gF gS ga) v l:=hr.ch h.1 fun _ hk hs=>by
 rcases hs with e | e | e
 · exact hk.1 e
 · exact hk.2.1 e
 · exact hk.2.2.1 e
theorem KR.slAt {size n:Nat} {v:Value} {xs:List Value} (h:KR w w' B gF gS ga) (hr:SlAt w (NF gF gS ga) size v n xs):SlAt w' (NF gF gS ga) size v n xs:=hr.ch h.1 fun _ hk hs=>by
 rcases hs with e | e | e
 · exact hk.1 e
 · exact hk.2.1 e
 · exact hk.2.2.1 e
theorem KR.blist {v:Value} {l:List Bs} (h:KR w w' B gF gS ga) (hr:BList w (NF gF gS ga) v l):BList w' (NF gF gS ga) v l:=hr.map_ fun _ _ _ q=>h.slAt q
theorem KR.rsh (h:KR w w' B gF gS ga) (hr:RSh w gF gS ga s u):RSh w' gF gS ga s u:=⟨h.blist hr.1,h.slAt hr.2.1,h.rdL hr.2.2⟩
theorem RSh.below (h:RSh w gF gS ga s u) (hb:Below w.heap.size w w'):RSh w' gF gS ga s u:=⟨h.1.below hb,SlAt.below h.2.1 hb,h.2.2.below hb⟩
theorem RFlP.below (h:RFlP w B gF gS ga A cS vb us f) (hb:Below w.heap.size w w'):RFlP w' B gF gS ga A cS vb us f:=by
 obtain ⟨h0,h1,h2,h3,h4,h5,h6,h7,h8⟩:=h
 exact ⟨h0,h1,Nat.lt_of_lt_of_le h2 hb.size,h3.below hb h3.lt,h4,h5.below hb,h6,fun k s u hs hu=>(h7 k s u hs hu).below hb,h8.1.below hb,fun b hX=>Nat.lt_of_lt_of_le (h8.2 b hX) hb.size⟩
theorem RFlP.drew (h:RFlP w B gF gS ga A cS vb us f):RFlP w.drew B gF gS ga A cS vb us f:=h.below ((Below.refl _ _).drew)
theorem RFlt.below (h:RFlt w B gF gS ga f) (hb:Below w.heap.size w w'):RFlt w' B gF gS ga f:=by
 obtain ⟨A,cS,vb,us,h⟩:=h
 exact ⟨A,cS,vb,us,h.below hb⟩
theorem RFlP.row (h:RFlP w B gF gS ga A cS vb us f) (hs:f.sh[k]? = some s):∃ oS u,A=some ⟨gS,oS,none⟩/\us[k]? = some u/\f.sh.length<=cS/\cS<=maxLen/\k<f.sh.length/\gF≠gS/\(∃ cur,Blk w gS 156 cur)/\RSh w gF gS ga s u ∧
 ∀ (i:Nat) (x:Value),(shCells s u)[i]? = some x->w.cell? ⟨gS,oS+k*7+i,none⟩=some x:=by
 obtain ⟨h0,h1,h2,h3,h4,h5,h6,h7,h8⟩:=h
 obtain ⟨hlt,_⟩:=List.getElem?_eq_some_iff.1 hs
 obtain ⟨g,oS,c,e1,e2,e3,e4,e5,e6⟩:=h5.form (by omega)
 injection e1 with e1 _ e7
 subst e1 e7
 have hg:g=gS:=h6 _ rfl
 subst hg
 have hu:us[k]? = some (us[k]'(by omega)):=List.getElem?_eq_getElem _
 obtain ⟨cur,hcur⟩:=(Own.type h5 g rfl).2
 refine ⟨oS,_,rfl,hu,e4,e5,hlt,fun e=>?_,⟨cur,hcur⟩,h7 k s _ hs hu,fun i x hx=>?_⟩
 · subst e
   unfold Blk at h3
   rw [hcur] at h3
   injection h3 with h3
   injection h3 with _ h3
   exact absurd h3 (by decide)
 · rw [Nat.add_assoc]
   exact e6 _ x (flat_at shCells (fun _ _=>rfl) f.sh us k i s _ x hs hu hx)
theorem RFlP.cell {oS i:Nat} (h:RFlP w B gF gS ga (some ⟨gS,oS,none⟩) cS vb us f) (hs:f.sh[k]? = some s) (hu:us[k]? = some u) (hi:i<7) (he:shCells s' u'=(shCells s u).set i x) (hk:RSh w gF gS ga s' u') :
 RFlP (w.setCell ⟨gS,oS+k*7+i,none⟩ x) B gF gS ga (some ⟨gS,oS,none⟩) cS vb (us.set k u') ⟨f.sh.set k s',f.book⟩/\(f.sh.set k s')[k]? = some s'/\(us.set k u')[k]? = some u'/\KR w (w.setCell ⟨gS,oS+k*7+i,none⟩ x) B gF gS ga:=by
 obtain ⟨_,_,_,_,_,_,hlt,hne,⟨cur,hcur⟩,_,_⟩:=h.row hs
 obtain ⟨h0,h1,h2,h3,h4,h5,h6,h7,h8⟩:=h
 have hKR:KR w (w.setCell ⟨gS,oS+k*7+i,none⟩ x) B gF gS ga:=⟨(Ch.refl _ _).setCell (p:=⟨gS,oS+k*7+i,none⟩) (fun _=>.inr (.inl rfl)) x,(Below.refl B w).setCell (p:=⟨gS,oS+k*7+i,none⟩) h1 x⟩
 have hS:=Own.setN h5 (k*7+i) x
 rw [<-Nat.add_assoc] at hS
 have hfl:flatSh (f.sh.set k s') (us.set k u')=(flatSh f.sh us).set (k*7+i) x:=flat_set shCells (fun _ _=>rfl) f.sh us k i s _ u _ x h4 hs hu hi he
 rw [<-hfl] at hS
 refine ⟨⟨h0,h1,by simpa using h2,by simpa using h3.far (p:=⟨gS,oS+k*7+i,none⟩) hne x,by simpa using h4,by simpa using hS,h6,fun j t v hj hv=>?_,hKR.rdL h8.1,fun b hX=>by simpa using h8.2 b hX⟩,List.getElem?_set_self hlt,List.getElem?_set_self (by omega),hKR⟩
 simp only at hj
 by_cases e:k=j
 · subst e
   rw [List.getElem?_set_self hlt] at hj
   rw [List.getElem?_set_self (by omega)] at hv
   injection hj with hj
   injection hv with hv
   subst hj hv
   exact hKR.rsh hk
 · rw [List.getElem?_set_ne e] at hj hv
   exact hKR.rsh (h7 j t v hj hv)
theorem RFlP.setBook {vb':Value} {b:List Rec} (h:RFlP w B gF gS ga A cS vb us f) (hr:RdL w (NF gF gS ga) vb' b) :
 RFlP (w.setCell ⟨gF,1,none⟩ vb') B gF gS ga A cS vb' us ⟨f.sh,b⟩/\KR w (w.setCell ⟨gF,1,none⟩ vb') B gF gS ga:=by
 obtain ⟨h0,h1,h2,h3,h4,h5,h6,h7,h8⟩:=h
 have hKR:KR w (w.setCell ⟨gF,1,none⟩ vb') B gF gS ga:=⟨(Ch.refl _ _).setCell (p:=⟨gF,1,none⟩) (fun _=>.inl rfl) vb',(Below.refl B w).setCell (p:=⟨gF,1,none⟩) h0 vb'⟩
 exact ⟨⟨h0,h1,by simpa using h2,h3.set_ 1 vb',h4,Own.setCell (p:=⟨gF,1,none⟩) h5 (Own.ne_blk h5 h3 (by decide)) vb',h6,fun k s u hs hu=>hKR.rsh (h7 k s u hs hu),hKR.rdL hr,fun b hX=>by simpa using h8.2 b hX⟩,hKR⟩
end
section
variable {w w':World} {B gF gS ga cS:Nat} {A:Option Addr} {vb:Value} {us:List ShV} {f:Flt}
theorem RFlP.cellAt {oS k i:Nat} {s:Shd} {u:ShV} {x:Value} (h:RFlP w B gF gS ga (some ⟨gS,oS,none⟩) cS vb us f) (hs:f.sh[k]? = some s) (hu:us[k]? = some u) (hx:(shCells s u)[i]? = some x):w.cell? ⟨gS,oS+k*7+i,none⟩=some x:=by
 obtain ⟨oS',u',e1,hu',_,_,_,_,_,_,hc⟩:=h.row hs
 injection e1 with e1
 injection e1 with _ e1
 subst e1
 rw [hu] at hu'
 injection hu' with hu'
 subst hu'
 exact hc i x hx
theorem RFlP.frozenAt {oS k:Nat} {s:Shd} (h:RFlP w B gF gS ga (some ⟨gS,oS,none⟩) cS vb us f) (hs:f.sh[k]? = some s) (i:Nat):w.frozen? ⟨gS,i,none⟩=false:=by
 obtain ⟨_,_,_,_,_,_,_,_,⟨cur,hc⟩,_,_⟩:=h.row hs
 exact hc.frozen i
theorem RFlP.rsh {oS k:Nat} {s:Shd} {u:ShV} (h:RFlP w B gF gS ga (some ⟨gS,oS,none⟩) cS vb us f) (hs:f.sh[k]? = some s) (hu:us[k]? = some u):RSh w gF gS ga s u:=h.2.2.2.2.2.2.2.1 k s u hs hu
theorem RFlP.ne {oS k:Nat} {s:Shd} (h:RFlP w B gF gS ga (some ⟨gS,oS,none⟩) cS vb us f) (hs:f.sh[k]? = some s):gF≠gS:=by
 obtain ⟨_,_,_,_,_,_,_,hn,_⟩:=h.row hs
 exact hn
theorem NF.new {b:Nat} (h:RFlP w B gF gS ga A cS vb us f) (ha:ga<w.heap.size) (hb:w.heap.size<=b):NF gF gS ga b:=⟨fun e=>by have:=h.2.2.2.1.lt;omega,fun e=>by have:=h.2.2.1;omega,fun e=>by omega,fun e=>by have:=h.2.2.2.2.2.2.2.2.2 b e;omega⟩
theorem RSh.fit {s:Shd} {u:ShV} {ga':Nat} (h:RSh w gF gS ga s u) (hf:∀ b,b<w.heap.size->NF gF gS ga b->NF gF gS ga' b):RSh w gF gS ga' s u:=⟨h.1.weak hf,SlAt.weak h.2.1 hf,h.2.2.weak hf⟩
theorem RFlP.fit {ga':Nat} (h:RFlP w B gF gS ga A cS vb us f) (hf:∀ b,b<w.heap.size->NF gF gS ga b->NF gF gS ga' b):RFlP w B gF gS ga' A cS vb us f:=by
 obtain ⟨h0,h1,h2,h3,h4,h5,h6,h7,h8⟩:=h
 exact ⟨h0,h1,h2,h3,h4,h5,h6,fun k s u hs hu=>(h7 k s u hs hu).fit hf,h8.1.weak hf,h8.2⟩
theorem RFlP.third (h:RFlP w B gF gS gF A cS vb us f) (ha:w.heap.size<=ga):RFlP w B gF gS ga A cS vb us f:=h.fit fun _ hb hn=>⟨hn.1,hn.2.1,fun e=>by omega,hn.2.2.2⟩
theorem NF.two {b:Nat} (h:NF gF gS ga b):NF gF gS gF b:=⟨h.1,h.2.1,h.1,h.2.2.2⟩
theorem RFlP.set5_ (h:RFlP w B gF gS ga A cS vb us f) (hB:B<=ga) (h1:ga≠gF) (h2:ga≠gS) (a b c d e:Value):RFlP (set5 w ga a b c d e) B gF gS ga A cS vb us f:=by
 have hK:KR w (set5 w ga a b c d e) B gF gS ga:=KR.set5_ ⟨Ch.refl _ _,Below.refl _ _⟩ hB a b c d e
 obtain ⟨q0,q1,q2,q3,q4,q5,q6,q7,q8⟩:=h
 have hS:Ch (fun b=>b=ga) w (set5 w ga a b c d e):=by
  have one:∀ (z:World) (i:Nat) (v:Value),Ch (fun b=>b=ga) w z->Ch (fun b=>b=ga) w (z.setCell ⟨ga,i,none⟩ v):=fun z i v hz=>hz.setCell (p:=⟨ga,i,none⟩) (fun _=>rfl) v
  exact one _ 4 e (one _ 3 d (one _ 2 c (one _ 1 b (one _ 0 a (Ch.refl _ _)))))
 exact ⟨q0,q1,Nat.lt_of_lt_of_le q2 hK.size,q3.ch hS (fun e=>h1 e.symm),q4,q5.keep fun b hb hlt _=>hS.block b hlt (fun e=>by
  subst e
  cases A with
  | none=>cases hb
  | some p=>injection hb with hb;exact h2 (by rw [<-hb];exact q6 p rfl)),q6,fun k s u hs hu=>hK.rsh (q7 k s u hs hu),hK.rdL q8.1,fun b hX=>Nat.lt_of_lt_of_le (q8.2 b hX) hK.size⟩
def RStepP (w:World) (B gF gS:Nat) (r:Flt × Ans) (e:Ending) (w':World):Prop :=
 ∃ rv,e = .returned (.agg #[.int .i64 (r.2.err:Int),.int .i64 r.2.sh,.int .i64 r.2.pl,.int .i64 r.2.sz,rv])/\RFlt w' B gF gS gF r.1/\Bytes w' (NF gF gS gF) rv r.2.root/\KR w w' B gF gS gF
theorem RStepP.of {e:Ending} {r:Flt × Ans} {rv:Value} (hga:w.heap.size<=ga) (he:e = .returned (.agg #[.int .i64 (r.2.err:Int),.int .i64 r.2.sh,.int .i64 r.2.pl,.int .i64 r.2.sz,rv])) (hF:RFlP w' B gF gS ga A cS vb us r.1) (hr:Bytes w' (NF gF gS ga) rv r.2.root) (hK:KR w w' B gF gS ga):RStepP w B gF gS r e w' :=
 ⟨rv,he,⟨A,cS,vb,us,hF.fit fun _ _ hn=>hn.two⟩,SlAt.weak hr fun _ _ hn=>hn.two,hK.1.mono fun k hk hs=>by
  rcases hs with e | e | e
  · exact .inl e
  · exact .inr (.inl e)
  · omega,hK.2⟩
theorem RStepP.drew {e:Ending} {r:Flt × Ans} (h:RStepP w B gF gS r e w'):RStepP w B gF gS r e w'.drew:=by
 obtain ⟨rv,h1,h2,h3,h4⟩:=h
 exact ⟨rv,h1,h2.below (Below.refl _ _).drew,SlAt.below h3 (Below.refl _ _).drew,h4.drew⟩
theorem rstep_done {r:Flt × Ans} {rv x0 x1 x2 x3 x4:Value} {w z:World} (hga:w.heap.size<=ga) (hB:B<=w.heap.size) (hgF:gF<w.heap.size) (hgS:gS<w.heap.size) (hP:RFlP z B gF gS ga A cS vb us r.1) (hr:Bytes z (NF gF gS ga) rv r.2.root) (hK:KR w z B gF gS ga) (han:Blk z ga 105 #[x0,x1,x2,x3,x4]) :
 (set5 z ga (.int .i64 (r.2.err:Int)) (.int .i64 r.2.sh) (.int .i64 r.2.pl) (.int .i64 r.2.sz) rv).cell? ⟨ga,0,none⟩=some (.int .i64 (r.2.err:Int))/\(set5 z ga (.int .i64 (r.2.err:Int)) (.int .i64 r.2.sh) (.int .i64 r.2.pl) (.int .i64 r.2.sz) rv).cell? ⟨ga,1,none⟩=some (.int .i64 r.2.sh) ∧
 (set5 z ga (.int .i64 (r.2.err:Int)) (.int .i64 r.2.sh) (.int .i64 r.2.pl) (.int .i64 r.2.sz) rv).cell? ⟨ga,2,none⟩=some (.int .i64 r.2.pl)/\(set5 z ga (.int .i64 (r.2.err:Int)) (.int .i64 r.2.sh) (.int .i64 r.2.pl) (.int .i64 r.2.sz) rv).cell? ⟨ga,3,none⟩=some (.int .i64 r.2.sz) ∧
 (set5 z ga (.int .i64 (r.2.err:Int)) (.int .i64 r.2.sh) (.int .i64 r.2.pl) (.int .i64 r.2.sz) rv).cell? ⟨ga,4,none⟩=some rv ∧
 RStepP w B gF gS r (.returned (.agg #[.int .i64 (r.2.err:Int),.int .i64 r.2.sh,.int .i64 r.2.pl,.int .i64 r.2.sz,rv])) (set5 z ga (.int .i64 (r.2.err:Int)) (.int .i64 r.2.sh) (.int .i64 r.2.pl) (.int .i64 r.2.sz) rv):=by
 have hb:=set5_blk (a:=.int .i64 (r.2.err:Int)) (b:=.int .i64 r.2.sh) (c:=.int .i64 r.2.pl) (d:=.int .i64 r.2.sz) (e:=rv) han
 refine ⟨hb.cell 0,hb.cell 1,hb.cell 2,hb.cell 3,hb.cell 4,RStepP.of hga rfl (hP.set5_ (Nat.le_trans hB hga) (by omega) (by omega) _ _ _ _ _) ?_ (hK.set5_ (Nat.le_trans hB hga) _ _ _ _ _)⟩
 exact (KR.set5_ (w:=z) (w':=z) ⟨Ch.refl _ _,Below.refl _ _⟩ (Nat.le_trans hB hga) _ _ _ _ _).slAt hr
end
end Go.Proofs.Ytfdibjgmbdkbcaa
