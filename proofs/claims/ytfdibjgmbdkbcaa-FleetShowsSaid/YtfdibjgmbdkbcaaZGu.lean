/-
  Words for memory: answers of the call's own; a shard more; a head's root is another. No conditions. THE WALK of fleet.Wrong. Conditions: what is read is windows.
-/
import Derived.Test.YtfdibjgmbdkbcaaZRepr
import Derived.Test.YtfdibjgmbdkbcaaZGp
import Derived.Test.YtfdibjgmbdkbcaaZGq
namespace Go.Proofs.Ytfdibjgmbdkbcaa
open Go.RowKit Go.Lib
def Same1 (w w':World) (t:TypeId):Prop:=∀ b,b<w.heap.size->(∀ cur,w.heap[b]?≠some (.cells cur t (0,0)))->w'.heap[b]? = w.heap[b]?
section
variable {w w':World} {B gF k:Nat} {tag tag':Tag} {f:Flt} {vs vb x:Value} {us:List ShV} {ws:List Value} {t:TypeId}
theorem Own.alien {e:TypeId} {size n:Nat} {v:Value} {xs:List Value} (h:Own w B e size v n xs) (hk:Same1 w w' t) (hne:e≠t):Own w' B e size v n xs :=
 Own.keep h fun k hk' hlt _=>hk k hlt fun cur hc=>by
  obtain ⟨_,c,h'⟩:=Own.type h k hk'
  rw [h'] at hc
  injection hc with hc
  injection hc with _ h2
  exact hne h2
theorem Blk.alien {g:Nat} {e:TypeId} {cs:Array Value} (h:Blk w g e cs) (hk:Same1 w w' t) (hne:e≠t):Blk w' g e cs:=h.keep (hk g h.lt fun cur hc=>by
 unfold Blk at h
 rw [h] at hc
 injection hc with hc
 injection hc with _ h2
 exact hne h2)
theorem TB.alien {tt:Option (Nat × Nat)} {v:Value} {b:Bs} (h:TB w B tag tt v b) (hk:Same1 w w' t) (hne:5≠t):TB w' B tag tt v b:=⟨Own.alien h.1 hk hne,h.2⟩
theorem FltP.alien (h:FltP w B gF tag f vs vb us ws) (hk:Same1 w w' t) (ha:Alien t):FltP w' B gF tag f vs vb us ws:=by
 obtain ⟨h3,h4,h5,h6⟩:=ha
 obtain ⟨q0,q1,q2,q3,q4,q5,q6,q7⟩:=h
 refine ⟨q0,q1.alien hk (fun e=>h3 (.inl e.symm)),q2,q3.alien hk (fun e=>h3 (.inr (.inl e.symm))),fun k s u hs hu=>?_,q5,q6.alien hk (fun e=>h3 (.inr (.inr e.symm))),fun i r v hr hv=>(q7 i r v hr hv).alien hk h4⟩
 obtain ⟨⟨vs1,t1,t2,t3⟩,t4,ps,t5,t6,t7,t8⟩:=q4 k s u hs hu
 exact ⟨⟨vs1,t1.alien hk h5,t2,fun i b hb=>by obtain ⟨y,hy,ht⟩:=t3 i b hb;exact ⟨y,hy,ht.alien hk h4⟩⟩,t4.alien hk h4,ps,t5,t6.alien hk h6,t7,fun j s p hs hp=>(t8 j s p hs hp).alien hk h4⟩
theorem FltAt.alien (h:FltAt w B gF tag f) (hk:Same1 w w' t) (ha:Alien t):FltAt w' B gF tag f:=by
 obtain ⟨vs,vb,us,ws,hP⟩:=h.parts
 exact (FltP.alien hP hk ha).at_
theorem Same1.set {g:Nat} {cs:Array Value} (hg:Blk w g t cs) (i:Nat) (x:Value):Same1 w (w.setCell ⟨g,i,none⟩ x) t:=fun b _ hn=>Below.heap_setCell _ _ _ b fun e=>by
 have e:b=g:=e
 subst e
 exact hn cs hg
theorem Same1.grown {v:Value} {B' size n:Nat} {xs:List Value} (hg:w.grownBy w' v.ownBlock) (ho:Own w B' t size v n xs):Same1 w w' t:=fun b hb hn=>hg.block b hb fun e=>by
 obtain ⟨_,cur,hc⟩:=Own.type ho b e.symm
 exact hn cur hc
theorem Same1.trans {w'':World} (h:Same1 w w' t) (h':Same1 w' w'' t) (hs:w.heap.size<=w'.heap.size):Same1 w w'' t:=fun b hb hn=>by
 rw [h' b (by omega) (by rw [h b hb hn];exact hn),h b hb hn]
def ansCells (a:Ans) (v:Value):List Value:=[.int .i64 (a.err:Int),.int .i64 a.sh,.int .i64 a.pl,.int .i64 a.sz,v]
def flatA (l:List Ans) (rs:List Value):List Value:=(List.zipWith ansCells l rs).flatten
def AnsAt (w:World) (B:Nat) (tag:Tag) (v:Value) (l:List Ans):Prop :=
 ∃ rs:List Value,rs.length=l.length/\Own w B 105 5 v l.length (flatA l rs)/\Tg tag none v/\∀ (i:Nat) (a:Ans) (u:Value),l[i]? = some a->rs[i]? = some u->TB w B tag none u a.root
theorem AnsAt.nil_ (w:World) (B:Nat) (tag:Tag):AnsAt w B tag (.slice none 0 0) []:=⟨[],rfl,Own.nil_ _ _ _ _,fun k hk=>by simp [Value.ownBlock] at hk,fun i a u h=>by simp at h⟩
theorem Own.kept {e:TypeId} {size n:Nat} {v:Value} {xs:List Value} (h:Own w B e size v n xs) (hK:Kept w w' B tag tag') (ht:Tg tag none v) (he:¬ Own3 e):Own w' B e size v n xs/\Tg tag' none v :=
 ⟨Own.keep h fun k hk hlt _=>by
  obtain ⟨_,cur,hc⟩:=Own.type h k hk
  have:=hK.2.2 k cur e hc he (ht k hk)
  unfold Blk at this
  rw [this,hc],fun k hk=>hK.2.1 k (Own.lt h k hk).2 (ht k hk)⟩
theorem TB.kept {v:Value} {b:Bs} (h:TB w B tag none v b) (hK:Kept w w' B tag tag'):TB w' B tag' none v b:=⟨(Own.kept h.1 hK h.2 u8_not).1,(Own.kept h.1 hK h.2 u8_not).2⟩
theorem AnsAt.kept {v:Value} {l:List Ans} (h:AnsAt w B tag v l) (hK:Kept w w' B tag tag'):AnsAt w' B tag' v l:=by
 obtain ⟨rs,h1,h2,h3,h4⟩:=h
 exact ⟨rs,h1,(Own.kept h2 hK h3 ans_alien.1).1,(Own.kept h2 hK h3 ans_alien.1).2,fun i a u ha hu=>(h4 i a u ha hu).kept hK⟩
theorem AnsAt.below {v:Value} {l:List Ans} (h:AnsAt w B tag v l) (hb:Below w.heap.size w w'):AnsAt w' B tag v l:=by
 obtain ⟨rs,h1,h2,h3,h4⟩:=h
 exact ⟨rs,h1,h2.below hb,h3,fun i a u ha hu=>(h4 i a u ha hu).below hb⟩
theorem AnsAt.alien {v:Value} {l:List Ans} (h:AnsAt w B tag v l) (hk:Same1 w w' t) (h1:105≠t) (h2:5≠t):AnsAt w' B tag v l:=by
 obtain ⟨rs,a1,a2,a3,a4⟩:=h
 exact ⟨rs,a1,a2.alien hk h1,a3,fun i a u ha hu=>(a4 i a u ha hu).alien hk h2⟩
theorem AnsAt.snoc {v v4 rv:Value} {l:List Ans} {rs:List Value} {a:Ans} (h1:rs.length=l.length) (h2:Own w B 105 5 v l.length (flatA l rs)) (h3:Tg tag none v) (h4:∀ (i:Nat) (a:Ans) (u:Value),l[i]? = some a->rs[i]? = some u->TB w B tag none u a.root)
 (hrv:TB w B tag none rv a.root) (hgr:w.grownBy w' v.ownBlock) (hown:Own w' B 105 5 v4 (l.length+1) (flatA l rs++ansCells a rv)) (hat:v4.ownBlock=v.ownBlock\/v4.ownBlock=some w.heap.size) (hT:TagOk w B tag):AnsAt w' B tag v4 (l++[a]):=by
 have hs:Same1 w w' 105:=Same1.grown hgr h2
 refine ⟨rs++[rv],by simp [h1],?_,fun k hk=>?_,fun i b u hb hu=>?_⟩
 · rw [show flatA (l++[a]) (rs++[rv])=flatA l rs++ansCells a rv from flat_snoc ansCells l rs a rv h1]
   simpa using hown
 · rcases hat with e | e
   · exact h3 k (by rw [<-e];exact hk)
   · rw [e] at hk
     injection hk with hk
     subst hk
     exact hT.2 _ (Nat.le_refl _)
 · rcases Nat.lt_or_ge i l.length with hlt | hge
   · rw [List.getElem?_append_left hlt] at hb
     rw [List.getElem?_append_left (by omega)] at hu
     exact (h4 i b u hb hu).alien hs (by decide)
   · rw [List.getElem?_append_right hge] at hb
     rw [List.getElem?_append_right (by omega),h1] at hu
     have hi0:i-l.length=0:=by
      rcases Nat.eq_zero_or_pos (i-l.length) with h | h
      · exact h
      · rw [List.getElem?_eq_none (by simp;omega)] at hb;cases hb
     rw [hi0] at hb hu
     simp only [List.getElem?_cons_zero,Option.some.injEq] at hb hu
     subst hb hu
     exact hrv.alien hs (by decide)
theorem AnsAt.rd {v:Value} {l:List Ans} (h:AnsAt w B tag v l):RdL w (fun b=>B<=b) v l:=by
 obtain ⟨rs,h1,h2,h3,h4⟩:=h
 have hR:OwnR w B 105 (fun k=>B<=k) v l:=⟨_,h2,fun i a ha=>by
  obtain ⟨hlt,_⟩:=List.getElem?_eq_some_iff.1 ha
  have hu:=List.getElem?_eq_getElem (l:=rs) (i:=i) (by omega)
  refine ⟨ansCells a rs[i],?_,fun j x hx=>flat_at ansCells (fun _ _=>rfl) l rs i j a _ x ha hu hx⟩
  exact ⟨[_],[_,_,_,_],rfl,rfl,[_],[_,_,_],rfl,rfl,[_],[_,_],rfl,rfl,[_],[_],rfl,rfl,_,rfl,rdL_bytes.2 ((OwnB.bytes (h4 i a _ ha hu).1).weak fun _ _ h=>h.1)⟩⟩
 exact hR.rd (fun k hk=>(hR.lt k hk).1)
theorem TS.nil_ (w:World) (B:Nat) (tag:Tag) (k:Nat):TS w B tag k (.slice none 0 0) []:=⟨[],rfl,Own.nil_ _ _ _ _,fun b hb=>by simp [Value.ownBlock] at hb,fun j s p h=>by simp at h⟩
theorem TB.nil_ (w:World) (B:Nat) (tag:Tag) (tt:Option (Nat × Nat)):TB w B tag tt (.slice none 0 0) []:=⟨Own.nil_ _ _ _ _,fun b hb=>by simp [Value.ownBlock] at hb⟩
def newShd (a b:Int):Shd:=⟨a,b,1,[],Shf.zeroM⟩
def newShV:ShV:=⟨.slice none 0 0,.slice none 0 0,.slice none 0 0⟩
theorem FltP.bookRoot {gB oB n cB i:Nat} {r:Rec} {rv:Value} (h:FltP w B gF tag f vs (.slice (some ⟨gB,oB,none⟩) n cB) us ws) (hr:f.book[i]? = some r) (hrv:TB w B tag none rv r.root) :
 FltP (w.setCell ⟨gB,oB+i*5+4,none⟩ rv) B gF tag f vs (.slice (some ⟨gB,oB,none⟩) n cB) us (ws.set i rv)/\Kept w (w.setCell ⟨gB,oB+i*5+4,none⟩ rv) B tag tag/\B<=gB:=by
 obtain ⟨h0,h1,h2,h3,h4,h5,h6,h7⟩:=h
 have hn:n=f.book.length:=by
  obtain ⟨_,⟨e,_⟩ | ⟨g2,off2,cap2,cur,hv2,_⟩⟩:=h6
  · cases e
  · injection hv2
 subst hn
 obtain ⟨hlt,_⟩:=List.getElem?_eq_some_iff.1 hr
 obtain ⟨hgB,cur,hcur⟩:=Own.type h6 gB rfl
 have hbel:Below B w (w.setCell ⟨gB,oB+i*5+4,none⟩ rv):=(Below.refl B w).setCell (p:=⟨gB,oB+i*5+4,none⟩) hgB rv
 have hc:∀ y,Chg w (w.setCell ⟨gB,oB+i*5+4,none⟩ rv) B tag y:=fun y=>⟨hbel,fun b hb _ ho=>Below.heap_setCell _ _ _ b (fun e=>by
  have e:b=gB:=e
  subst e
  exact ho _ hcur cur _ rfl (.inr (.inr rfl)))⟩
 have hS:=Own.setN h6 (i*5+4) rv
 rw [<-Nat.add_assoc] at hS
 obtain ⟨v0,hv0⟩:∃ v,ws[i]? = some v:=⟨_,List.getElem?_eq_getElem (by omega)⟩
 have hfl:flatRc (f.book.set i r) (ws.set i rv)=(flatRc f.book ws).set (i*5+4) rv:=flat_set rcCells (fun _ _=>rfl) f.book ws i 4 r r v0 rv rv h5 hr hv0 (by decide) rfl
 have hset:f.book.set i r=f.book:=by
  rw [List.getElem?_eq_some_iff] at hr
  obtain ⟨h,he⟩:=hr
  rw [<-he]
  exact List.set_getElem_self h
 rw [hset] at hfl
 rw [<-hfl] at hS
 refine ⟨⟨h0,h1.far (p:=⟨gB,oB+i*5+4,none⟩) (Blk.ne h1 hcur (by decide)) rv,h2,Own.setCell (p:=⟨gB,oB+i*5+4,none⟩) h3 (Own.ne_blk h3 hcur (by decide)) rv,fun k s u hs hu=>(h4 k s u hs hu).chg (hc (some (k+1,0))) (fun j h=>by injection h with h;injection h with h _;omega) (by simp),by simpa using h5,hS,fun j r' v hr' hv=>?_⟩,(hc (some (0,0))).kept (by simp),hgB⟩
 by_cases e:i=j
 · subst e
   rw [hr] at hr'
   rw [List.getElem?_set_self (by omega)] at hv
   injection hr' with hr'
   injection hv with hv
   subst hr' hv
   exact hrv.chg (hc (some (0,0))) (by simp)
 · rw [List.getElem?_set_ne e] at hv
   exact (h7 j r' v hr' hv).chg (hc (some (0,0))) (by simp)
theorem FltP.rd (h:FltP w B gF tag f vs vb us ws):RdL w (fun b=>B<=b) vs f.sh/\RdL w (fun b=>B<=b) vb f.book:=by
 obtain ⟨vs',vb',_,hb,h1,h2⟩:=h.at_.rd
 have hq:=h.2.1
 unfold Blk at hb hq
 rw [hb] at hq
 injection hq with hq
 injection hq with hq _
 injection hq with hq
 injection hq with e1 hq
 injection hq with e2 _
 subst e1 e2
 exact ⟨h1,h2⟩
theorem FltP.set2 {g:Nat} {x y:Value} (h:FltP w B gF tag f vs vb us ws) (hg:Blk w g t #[x,y]) (ha:Alien t) (u v:Value):FltP ((w.setCell ⟨g,0,none⟩ u).setCell ⟨g,1,none⟩ v) B gF tag f vs vb us ws :=
 (FltP.alien h (Same1.set hg 0 u) ha).alien (Same1.set (hg.set_ 0 u) 1 v) ha
theorem AnsAt.set2 {g:Nat} {x y o:Value} {l:List Ans} (h:AnsAt w B tag o l) (hg:Blk w g t #[x,y]) (h1:105≠t) (h2:5≠t) (u v:Value):AnsAt ((w.setCell ⟨g,0,none⟩ u).setCell ⟨g,1,none⟩ v) B tag o l :=
 (AnsAt.alien h (Same1.set hg 0 u) h1 h2).alien (Same1.set (hg.set_ 0 u) 1 v) h1 h2
theorem do_at {lv:Value} {l:List Dob} (h:RdL w (fun b=>b<B) lv l) {j:Nat} (hj:j<l.length) (hB:B<=w.heap.size):∃ q off c,lv = .slice (some ⟨q,off,none⟩) l.length c/\DoAt w B q (off+j*7) l[j]:=by
 obtain ⟨b,off,c,hv,hF,hb,ecs,hr,hc⟩:=h.at_ hj
 obtain ⟨c1,c1',rfl,h1,c2,c2',rfl,h2,c3,c3',rfl,h3,c4,c4',rfl,⟨u4,h4',h4⟩,c5,c5',rfl,h5,c6,c7,rfl,h6,h7⟩:=hr
 have e1:c1=[.int .i64 l[j].kind]:=h1
 have e2:c2=[.int .i64 l[j].n]:=h2
 have e3:c3=[.int .i64 l[j].time]:=h3
 have e5:c5=[.int .i64 l[j].seg]:=h5
 have e6:c6=[.int .i64 l[j].pos]:=h6
 have e7:c7=[bv l[j].turn]:=h7
 subst e1 e2 e3 h4' e5 e6 e7
 have hby:=rdL_bytes.1 h4
 obtain ⟨A4,c4,rfl⟩:=hby.form
 exact ⟨b,off,c,hv,hF,hB,hc 0 _ rfl,hc 1 _ rfl,hc 2 _ rfl,⟨A4,c4,hc 3 _ rfl,hby⟩,hc 4 _ rfl,hc 5 _ rfl,hc 6 _ rfl⟩
end
namespace Fl
theorem run_next (f:Flt) (l:List Dob) {j:Nat} (hj:j<l.length):run f (l.take (j+1))=((step (run f (l.take j)).1 l[j]).1,(run f (l.take j)).2++[(step (run f (l.take j)).1 l[j]).2]):=by
 rw [List.take_succ_eq_append_getElem hj,run_append]
 rfl
end Fl
end Go.Proofs.Ytfdibjgmbdkbcaa
namespace Go.Proofs.Ytfdibjgmbdkbcaa
open Go.RowKit Go.Lib
theorem win_at {w:World} {F:Nat->Prop} {v:Value} {l:List (Int × Int)} (h:RdL w F v l) {j:Nat} (hj:j<l.length):∃ b off c,v = .slice (some ⟨b,off,none⟩) l.length c/\F b/\b<w.heap.size ∧
 w.cell? ⟨b,off+j*2,none⟩=some (.int .i64 l[j].1)/\w.cell? ⟨b,off+j*2+1,none⟩=some (.int .i64 l[j].2):=by
 obtain ⟨b,off,c,hv,hF,hb,ecs,hr,hc⟩:=h.at_ hj
 obtain ⟨c1,c2,rfl,h1,h2⟩:=hr
 have e1:c1=[.int .i64 l[j].1]:=h1
 have e2:c2=[.int .i64 l[j].2]:=h2
 subst e1 e2
 exact ⟨b,off,c,hv,hF,hb,hc 0 _ rfl,hc 1 _ rfl⟩
def prevE (l:List (Int × Int)) (j:Nat):Int:=if j=0 then 0 else (l.getD (j-1) (0,0)).2
theorem wrongF_at {l:List (Int × Int)} {j:Nat} (hj:j<l.length) (e:Int):Fl.wrongF e (l.drop j) j=if l[j].1<0\/l[j].2<=l[j].1\/1000000<l[j].2 then (3,j) else if 0<j/\l[j].1<e then (7,j) else Fl.wrongF l[j].2 (l.drop (j+1)) (j+1):=by
 rw [List.drop_eq_getElem_cons hj]
 rfl
theorem prevE_succ {l:List (Int × Int)} {j:Nat} (hj:j<l.length):prevE l (j+1)=l[j].2:=by
 unfold prevE
 rw [if_neg (by omega),Nat.add_sub_cancel,List.getD_eq_getElem?_getD,List.getElem?_eq_getElem hj]
 rfl
theorem prevE_at {l:List (Int × Int)} {j:Nat} (h0:0<j) (hj:j<=l.length):∃ (h:j-1<l.length),prevE l j=l[j-1].2:=by
 refine ⟨by omega,?_⟩
 unfold prevE
 rw [if_neg (by omega),List.getD_eq_getElem?_getD,List.getElem?_eq_getElem (by omega)]
 rfl
end Go.Proofs.Ytfdibjgmbdkbcaa
