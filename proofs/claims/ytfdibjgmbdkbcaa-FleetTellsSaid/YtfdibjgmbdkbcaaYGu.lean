/-
  THE WALK of fleet.Wrong. Conditions: what is read is windows. Words for memory: answers of the call's own; a shard more; a head's root is another. No conditions.
-/
import Derived.Test.YtfdibjgmbdkbcaaYRepr
import Derived.Test.YtfdibjgmbdkbcaaYGp
import Derived.Test.YtfdibjgmbdkbcaaYGq
namespace Go.Proofs.Ytfdibjgmbdkbcaa
open Go.RowKit Go.Lib
theorem win_at {w:World} {F:Nat->Prop} {v:Value} {l:List (Int × Int)} (h:RdL w F v l) {j:Nat} (hj:j<l.length):∃ b off c,v = .slice (some ⟨b,off,none⟩) l.length c/\F b/\b<w.heap.size ∧
 w.cell? ⟨b,off+j*2,none⟩=some (.int .i64 l[j].1)/\w.cell? ⟨b,off+j*2+1,none⟩=some (.int .i64 l[j].2):=by
 obtain ⟨b,off,c,hv,hF,hb,ecs,hr,hc⟩:=h.at_ hj
 obtain ⟨c1,c2,rfl,h1,h2⟩:=hr
 have e1:c1=[.int .i64 l[j].1]:=h1
 have e2:c2=[.int .i64 l[j].2]:=h2
 subst e1 e2
 exact ⟨b,off,c,hv,hF,hb,hc 0 _ rfl,hc 1 _ rfl⟩
def prevE (l:List (Int × Int)) (j:Nat):Int:=if j=0 then 0 else (l.getD (j-1) (0,0)).2
theorem wrongF_at {l:List (Int × Int)} {j:Nat} (hj:j<l.length) (e:Int):Fl.wrongF e (l.drop j) j=if l[j].1<0\/l[j].2<=l[j].1\/1000000<l[j].2 then (3,j) else if 0<j/\l[j].1<e then (7,j) else Fl.wrongF l[j].2 (l.drop (j+1)) (j+1):=by
 rw [List.drop_eq_getElem_cons hj]
 rfl
theorem prevE_succ {l:List (Int × Int)} {j:Nat} (hj:j<l.length):prevE l (j+1)=l[j].2:=by
 unfold prevE
 rw [if_neg (by omega),Nat.add_sub_cancel,List.getD_eq_getElem?_getD,List.getElem?_eq_getElem hj]
 rfl
theorem prevE_at {l:List (Int × Int)} {j:Nat} (h0:0<j) (hj:j<=l.length):∃ (h:j-1<l.length),prevE l j=l[j-1].2:=by
 refine ⟨by omega,?_⟩
 unfold prevE
 rw [if_neg (by omega),List.getD_eq_getElem?_getD,List.getElem?_eq_getElem (by omega)]
 rfl
set_option maxRecDepth 100000 in
set_option maxHeartbeats 4000000 in
theorem wrongW_any (w:World) (F:Nat->Prop) (v:Value) (l:List (Int × Int)) (hl:RdL w F v l) :
 Calls Try.prog 75 #[v] w fun e w'=>e = .returned (fv (Fl.wrongW l))/\Below w.heap.size w w':=by
 obtain ⟨A,c,hv,hlc,hcm⟩:=hl.form
 subst hv
 unfold maxLen at hcm
 have hx0:=(Below.refl w.heap.size w).alloc (Nat.le_refl _) (.cells #[.int .i64 0,.int .i64 0] 32)
 have hflt:Blk (w.alloc (.cells #[.int .i64 0,.int .i64 0] 32)) w.heap.size 32 #[.int .i64 0,.int .i64 0]:=heap_alloc_new w _
 obtain ⟨R,HR⟩:∃ R,Hid (R=Fl.wrongW l):=⟨_,Lib.hid rfl⟩
 rw [<-HR.out]
 by_cases h8:8<l.length
 · have HS:Hid (R=(5,0)):=Lib.hid (by rw [HR.out];unfold Fl.wrongW;rw [if_pos h8])
   have h8B:(8:Int)<(l.length:Int):=by omega
   go_enter Try.func75,Try.ntmps75
   go_wp2_with fail
   refine bodyPost_ret (v:=.agg #[.int .i64 5,.int .i64 0]) (by simp [results,Try.results75,go_sem]) rfl ?_
   exact ⟨by rw [HS.out];rfl,(Below.refl w.heap.size w).alloc (Nat.le_refl _) _⟩
 have HS:Hid (R=Fl.wrongF 0 l 0):=Lib.hid (by rw [HR.out];unfold Fl.wrongW;rw [if_neg h8])
 have h8B:decide ((8:Int)<(l.length:Int))=false:=decide_eq_false (by omega)
 go_enter Try.func75,Try.ntmps75
 go_wp2_with fail
 go_loopg [11] l.length (fun k i wr=>∃ j:Nat,j+k=l.length/\i = .int .i64 (j:Int)/\Hid (Fl.wrongF (prevE l j) (l.drop j) j=R)/\Blk wr w.heap.size 32 #[.int .i64 0,.int .i64 0]/\Below w.heap.size w wr)
 case atStart=>exact ⟨0,by omega,rfl,Lib.hid HS.out.symm,hflt,hx0⟩
 case round =>
  obtain ⟨j,hj,rfl,HW,hfl,hx⟩:=hrel
  by_cases hlt:j<l.length
  · have hlr:=hl.below hx
    obtain ⟨b,off,c',hA1,_,hb1,c0,c1⟩:=win_at hlr hlt
    injection hA1 with hA1 _ hA3
    subst hA1 hA3
    have hltB:(j:Int)<(l.length:Int):=by omega
    have hj0:(0:Int)<=(j:Int):=by omega
    have HN:=Lib.hid (HW.out.symm.trans (wrongF_at hlt _))
    have HP:=Lib.hid (prevE_succ hlt)
    have hprev:0<j->∃ (h:j-1<l.length),prevE l j=l[j-1].2/\wr.cell? ⟨b,off+(j-1)*2+1,none⟩=some (.int .i64 l[j-1].2):=fun h0=>by
     obtain ⟨hm,he⟩:=prevE_at h0 (Nat.le_of_lt hlt)
     obtain ⟨b',off',c',hA1,_,_,_,c1'⟩:=win_at hlr hm
     injection hA1 with hA1 _ hA3
     injection hA1 with hA1
     injection hA1 with e1 e2
     subst e1 e2
     exact ⟨hm,he,c1'⟩
    generalize prevE l j=pe at *
    generalize hp:l[j]=p at *
    clear hp
    obtain ⟨pa,pb⟩:=p
    simp only at c0 c1 HN HP
    go_upto_region 6 with (fail)
    have hx2:=(Below.refl wr.heap.size wr).alloc (Nat.le_refl _) (.cells #[.int .i64 pa,.int .i64 pb] 112)
    have hbox:Blk (wr.alloc (.cells #[.int .i64 pa,.int .i64 pb] 112)) wr.heap.size 112 #[.int .i64 pa,.int .i64 pb]:=heap_alloc_new wr _
    generalize wr.alloc (.cells #[.int .i64 pa,.int .i64 pb] 112)=w2 at *
    have hf2:=hfl.below hx2 hfl.lt
    have k0:w2.cell? ⟨wr.heap.size,0,none⟩=some (.int .i64 pa):=hbox.cell 0
    have k1:w2.cell? ⟨wr.heap.size,1,none⟩=some (.int .i64 pb):=hbox.cell 1
    have r0:w2.cell? ⟨w.heap.size,0,none⟩=some (.int .i64 0):=hf2.cell 0
    have r1:w2.cell? ⟨w.heap.size,1,none⟩=some (.int .i64 0):=hf2.cell 1
    have z0:=hf2.frozen 0
    have z1:=hf2.frozen 1
    by_cases ha:pa<0
    · have haB:decide (pa<0)=true:=decide_eq_true ha
      have HB:Hid (R=(3,j)):=Lib.hid (by rw [HN.out,if_pos (.inl ha)])
      go_wp2_with fail
      have hxe:=below_set2 (g:=w.heap.size) (hx.trans (hx2.mono hx.size)) (Nat.le_refl _) (.int .i64 3) (.int .i64 (j:Int))
      have hbe:=hf2.set2 (.int .i64 3) (.int .i64 (j:Int))
      generalize (w2.setCell ⟨w.heap.size,0,none⟩ (.int .i64 3)).setCell ⟨w.heap.size,1,none⟩ (.int .i64 (j:Int))=W at *
      have s0:W.cell? ⟨w.heap.size,0,none⟩=some (.int .i64 3):=hbe.cell 0
      have s1:W.cell? ⟨w.heap.size,1,none⟩=some (.int .i64 (j:Int)):=hbe.cell 1
      exact bodyPost_ret (v:=.agg #[.int .i64 3,.int .i64 (j:Int)]) (by simp [results,Try.results75,go_sem,s0,s1]) rfl ⟨by rw [HB.out];rfl,hxe⟩
    have haB:decide (pa<0)=false:=decide_eq_false ha
    by_cases hb:pb<=pa
    · have hbB:decide (pb<=pa)=true:=decide_eq_true hb
      have HB:Hid (R=(3,j)):=Lib.hid (by rw [HN.out,if_pos (.inr (.inl hb))])
      go_wp2_with fail
      have hxe:=below_set2 (g:=w.heap.size) (hx.trans (hx2.mono hx.size)) (Nat.le_refl _) (.int .i64 3) (.int .i64 (j:Int))
      have hbe:=hf2.set2 (.int .i64 3) (.int .i64 (j:Int))
      generalize (w2.setCell ⟨w.heap.size,0,none⟩ (.int .i64 3)).setCell ⟨w.heap.size,1,none⟩ (.int .i64 (j:Int))=W at *
      have s0:W.cell? ⟨w.heap.size,0,none⟩=some (.int .i64 3):=hbe.cell 0
      have s1:W.cell? ⟨w.heap.size,1,none⟩=some (.int .i64 (j:Int)):=hbe.cell 1
      exact bodyPost_ret (v:=.agg #[.int .i64 3,.int .i64 (j:Int)]) (by simp [results,Try.results75,go_sem,s0,s1]) rfl ⟨by rw [HB.out];rfl,hxe⟩
    have hbB:decide (pb<=pa)=false:=decide_eq_false hb
    by_cases hc:1000000<pb
    · have hcB:decide (1000000<pb)=true:=decide_eq_true hc
      have HB:Hid (R=(3,j)):=Lib.hid (by rw [HN.out,if_pos (.inr (.inr hc))])
      go_wp2_with fail
      have hxe:=below_set2 (g:=w.heap.size) (hx.trans (hx2.mono hx.size)) (Nat.le_refl _) (.int .i64 3) (.int .i64 (j:Int))
      have hbe:=hf2.set2 (.int .i64 3) (.int .i64 (j:Int))
      generalize (w2.setCell ⟨w.heap.size,0,none⟩ (.int .i64 3)).setCell ⟨w.heap.size,1,none⟩ (.int .i64 (j:Int))=W at *
      have s0:W.cell? ⟨w.heap.size,0,none⟩=some (.int .i64 3):=hbe.cell 0
      have s1:W.cell? ⟨w.heap.size,1,none⟩=some (.int .i64 (j:Int)):=hbe.cell 1
      exact bodyPost_ret (v:=.agg #[.int .i64 3,.int .i64 (j:Int)]) (by simp [results,Try.results75,go_sem,s0,s1]) rfl ⟨by rw [HB.out];rfl,hxe⟩
    have hcB:decide (1000000<pb)=false:=decide_eq_false hc
    have HN2:Hid (R=if 0<j/\pa<pe then (7,j) else Fl.wrongF pb (l.drop (j+1)) (j+1)):=Lib.hid (by rw [HN.out,if_neg (by omega)])
    go_upto_region 8 with (fail)
    by_cases h0:0<j
    · obtain ⟨hm,he,cp⟩:=hprev h0
      have cp2:=(hx2.cell (p:=⟨b,off+(j-1)*2+1,none⟩) hb1).trans cp
      rw [<-he] at cp2
      clear cp he hprev
      have h0B:decide (0<(j:Int))=true:=decide_eq_true (by omega)
      obtain ⟨m,hjm⟩:∃ m:Nat,j-1=m:=⟨_,rfl⟩
      have hw1:IntKind.i64.wrap ((j:Int)-1)=(m:Int):=by
       have:(j:Int)-1=(m:Int):=by omega
       rw [this]
       exact IntWalk.i64_in _ (by omega)
      rw [hjm] at cp2
      have hm1:(m:Int)<(l.length:Int):=by omega
      have hm0:(0:Int)<=(m:Int):=by omega
      have HJM:=Lib.hid hjm
      clear hjm
      by_cases hpe:pa<pe
      · have hpeB:decide (pa<pe)=true:=decide_eq_true hpe
        have HB:Hid (R=(7,j)):=Lib.hid (by rw [HN2.out,if_pos ⟨h0,hpe⟩])
        go_quiet (fail)
        have hx4:=hx2.trans (below_drewN (Below.refl wr.heap.size w2) nq)
        have hf4:Blk (w2.drewN nq) w.heap.size 32 #[.int .i64 0,.int .i64 0]:=hf2
        generalize w2.drewN nq=w4 at *
        have r40:w4.cell? ⟨w.heap.size,0,none⟩=some (.int .i64 0):=hf4.cell 0
        have r41:w4.cell? ⟨w.heap.size,1,none⟩=some (.int .i64 0):=hf4.cell 1
        have z40:=hf4.frozen 0
        have z41:=hf4.frozen 1
        go_wp2_with fail
        have hxe:=below_set2 (g:=w.heap.size) (hx.trans (hx4.mono hx.size)) (Nat.le_refl _) (.int .i64 7) (.int .i64 (j:Int))
        have hbe:=hf4.set2 (.int .i64 7) (.int .i64 (j:Int))
        generalize (w4.setCell ⟨w.heap.size,0,none⟩ (.int .i64 7)).setCell ⟨w.heap.size,1,none⟩ (.int .i64 (j:Int))=W at *
        have s0:W.cell? ⟨w.heap.size,0,none⟩=some (.int .i64 7):=hbe.cell 0
        have s1:W.cell? ⟨w.heap.size,1,none⟩=some (.int .i64 (j:Int)):=hbe.cell 1
        exact bodyPost_ret (v:=.agg #[.int .i64 7,.int .i64 (j:Int)]) (by simp [results,Try.results75,go_sem,s0,s1]) rfl ⟨by rw [HB.out];rfl,hxe⟩
      · have hpeB:decide (pa<pe)=false:=decide_eq_false hpe
        have HB:Hid (R=Fl.wrongF pb (l.drop (j+1)) (j+1)):=Lib.hid (by rw [HN2.out,if_neg (fun h=>hpe h.2)])
        go_quiet (fail)
        have hx4:=hx2.trans (below_drewN (Below.refl wr.heap.size w2) nq)
        have hf4:Blk (w2.drewN nq) w.heap.size 32 #[.int .i64 0,.int .i64 0]:=hf2
        generalize w2.drewN nq=w4 at *
        have r40:w4.cell? ⟨w.heap.size,0,none⟩=some (.int .i64 0):=hf4.cell 0
        have r41:w4.cell? ⟨w.heap.size,1,none⟩=some (.int .i64 0):=hf4.cell 1
        have z40:=hf4.frozen 0
        have z41:=hf4.frozen 1
        go_wp2_with fail
        go_roundg (gk-1)
        case measure=>omega
        case rel=>exact ⟨j+1,by omega,by go_num,Lib.hid (by rw [HP.out];exact HB.out.symm),hf4,hx.trans (hx4.mono hx.size)⟩
    · have h0B:decide (0<(j:Int))=false:=decide_eq_false (by omega)
      have HB:Hid (R=Fl.wrongF pb (l.drop (j+1)) (j+1)):=Lib.hid (by rw [HN2.out,if_neg (fun h=>h0 h.1)])
      clear hprev
      go_quiet (fail)
      have hx4:=hx2.trans (below_drewN (Below.refl wr.heap.size w2) nq)
      have hf4:Blk (w2.drewN nq) w.heap.size 32 #[.int .i64 0,.int .i64 0]:=hf2
      generalize w2.drewN nq=w4 at *
      have r40:w4.cell? ⟨w.heap.size,0,none⟩=some (.int .i64 0):=hf4.cell 0
      have r41:w4.cell? ⟨w.heap.size,1,none⟩=some (.int .i64 0):=hf4.cell 1
      have z40:=hf4.frozen 0
      have z41:=hf4.frozen 1
      go_wp2_with fail
      go_roundg (gk-1)
      case measure=>omega
      case rel=>exact ⟨j+1,by omega,by go_num,Lib.hid (by rw [HP.out];exact HB.out.symm),hf4,hx.trans (hx4.mono hx.size)⟩
  · have hltB:decide ((j:Int)<(l.length:Int))=false:=decide_eq_false (by omega)
    have HB:Hid (R=(0,0)):=Lib.hid (by
     have h:=HW.out.symm
     rw [List.drop_eq_nil_of_le (by omega)] at h
     exact h)
    have r0:wr.cell? ⟨w.heap.size,0,none⟩=some (.int .i64 0):=hfl.cell 0
    have r1:wr.cell? ⟨w.heap.size,1,none⟩=some (.int .i64 0):=hfl.cell 1
    have z0:=hfl.frozen 0
    have z1:=hfl.frozen 1
    go_wp2_with fail
    have hxe:=below_set2 (g:=w.heap.size) hx (Nat.le_refl _) (.int .i64 0) (.int .i64 0)
    have hbe:=hfl.set2 (.int .i64 0) (.int .i64 0)
    generalize (wr.setCell ⟨w.heap.size,0,none⟩ (.int .i64 0)).setCell ⟨w.heap.size,1,none⟩ (.int .i64 0)=W at *
    have s0:W.cell? ⟨w.heap.size,0,none⟩=some (.int .i64 0):=hbe.cell 0
    have s1:W.cell? ⟨w.heap.size,1,none⟩=some (.int .i64 0):=hbe.cell 1
    exact bodyPost_ret (v:=.agg #[.int .i64 0,.int .i64 0]) (by simp [results,Try.results75,go_sem,s0,s1]) rfl ⟨by rw [HB.out];rfl,hxe⟩
end Go.Proofs.Ytfdibjgmbdkbcaa
namespace Go.Proofs.Ytfdibjgmbdkbcaa
open Go.RowKit Go.Lib
def Same1 (w w':World) (t:TypeId):Prop:=∀ b,b<w.heap.size->(∀ cur,w.heap[b]?≠some (.cells cur t (0,0)))->w'.heap[b]? = w.heap[b]?
section
variable {w w':World} {B gF k:Nat} {tag tag':Tag} {f:Flt} {vs vb x:Value} {us:List ShV} {ws:List Value} {t:TypeId}
theorem Own.alien {e:TypeId} {size n:Nat} {v:Value} {xs:List Value} (h:Own w B e size v n xs) (hk:Same1 w w' t) (hne:e≠t):Own w' B e size v n xs :=
 Own.keep h fun k hk' hlt _=>hk k hlt fun cur hc=>by
  obtain ⟨_,c,h'⟩:=Own.type h k hk'
  rw [h'] at hc
  injection hc with hc
  injection hc with _ h2
  exact hne h2
theorem Blk.alien {g:Nat} {e:TypeId} {cs:Array Value} (h:Blk w g e cs) (hk:Same1 w w' t) (hne:e≠t):Blk w' g e cs:=h.keep (hk g h.lt fun cur hc=>by
 unfold Blk at h
 rw [h] at hc
 injection hc with hc
 injection hc with _ h2
 exact hne h2)
theorem TB.alien {tt:Option (Nat × Nat)} {v:Value} {b:Bs} (h:TB w B tag tt v b) (hk:Same1 w w' t) (hne:5≠t):TB w' B tag tt v b:=⟨Own.alien h.1 hk hne,h.2⟩
theorem FltP.alien (h:FltP w B gF tag f vs vb us ws) (hk:Same1 w w' t) (ha:Alien t):FltP w' B gF tag f vs vb us ws:=by
 obtain ⟨h3,h4,h5,h6⟩:=ha
 obtain ⟨q0,q1,q2,q3,q4,q5,q6,q7⟩:=h
 refine ⟨q0,q1.alien hk (fun e=>h3 (.inl e.symm)),q2,q3.alien hk (fun e=>h3 (.inr (.inl e.symm))),fun k s u hs hu=>?_,q5,q6.alien hk (fun e=>h3 (.inr (.inr e.symm))),fun i r v hr hv=>(q7 i r v hr hv).alien hk h4⟩
 obtain ⟨⟨vs1,t1,t2,t3⟩,t4,ps,t5,t6,t7,t8⟩:=q4 k s u hs hu
 exact ⟨⟨vs1,t1.alien hk h5,t2,fun i b hb=>by obtain ⟨y,hy,ht⟩:=t3 i b hb;exact ⟨y,hy,ht.alien hk h4⟩⟩,t4.alien hk h4,ps,t5,t6.alien hk h6,t7,fun j s p hs hp=>(t8 j s p hs hp).alien hk h4⟩
theorem FltAt.alien (h:FltAt w B gF tag f) (hk:Same1 w w' t) (ha:Alien t):FltAt w' B gF tag f:=by
 obtain ⟨vs,vb,us,ws,hP⟩:=h.parts
 exact (FltP.alien hP hk ha).at_
theorem Same1.set {g:Nat} {cs:Array Value} (hg:Blk w g t cs) (i:Nat) (x:Value):Same1 w (w.setCell ⟨g,i,none⟩ x) t:=fun b _ hn=>Below.heap_setCell _ _ _ b fun e=>by
 have e:b=g:=e
 subst e
 exact hn cs hg
theorem Same1.grown {v:Value} {B' size n:Nat} {xs:List Value} (hg:w.grownBy w' v.ownBlock) (ho:Own w B' t size v n xs):Same1 w w' t:=fun b hb hn=>hg.block b hb fun e=>by
 obtain ⟨_,cur,hc⟩:=Own.type ho b e.symm
 exact hn cur hc
theorem Same1.trans {w'':World} (h:Same1 w w' t) (h':Same1 w' w'' t) (hs:w.heap.size<=w'.heap.size):Same1 w w'' t:=fun b hb hn=>by
 rw [h' b (by omega) (by rw [h b hb hn];exact hn),h b hb hn]
def ansCells (a:Ans) (v:Value):List Value:=[.int .i64 (a.err:Int),.int .i64 a.sh,.int .i64 a.pl,.int .i64 a.sz,v]
def flatA (l:List Ans) (rs:List Value):List Value:=(List.zipWith ansCells l rs).flatten
def AnsAt (w:World) (B:Nat) (tag:Tag) (v:Value) (l:List Ans):Prop :=
 ∃ rs:List Value,rs.length=l.length/\Own w B 105 5 v l.length (flatA l rs)/\Tg tag none v/\∀ (i:Nat) (a:Ans) (u:Value),l[i]? = some a->rs[i]? = some u->TB w B tag none u a.root
theorem AnsAt.nil_ (w:World) (B:Nat) (tag:Tag):AnsAt w B tag (.slice none 0 0) []:=⟨[],rfl,Own.nil_ _ _ _ _,fun k hk=>by simp [Value.ownBlock] at hk,fun i a u h=>by simp at h⟩
theorem Own.kept {e:TypeId} {size n:Nat} {v:Value} {xs:List Value} (h:Own w B e size v n xs) (hK:Kept w w' B tag tag') (ht:Tg tag none v) (he:¬ Own3 e):Own w' B e size v n xs/\Tg tag' none v :=
 ⟨Own.keep h fun k hk hlt _=>by
  obtain ⟨_,cur,hc⟩:=Own.type h k hk
  have:=hK.2.2 k cur e hc he (ht k hk)
  unfold Blk at this
  rw [this,hc],fun k hk=>hK.2.1 k (Own.lt h k hk).2 (ht k hk)⟩
theorem TB.kept {v:Value} {b:Bs} (h:TB w B tag none v b) (hK:Kept w w' B tag tag'):TB w' B tag' none v b:=⟨(Own.kept h.1 hK h.2 u8_not).1,(Own.kept h.1 hK h.2 u8_not).2⟩
theorem AnsAt.kept {v:Value} {l:List Ans} (h:AnsAt w B tag v l) (hK:Kept w w' B tag tag'):AnsAt w' B tag' v l:=by
 obtain ⟨rs,h1,h2,h3,h4⟩:=h
 exact ⟨rs,h1,(Own.kept h2 hK h3 ans_alien.1).1,(Own.kept h2 hK h3 ans_alien.1).2,fun i a u ha hu=>(h4 i a u ha hu).kept hK⟩
theorem AnsAt.below {v:Value} {l:List Ans} (h:AnsAt w B tag v l) (hb:Below w.heap.size w w'):AnsAt w' B tag v l:=by
 obtain ⟨rs,h1,h2,h3,h4⟩:=h
 exact ⟨rs,h1,h2.below hb,h3,fun i a u ha hu=>(h4 i a u ha hu).below hb⟩
theorem AnsAt.alien {v:Value} {l:List Ans} (h:AnsAt w B tag v l) (hk:Same1 w w' t) (h1:105≠t) (h2:5≠t):AnsAt w' B tag v l:=by
 obtain ⟨rs,a1,a2,a3,a4⟩:=h
 exact ⟨rs,a1,a2.alien hk h1,a3,fun i a u ha hu=>(a4 i a u ha hu).alien hk h2⟩
theorem AnsAt.snoc {v v4 rv:Value} {l:List Ans} {rs:List Value} {a:Ans} (h1:rs.length=l.length) (h2:Own w B 105 5 v l.length (flatA l rs)) (h3:Tg tag none v) (h4:∀ (i:Nat) (a:Ans) (u:Value),l[i]? = some a->rs[i]? = some u->TB w B tag none u a.root)
 (hrv:TB w B tag none rv a.root) (hgr:w.grownBy w' v.ownBlock) (hown:Own w' B 105 5 v4 (l.length+1) (flatA l rs++ansCells a rv)) (hat:v4.ownBlock=v.ownBlock\/v4.ownBlock=some w.heap.size) (hT:TagOk w B tag):AnsAt w' B tag v4 (l++[a]):=by
 have hs:Same1 w w' 105:=Same1.grown hgr h2
 refine ⟨rs++[rv],by simp [h1],?_,fun k hk=>?_,fun i b u hb hu=>?_⟩
 · rw [show flatA (l++[a]) (rs++[rv])=flatA l rs++ansCells a rv from flat_snoc ansCells l rs a rv h1]
   simpa using hown
 · rcases hat with e | e
   · exact h3 k (by rw [<-e];exact hk)
   · rw [e] at hk
     injection hk with hk
     subst hk
     exact hT.2 _ (Nat.le_refl _)
 · rcases Nat.lt_or_ge i l.length with hlt | hge
   · rw [List.getElem?_append_left hlt] at hb
     rw [List.getElem?_append_left (by omega)] at hu
     exact (h4 i b u hb hu).alien hs (by decide)
   · rw [List.getElem?_append_right hge] at hb
     rw [List.getElem?_append_right (by omega),h1] at hu
     have hi0:i-l.length=0:=by
      rcases Nat.eq_zero_or_pos (i-l.length) with h | h
      · exact h
      · rw [List.getElem?_eq_none (by simp;omega)] at hb;cases hb
     rw [hi0] at hb hu
     simp only [List.getElem?_cons_zero,Option.some.injEq] at hb hu
     subst hb hu
     exact hrv.alien hs (by decide)
theorem AnsAt.rd {v:Value} {l:List Ans} (h:AnsAt w B tag v l):RdL w (fun b=>B<=b) v l:=by
 obtain ⟨rs,h1,h2,h3,h4⟩:=h
 have hR:OwnR w B 105 (fun k=>B<=k) v l:=⟨_,h2,fun i a ha=>by
  obtain ⟨hlt,_⟩:=List.getElem?_eq_some_iff.1 ha
  have hu:=List.getElem?_eq_getElem (l:=rs) (i:=i) (by omega)
  refine ⟨ansCells a rs[i],?_,fun j x hx=>flat_at ansCells (fun _ _=>rfl) l rs i j a _ x ha hu hx⟩
  exact ⟨[_],[_,_,_,_],rfl,rfl,[_],[_,_,_],rfl,rfl,[_],[_,_],rfl,rfl,[_],[_],rfl,rfl,_,rfl,rdL_bytes.2 ((OwnB.bytes (h4 i a _ ha hu).1).weak fun _ _ h=>h.1)⟩⟩
 exact hR.rd (fun k hk=>(hR.lt k hk).1)
theorem TS.nil_ (w:World) (B:Nat) (tag:Tag) (k:Nat):TS w B tag k (.slice none 0 0) []:=⟨[],rfl,Own.nil_ _ _ _ _,fun b hb=>by simp [Value.ownBlock] at hb,fun j s p h=>by simp at h⟩
theorem TL.nil1 (w:World) (B:Nat) (tag:Tag) (k:Nat):TL w B tag k (.slice none 0 0) []:=⟨[],Own.nil_ _ _ _ _,fun b hb=>by simp [Value.ownBlock] at hb,fun i b hb=>by simp at hb⟩
theorem TB.nil_ (w:World) (B:Nat) (tag:Tag) (tt:Option (Nat × Nat)):TB w B tag tt (.slice none 0 0) []:=⟨Own.nil_ _ _ _ _,fun b hb=>by simp [Value.ownBlock] at hb⟩
def newShd (a b:Int):Shd:=⟨a,b,1,[],Shf.zeroM⟩
def newShV:ShV:=⟨.slice none 0 0,.slice none 0 0,.slice none 0 0⟩
theorem FltP.shsnoc {w3 w4:World} {v4:Value} {a b:Int} (h:FltP w3 B gF tag f vs vb us ws) (hB:B<=w3.heap.size) (hgr:w3.grownBy w4 vs.ownBlock) (hown:Own w4 B 156 7 v4 (f.sh.length+1) (flatSh f.sh us++shCells (newShd a b) newShV)) :
 FltP (w4.setCell ⟨gF,0,none⟩ v4) B gF tag ⟨f.sh++[newShd a b],f.book⟩ v4 vb (us++[newShV]) ws/\Below B w3 (w4.setCell ⟨gF,0,none⟩ v4):=by
 obtain ⟨h0,h1,h2,h3,h4,h5,h6,h7⟩:=h
 have hbel:Below B w3 (w4.setCell ⟨gF,0,none⟩ v4):=((Below.refl B w3).grown hgr hB (fun b hb=>(h3.lt b hb).1)).setCell (p:=⟨gF,0,none⟩) h0 _
 have hc:∀ y,Chg w3 (w4.setCell ⟨gF,0,none⟩ v4) B tag y:=fun y=>⟨hbel,fun b hb _ ho=>by
  have hne:b≠gF:=fun e=>by subst e;exact ho _ h1 _ _ rfl (.inl rfl)
  rw [Below.heap_setCell _ _ _ b hne]
  refine hgr.block b hb (fun e=>?_)
  obtain ⟨_,cur,hcur⟩:=Own.type h3 b e.symm
  exact ho _ hcur _ _ rfl (.inr (.inl rfl))⟩
 have h14:Blk w4 gF 165 #[vs,vb]:=h1.keep (hgr.block _ h1.lt (fun e=>Own.ne_blk h3 h1 (by decide) e.symm))
 have h64:Own w4 B 61 5 vb f.book.length (flatRc f.book ws):=h6.keep fun b hb hbl _=>hgr.block b hbl (fun e=>Own.apart h6 h3 (by decide) b hb e.symm)
 refine ⟨⟨h0,h14.set_ 0 v4,by simp [h2],?_,fun k s u hs hu=>?_,h5,Own.setCell (p:=⟨gF,0,none⟩) h64 (Own.ne_blk h64 h14 (by decide)) v4,fun i r v hr hv=>(h7 i r v hr hv).chg (hc (some (0,0))) (by simp)⟩,hbel⟩
 · have hfl:flatSh (f.sh++[newShd a b]) (us++[newShV])=flatSh f.sh us++shCells (newShd a b) newShV:=flat_snoc shCells f.sh us _ _ h2
   simp only
   rw [hfl]
   simpa using Own.setCell (p:=⟨gF,0,none⟩) hown (Own.ne_blk hown h14 (by decide)) v4
 · simp only at hs
   rcases Nat.lt_or_ge k f.sh.length with hlt | hge
   · rw [List.getElem?_append_left hlt] at hs
     rw [List.getElem?_append_left (by omega)] at hu
     exact (h4 k s u hs hu).chg (hc (some (k+1,0))) (fun j h=>by injection h with h;injection h with h _;omega) (by simp)
   · rw [List.getElem?_append_right hge] at hs
     rw [List.getElem?_append_right (by omega),h2] at hu
     have hi0:k-f.sh.length=0:=by
      rcases Nat.eq_zero_or_pos (k-f.sh.length) with h | h
      · exact h
      · rw [List.getElem?_eq_none (by simp;omega)] at hs;cases hs
     rw [hi0] at hs hu
     simp only [List.getElem?_cons_zero,Option.some.injEq] at hs hu
     subst hs hu
     exact ⟨TL.nil1 _ _ _ _,TB.nil_ _ _ _ _,TS.nil_ _ _ _ _⟩
theorem FltP.bookRoot {gB oB n cB i:Nat} {r:Rec} {rv:Value} (h:FltP w B gF tag f vs (.slice (some ⟨gB,oB,none⟩) n cB) us ws) (hr:f.book[i]? = some r) (hrv:TB w B tag none rv r.root) :
 FltP (w.setCell ⟨gB,oB+i*5+4,none⟩ rv) B gF tag f vs (.slice (some ⟨gB,oB,none⟩) n cB) us (ws.set i rv)/\Kept w (w.setCell ⟨gB,oB+i*5+4,none⟩ rv) B tag tag/\B<=gB:=by
 obtain ⟨h0,h1,h2,h3,h4,h5,h6,h7⟩:=h
 have hn:n=f.book.length:=by
  obtain ⟨_,⟨e,_⟩ | ⟨g2,off2,cap2,cur,hv2,_⟩⟩:=h6
  · cases e
  · injection hv2
 subst hn
 obtain ⟨hlt,_⟩:=List.getElem?_eq_some_iff.1 hr
 obtain ⟨hgB,cur,hcur⟩:=Own.type h6 gB rfl
 have hbel:Below B w (w.setCell ⟨gB,oB+i*5+4,none⟩ rv):=(Below.refl B w).setCell (p:=⟨gB,oB+i*5+4,none⟩) hgB rv
 have hc:∀ y,Chg w (w.setCell ⟨gB,oB+i*5+4,none⟩ rv) B tag y:=fun y=>⟨hbel,fun b hb _ ho=>Below.heap_setCell _ _ _ b (fun e=>by
  have e:b=gB:=e
  subst e
  exact ho _ hcur cur _ rfl (.inr (.inr rfl)))⟩
 have hS:=Own.setN h6 (i*5+4) rv
 rw [<-Nat.add_assoc] at hS
 obtain ⟨v0,hv0⟩:∃ v,ws[i]? = some v:=⟨_,List.getElem?_eq_getElem (by omega)⟩
 have hfl:flatRc (f.book.set i r) (ws.set i rv)=(flatRc f.book ws).set (i*5+4) rv:=flat_set rcCells (fun _ _=>rfl) f.book ws i 4 r r v0 rv rv h5 hr hv0 (by decide) rfl
 have hset:f.book.set i r=f.book:=by
  rw [List.getElem?_eq_some_iff] at hr
  obtain ⟨h,he⟩:=hr
  rw [<-he]
  exact List.set_getElem_self h
 rw [hset] at hfl
 rw [<-hfl] at hS
 refine ⟨⟨h0,h1.far (p:=⟨gB,oB+i*5+4,none⟩) (Blk.ne h1 hcur (by decide)) rv,h2,Own.setCell (p:=⟨gB,oB+i*5+4,none⟩) h3 (Own.ne_blk h3 hcur (by decide)) rv,fun k s u hs hu=>(h4 k s u hs hu).chg (hc (some (k+1,0))) (fun j h=>by injection h with h;injection h with h _;omega) (by simp),by simpa using h5,hS,fun j r' v hr' hv=>?_⟩,(hc (some (0,0))).kept (by simp),hgB⟩
 by_cases e:i=j
 · subst e
   rw [hr] at hr'
   rw [List.getElem?_set_self (by omega)] at hv
   injection hr' with hr'
   injection hv with hv
   subst hr' hv
   exact hrv.chg (hc (some (0,0))) (by simp)
 · rw [List.getElem?_set_ne e] at hv
   exact (h7 j r' v hr' hv).chg (hc (some (0,0))) (by simp)
theorem FltAt.start0 {g:Nat} (hg:Blk w g 165 #[.slice none 0 0,.slice none 0 0]) (hB:B<=g):FltAt w B g tag ⟨[],[]⟩ :=
 ⟨.slice none 0 0,.slice none 0 0,[],[],hB,hg,rfl,Own.nil_ _ _ _ _,(fun k s u hs=>by simp at hs),rfl,Own.nil_ _ _ _ _,(fun i r v hr=>by simp at hr)⟩
theorem FltP.rd (h:FltP w B gF tag f vs vb us ws):RdL w (fun b=>B<=b) vs f.sh/\RdL w (fun b=>B<=b) vb f.book:=by
 obtain ⟨vs',vb',_,hb,h1,h2⟩:=h.at_.rd
 have hq:=h.2.1
 unfold Blk at hb hq
 rw [hb] at hq
 injection hq with hq
 injection hq with hq _
 injection hq with hq
 injection hq with e1 hq
 injection hq with e2 _
 subst e1 e2
 exact ⟨h1,h2⟩
theorem fleet_alien:Alien 92:=by unfold Alien Own3;decide
theorem fault_alien:Alien 32:=by unfold Alien Own3;decide
theorem FltP.set2 {g:Nat} {x y:Value} (h:FltP w B gF tag f vs vb us ws) (hg:Blk w g t #[x,y]) (ha:Alien t) (u v:Value):FltP ((w.setCell ⟨g,0,none⟩ u).setCell ⟨g,1,none⟩ v) B gF tag f vs vb us ws :=
 (FltP.alien h (Same1.set hg 0 u) ha).alien (Same1.set (hg.set_ 0 u) 1 v) ha
theorem AnsAt.set2 {g:Nat} {x y o:Value} {l:List Ans} (h:AnsAt w B tag o l) (hg:Blk w g t #[x,y]) (h1:105≠t) (h2:5≠t) (u v:Value):AnsAt ((w.setCell ⟨g,0,none⟩ u).setCell ⟨g,1,none⟩ v) B tag o l :=
 (AnsAt.alien h (Same1.set hg 0 u) h1 h2).alien (Same1.set (hg.set_ 0 u) 1 v) h1 h2
theorem do_at {lv:Value} {l:List Dob} (h:RdL w (fun b=>b<B) lv l) {j:Nat} (hj:j<l.length) (hB:B<=w.heap.size):∃ q off c,lv = .slice (some ⟨q,off,none⟩) l.length c/\DoAt w B q (off+j*7) l[j]:=by
 obtain ⟨b,off,c,hv,hF,hb,ecs,hr,hc⟩:=h.at_ hj
 obtain ⟨c1,c1',rfl,h1,c2,c2',rfl,h2,c3,c3',rfl,h3,c4,c4',rfl,⟨u4,h4',h4⟩,c5,c5',rfl,h5,c6,c7,rfl,h6,h7⟩:=hr
 have e1:c1=[.int .i64 l[j].kind]:=h1
 have e2:c2=[.int .i64 l[j].n]:=h2
 have e3:c3=[.int .i64 l[j].time]:=h3
 have e5:c5=[.int .i64 l[j].seg]:=h5
 have e6:c6=[.int .i64 l[j].pos]:=h6
 have e7:c7=[bv l[j].turn]:=h7
 subst e1 e2 e3 h4' e5 e6 e7
 have hby:=rdL_bytes.1 h4
 obtain ⟨A4,c4,rfl⟩:=hby.form
 exact ⟨b,off,c,hv,hF,hB,hc 0 _ rfl,hc 1 _ rfl,hc 2 _ rfl,⟨A4,c4,hc 3 _ rfl,hby⟩,hc 4 _ rfl,hc 5 _ rfl,hc 6 _ rfl⟩
end
namespace Fl
theorem root_rowR {f:Flt} (h:Inv f) (k:Int):(rowR f.book k).root.length<=32:=by
 unfold rowR
 split
 · rename_i i hi
   obtain ⟨hlt,_⟩:=List.findIdx?_eq_some_iff_getElem.1 hi
   rw [List.getD_eq_getElem?_getD,List.getElem?_eq_getElem hlt]
   exact Nat.le_of_eq (h.book _ (List.getElem_mem hlt)).root
 · decide
theorem step_root {f:Flt} (h:Inv f) (d:Dob):(step f d).2.root.length<=32:=by
 have hr:∀ l,(Tr.rootL l).length<=32:=fun l=>Nat.le_of_eq (Tr.length_rootL l)
 have hn:∀ e,(no e).root.length<=32:=fun e=>by simp [no]
 unfold step
 split
 · unfold submit
   split
   · exact hn _
   · split
     · exact hn _
     · split
       · exact hn _
       · split
         · exact hn _
         · split
           · simp
           · split
             · exact hn _
             · simp
 · split
   · exact hn _
   · split
     · exact hn _
     · split
       · exact hn _
       · split
         · exact hn _
         · split
           · exact hr _
           · split
             · exact hr _
             · split
               · unfold retire
                 split
                 · exact root_rowR h _
                 · exact hn _
               · unfold spoil
                 split
                 · exact hn _
                 · split
                   · exact hn _
                   · simp
theorem run_next (f:Flt) (l:List Dob) {j:Nat} (hj:j<l.length):run f (l.take (j+1))=((step (run f (l.take j)).1 l[j]).1,(run f (l.take j)).2++[(step (run f (l.take j)).1 l[j]).2]):=by
 rw [List.take_succ_eq_append_getElem hj,run_append]
 rfl
end Fl
end Go.Proofs.Ytfdibjgmbdkbcaa
