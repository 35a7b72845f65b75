/-
  THE WALK of yearref5.Show. Conditions: a fleet of which all holds.
-/
import Derived.Test.YtfdibjgmbdkbcaaZFK
import Derived.Test.YtfdibjgmbdkbcaaZR2B
import Derived.Test.YtfdibjgmbdkbcaaZR5H
import Derived.Test.YtfdibjgmbdkbcaaZR5B
namespace Go.Proofs.Ytfdibjgmbdkbcaa
open Go.RowKit Go.Lib
def rowF (b:List Rec) (k:Int) (m:Nat):Int:=match (b.drop m).findIdx? (fun r=>r.sh==k) with
 | some t=>((m+t:Nat):Int)
 | none=>-1
theorem rowF_top (b:List Rec) (k:Int):rowF b k b.length = -1:=by unfold rowF;rw [List.drop_length];rfl
theorem rowF_yes {b:List Rec} {k:Int} {m:Nat} (h:m<b.length) (hs:b[m].sh=k):rowF b k m=(m:Int):=by
 unfold rowF
 rw [List.drop_eq_getElem_cons h,List.findIdx?_cons,show (b[m].sh==k)=true by rw [beq_iff_eq];exact hs]
 rfl
theorem rowF_no {b:List Rec} {k:Int} {m:Nat} (h:m<b.length) (hs:b[m].sh≠k):rowF b k m=rowF b k (m+1):=by
 unfold rowF
 rw [List.drop_eq_getElem_cons h,List.findIdx?_cons,show (b[m].sh==k)=false by rw [beq_eq_false_iff_ne];exact hs]
 cases (b.drop (m+1)).findIdx? (fun r=>r.sh==k) with
 | none=>rfl
 | some t =>
   show ((m+(t+1):Nat):Int)=((m+1+t:Nat):Int)
   omega
theorem rowF_zero (b:List Rec) (k:Int):rowF b k 0=match Fl.row b k with
 | some t=>(t:Int)
 | none=>-1:=by
 unfold rowF Fl.row
 rw [List.drop_zero]
 cases b.findIdx? (fun r=>r.sh==k) with
 | none=>rfl
 | some t=>show ((0+t:Nat):Int)=(t:Int);omega
theorem rrowsF (w:World) (F:Nat->Prop) (v:Value) (l:List Rec) (hl:RdL w F v l) (hf:Bk.FineB l) :
 Calls Try.prog 54 #[v] w fun e w'=>∃ v,e = .returned (.tuple #[v,.agg #[.int .i64 0,.int .i64 0]])/\OwnL w' w.heap.size v (Bk.rows l)/\Below w.heap.size w w':=by
 have h0:=Bk.wrongB_zero l ((Bk.wrongB_ok l).2 hf)
 refine (rrows_any w F v l hl).mono ?_
 rintro e w' ⟨rv,rfl,h1,hx⟩
 rw [h0,if_pos rfl] at h1
 exact ⟨rv,by rw [h0];rfl,h1,hx⟩
theorem OwnQ.blistF {w:World} {B:Nat} {v:Value} {ll:List Bs} (h:OwnQ w B B v ll):BList w (fun k=>B<=k) v ll:=by
 obtain ⟨vs,h1,h2⟩:=h
 refine ⟨vs,h1.slAt (fun k hk=>(Own.type h1 k hk).1),fun i b hi=>?_⟩
 obtain ⟨u,hu,ho⟩:=h2 i b hi
 exact ⟨u,hu,SlAt.weak ho (fun _ _ hk=>hk.1)⟩
theorem rverF (w:World) (F F':Nat->Prop) (vr vs:Value) (m:Man) (r:(Nat × Nat) × List Bs) (he:Shf.verC m=r) (hr:Bytes w F' vr m.root) (hs:RdL w F vs m.segs) (h0:r.1.1=0) :
 Calls Try.prog 67 #[.agg #[.int .i64 m.size,vr,vs]] w fun e w'=>∃ (A:Option Addr) (c x:Nat),e = .returned (.tuple #[.slice A r.2.length c,.agg #[.int .i64 0,.int .i64 (x:Int)]])/\BList w' (fun k=>w.heap.size<=k) (.slice A r.2.length c) r.2/\Below w.heap.size w w':=by
 subst he
 refine (rverify_any w F F' vr vs m hr hs).mono ?_
 rintro e w' ⟨v,rfl,ho,hx⟩
 have hb:=ho.blistF
 obtain ⟨A,c,hv,_,_,_⟩:=hb.shape
 subst hv
 exact ⟨A,c,(Shf.verC m).1.2,by unfold fv;rw [h0];rfl,hb,hx⟩
set_option maxRecDepth 100000 in
set_option maxHeartbeats 16000000 in
theorem rshow_any (w:World) (F F':Nat->Prop) (vs vb:Value) (f:Flt) (kk i:Int) (hsh:RdL w F vs f.sh) (hbk:RdL w F' vb f.book) (hI:Fl.Inv f) :
 Calls Try.prog 70 #[.agg #[vs,vb],.int .i64 kk,.int .i64 i] w (ShowP w (Fl.showC f kk i)):=by
 obtain ⟨Av,cv,hvs,hncv,hcvm⟩:=hsh.form
 obtain ⟨Ab,cb,hvb,hncb,hcbm⟩:=hbk.form
 subst hvs hvb
 unfold maxLen at hcvm hcbm
 have hlen8:=hI.len
 have hbook8:=hI.book_len
 have hx1:=((Below.refl w.heap.size w).alloc (Nat.le_refl _) (.cells #[.slice Av f.sh.length cv,.slice Ab f.book.length cb] 92)).alloc (by simp) (.cells #[.slice none 0 0,.int .i64 0,.int .i64 0,.slice none 0 0,.int .i64 0,.int .i64 0,.int .i64 0,.int .i64 0,.slice none 0 0,.int .i64 0,.slice none 0 0,.int .i64 0,.slice none 0 0] 89)
 have hb3:Blk ((w.alloc (.cells #[.slice Av f.sh.length cv,.slice Ab f.book.length cb] 92)).alloc (.cells #[.slice none 0 0,.int .i64 0,.int .i64 0,.slice none 0 0,.int .i64 0,.int .i64 0,.int .i64 0,.int .i64 0,.slice none 0 0,.int .i64 0,.slice none 0 0,.int .i64 0,.slice none 0 0] 89)) w.heap.size 92 #[.slice Av f.sh.length cv,.slice Ab f.book.length cb]:=Blk.alloc (heap_alloc_new w _) _
 have hb6:Blk ((w.alloc (.cells #[.slice Av f.sh.length cv,.slice Ab f.book.length cb] 92)).alloc (.cells #[.slice none 0 0,.int .i64 0,.int .i64 0,.slice none 0 0,.int .i64 0,.int .i64 0,.int .i64 0,.int .i64 0,.slice none 0 0,.int .i64 0,.slice none 0 0,.int .i64 0,.slice none 0 0] 89)) (w.heap.size+1) 89 #[.slice none 0 0,.int .i64 0,.int .i64 0,.slice none 0 0,.int .i64 0,.int .i64 0,.int .i64 0,.int .i64 0,.slice none 0 0,.int .i64 0,.slice none 0 0,.int .i64 0,.slice none 0 0]:=by
  have:=heap_alloc_new (w.alloc (.cells #[.slice Av f.sh.length cv,.slice Ab f.book.length cb] 92)) (.cells #[.slice none 0 0,.int .i64 0,.int .i64 0,.slice none 0 0,.int .i64 0,.int .i64 0,.int .i64 0,.int .i64 0,.slice none 0 0,.int .i64 0,.slice none 0 0,.int .i64 0,.slice none 0 0] 89)
  rw [World.size_alloc] at this
  exact this
 obtain ⟨R,HR⟩:∃ R,Hid (R=Fl.showC f kk i):=⟨_,Lib.hid rfl⟩
 rw [<-HR.out]
 go_enter Try.func70,Try.ntmps70
 go_upto_region 1 with (fail)
 generalize ((w.alloc (.cells #[.slice Av f.sh.length cv,.slice Ab f.book.length cb] 92)).alloc (.cells #[.slice none 0 0,.int .i64 0,.int .i64 0,.slice none 0 0,.int .i64 0,.int .i64 0,.int .i64 0,.int .i64 0,.slice none 0 0,.int .i64 0,.slice none 0 0,.int .i64 0,.slice none 0 0] 89))=w1 at *
 generalize hg6e:w.heap.size+1=g6 at *
 have hg6w:w.heap.size<=g6:=by omega
 have hg6lt:w.heap.size<g6:=by omega
 clear hg6e
 have g0:w1.cell? ⟨w.heap.size,0,none⟩=some (.slice Av f.sh.length cv):=hb3.cell 0
 have g1:w1.cell? ⟨w.heap.size,1,none⟩=some (.slice Ab f.book.length cb):=hb3.cell 1
 have z0:w1.cell? ⟨g6,0,none⟩=some (.slice none 0 0):=hb6.cell 0
 have zf0:=hb6.frozen 0
 have z1:w1.cell? ⟨g6,1,none⟩=some (.int .i64 0):=hb6.cell 1
 have zf1:=hb6.frozen 1
 have z2:w1.cell? ⟨g6,2,none⟩=some (.int .i64 0):=hb6.cell 2
 have zf2:=hb6.frozen 2
 have z3:w1.cell? ⟨g6,3,none⟩=some (.slice none 0 0):=hb6.cell 3
 have zf3:=hb6.frozen 3
 have z4:w1.cell? ⟨g6,4,none⟩=some (.int .i64 0):=hb6.cell 4
 have zf4:=hb6.frozen 4
 have z5:w1.cell? ⟨g6,5,none⟩=some (.int .i64 0):=hb6.cell 5
 have zf5:=hb6.frozen 5
 have z6:w1.cell? ⟨g6,6,none⟩=some (.int .i64 0):=hb6.cell 6
 have zf6:=hb6.frozen 6
 have z7:w1.cell? ⟨g6,7,none⟩=some (.int .i64 0):=hb6.cell 7
 have zf7:=hb6.frozen 7
 have z8:w1.cell? ⟨g6,8,none⟩=some (.slice none 0 0):=hb6.cell 8
 have zf8:=hb6.frozen 8
 have z9:w1.cell? ⟨g6,9,none⟩=some (.int .i64 0):=hb6.cell 9
 have zf9:=hb6.frozen 9
 have z10:w1.cell? ⟨g6,10,none⟩=some (.slice none 0 0):=hb6.cell 10
 have zf10:=hb6.frozen 10
 have z11:w1.cell? ⟨g6,11,none⟩=some (.int .i64 0):=hb6.cell 11
 have zf11:=hb6.frozen 11
 have z12:w1.cell? ⟨g6,12,none⟩=some (.slice none 0 0):=hb6.cell 12
 have zf12:=hb6.frozen 12
 by_cases hneg:kk<0
 · have hnegB:decide (kk<0)=true:=decide_eq_true hneg
   have HS:Hid (R=(6,Fl.zeroS)):=Lib.hid (by rw [HR.out,Fl.showC_none i (.inl hneg)])
   go_wp2_with fail
   have hW:setL w1 g6 0 [.slice none 0 0,.int .i64 0,.int .i64 0,.slice none 0 0,.int .i64 0,.int .i64 0,.int .i64 0,.int .i64 0,.slice none 0 0,.int .i64 0,.slice none 0 0,.int .i64 0,.slice none 0 0]=(((((((((((((w1.setCell ⟨g6,0,none⟩ (.slice none 0 0)).setCell ⟨g6,1,none⟩ (.int .i64 0)).setCell ⟨g6,2,none⟩ (.int .i64 0)).setCell ⟨g6,3,none⟩ (.slice none 0 0)).setCell ⟨g6,4,none⟩ (.int .i64 0)).setCell ⟨g6,5,none⟩ (.int .i64 0)).setCell ⟨g6,6,none⟩ (.int .i64 0)).setCell ⟨g6,7,none⟩ (.int .i64 0)).setCell ⟨g6,8,none⟩ (.slice none 0 0)).setCell ⟨g6,9,none⟩ (.int .i64 0)).setCell ⟨g6,10,none⟩ (.slice none 0 0)).setCell ⟨g6,11,none⟩ (.int .i64 0)).setCell ⟨g6,12,none⟩ (.slice none 0 0)):=rfl
   rw [<-hW]
   clear hW
   have hbe:Blk (setL w1 g6 0 [.slice none 0 0,.int .i64 0,.int .i64 0,.slice none 0 0,.int .i64 0,.int .i64 0,.int .i64 0,.int .i64 0,.slice none 0 0,.int .i64 0,.slice none 0 0,.int .i64 0,.slice none 0 0]) (g6) 89 #[.slice none 0 0,.int .i64 0,.int .i64 0,.slice none 0 0,.int .i64 0,.int .i64 0,.int .i64 0,.int .i64 0,.slice none 0 0,.int .i64 0,.slice none 0 0,.int .i64 0,.slice none 0 0]:=setL_blk [.slice none 0 0,.int .i64 0,.int .i64 0,.slice none 0 0,.int .i64 0,.int .i64 0,.int .i64 0,.int .i64 0,.slice none 0 0,.int .i64 0,.slice none 0 0,.int .i64 0,.slice none 0 0] [.slice none 0 0,.int .i64 0,.int .i64 0,.slice none 0 0,.int .i64 0,.int .i64 0,.int .i64 0,.int .i64 0,.slice none 0 0,.int .i64 0,.slice none 0 0,.int .i64 0,.slice none 0 0] [] w1 rfl hb6
   have hxe:Below w.heap.size w (setL w1 g6 0 [.slice none 0 0,.int .i64 0,.int .i64 0,.slice none 0 0,.int .i64 0,.int .i64 0,.int .i64 0,.int .i64 0,.slice none 0 0,.int .i64 0,.slice none 0 0,.int .i64 0,.slice none 0 0]):=setL_below hg6w _ _ _ hx1
   have hrd:=zeroS_rd (setL w1 g6 0 [.slice none 0 0,.int .i64 0,.int .i64 0,.slice none 0 0,.int .i64 0,.int .i64 0,.int .i64 0,.int .i64 0,.slice none 0 0,.int .i64 0,.slice none 0 0,.int .i64 0,.slice none 0 0]) (fun _=>True)
   generalize setL w1 g6 0 [.slice none 0 0,.int .i64 0,.int .i64 0,.slice none 0 0,.int .i64 0,.int .i64 0,.int .i64 0,.int .i64 0,.slice none 0 0,.int .i64 0,.slice none 0 0,.int .i64 0,.slice none 0 0]=W at *
   have s0:W.cell? ⟨g6,0,none⟩=some (.slice none 0 0):=hbe.cell 0
   have s1:W.cell? ⟨g6,1,none⟩=some (.int .i64 0):=hbe.cell 1
   have s2:W.cell? ⟨g6,2,none⟩=some (.int .i64 0):=hbe.cell 2
   have s3:W.cell? ⟨g6,3,none⟩=some (.slice none 0 0):=hbe.cell 3
   have s4:W.cell? ⟨g6,4,none⟩=some (.int .i64 0):=hbe.cell 4
   have s5:W.cell? ⟨g6,5,none⟩=some (.int .i64 0):=hbe.cell 5
   have s6:W.cell? ⟨g6,6,none⟩=some (.int .i64 0):=hbe.cell 6
   have s7:W.cell? ⟨g6,7,none⟩=some (.int .i64 0):=hbe.cell 7
   have s8:W.cell? ⟨g6,8,none⟩=some (.slice none 0 0):=hbe.cell 8
   have s9:W.cell? ⟨g6,9,none⟩=some (.int .i64 0):=hbe.cell 9
   have s10:W.cell? ⟨g6,10,none⟩=some (.slice none 0 0):=hbe.cell 10
   have s11:W.cell? ⟨g6,11,none⟩=some (.int .i64 0):=hbe.cell 11
   have s12:W.cell? ⟨g6,12,none⟩=some (.slice none 0 0):=hbe.cell 12
   exact bodyPost_ret (v:=.tuple #[.agg #[.slice none 0 0,.int .i64 0,.int .i64 0,.slice none 0 0,.int .i64 0,.int .i64 0,.int .i64 0,.int .i64 0,.slice none 0 0,.int .i64 0,.slice none 0 0,.int .i64 0,.slice none 0 0],.int .i64 6]) (by simp [results,Try.results70,go_sem,s0,s1,s2,s3,s4,s5,s6,s7,s8,s9,s10,s11,s12]) rfl (by rw [HS.out];exact ⟨[.slice none 0 0,.int .i64 0,.int .i64 0,.slice none 0 0,.int .i64 0,.int .i64 0,.int .i64 0,.int .i64 0,.slice none 0 0,.int .i64 0,.slice none 0 0,.int .i64 0,.slice none 0 0],rfl,hrd,hxe⟩)
 have hnegB:decide (kk<0)=false:=decide_eq_false hneg
 by_cases hge:(f.sh.length:Int)<=kk
 · have hgeB:decide ((f.sh.length:Int)<=kk)=true:=decide_eq_true hge
   have HS:Hid (R=(6,Fl.zeroS)):=Lib.hid (by rw [HR.out,Fl.showC_none i (.inr hge)])
   go_wp2_with fail
   have hW:setL w1 g6 0 [.slice none 0 0,.int .i64 0,.int .i64 0,.slice none 0 0,.int .i64 0,.int .i64 0,.int .i64 0,.int .i64 0,.slice none 0 0,.int .i64 0,.slice none 0 0,.int .i64 0,.slice none 0 0]=(((((((((((((w1.setCell ⟨g6,0,none⟩ (.slice none 0 0)).setCell ⟨g6,1,none⟩ (.int .i64 0)).setCell ⟨g6,2,none⟩ (.int .i64 0)).setCell ⟨g6,3,none⟩ (.slice none 0 0)).setCell ⟨g6,4,none⟩ (.int .i64 0)).setCell ⟨g6,5,none⟩ (.int .i64 0)).setCell ⟨g6,6,none⟩ (.int .i64 0)).setCell ⟨g6,7,none⟩ (.int .i64 0)).setCell ⟨g6,8,none⟩ (.slice none 0 0)).setCell ⟨g6,9,none⟩ (.int .i64 0)).setCell ⟨g6,10,none⟩ (.slice none 0 0)).setCell ⟨g6,11,none⟩ (.int .i64 0)).setCell ⟨g6,12,none⟩ (.slice none 0 0)):=rfl
   rw [<-hW]
   clear hW
   have hbe:Blk (setL w1 g6 0 [.slice none 0 0,.int .i64 0,.int .i64 0,.slice none 0 0,.int .i64 0,.int .i64 0,.int .i64 0,.int .i64 0,.slice none 0 0,.int .i64 0,.slice none 0 0,.int .i64 0,.slice none 0 0]) (g6) 89 #[.slice none 0 0,.int .i64 0,.int .i64 0,.slice none 0 0,.int .i64 0,.int .i64 0,.int .i64 0,.int .i64 0,.slice none 0 0,.int .i64 0,.slice none 0 0,.int .i64 0,.slice none 0 0]:=setL_blk [.slice none 0 0,.int .i64 0,.int .i64 0,.slice none 0 0,.int .i64 0,.int .i64 0,.int .i64 0,.int .i64 0,.slice none 0 0,.int .i64 0,.slice none 0 0,.int .i64 0,.slice none 0 0] [.slice none 0 0,.int .i64 0,.int .i64 0,.slice none 0 0,.int .i64 0,.int .i64 0,.int .i64 0,.int .i64 0,.slice none 0 0,.int .i64 0,.slice none 0 0,.int .i64 0,.slice none 0 0] [] w1 rfl hb6
   have hxe:Below w.heap.size w (setL w1 g6 0 [.slice none 0 0,.int .i64 0,.int .i64 0,.slice none 0 0,.int .i64 0,.int .i64 0,.int .i64 0,.int .i64 0,.slice none 0 0,.int .i64 0,.slice none 0 0,.int .i64 0,.slice none 0 0]):=setL_below hg6w _ _ _ hx1
   have hrd:=zeroS_rd (setL w1 g6 0 [.slice none 0 0,.int .i64 0,.int .i64 0,.slice none 0 0,.int .i64 0,.int .i64 0,.int .i64 0,.int .i64 0,.slice none 0 0,.int .i64 0,.slice none 0 0,.int .i64 0,.slice none 0 0]) (fun _=>True)
   generalize setL w1 g6 0 [.slice none 0 0,.int .i64 0,.int .i64 0,.slice none 0 0,.int .i64 0,.int .i64 0,.int .i64 0,.int .i64 0,.slice none 0 0,.int .i64 0,.slice none 0 0,.int .i64 0,.slice none 0 0]=W at *
   have s0:W.cell? ⟨g6,0,none⟩=some (.slice none 0 0):=hbe.cell 0
   have s1:W.cell? ⟨g6,1,none⟩=some (.int .i64 0):=hbe.cell 1
   have s2:W.cell? ⟨g6,2,none⟩=some (.int .i64 0):=hbe.cell 2
   have s3:W.cell? ⟨g6,3,none⟩=some (.slice none 0 0):=hbe.cell 3
   have s4:W.cell? ⟨g6,4,none⟩=some (.int .i64 0):=hbe.cell 4
   have s5:W.cell? ⟨g6,5,none⟩=some (.int .i64 0):=hbe.cell 5
   have s6:W.cell? ⟨g6,6,none⟩=some (.int .i64 0):=hbe.cell 6
   have s7:W.cell? ⟨g6,7,none⟩=some (.int .i64 0):=hbe.cell 7
   have s8:W.cell? ⟨g6,8,none⟩=some (.slice none 0 0):=hbe.cell 8
   have s9:W.cell? ⟨g6,9,none⟩=some (.int .i64 0):=hbe.cell 9
   have s10:W.cell? ⟨g6,10,none⟩=some (.slice none 0 0):=hbe.cell 10
   have s11:W.cell? ⟨g6,11,none⟩=some (.int .i64 0):=hbe.cell 11
   have s12:W.cell? ⟨g6,12,none⟩=some (.slice none 0 0):=hbe.cell 12
   exact bodyPost_ret (v:=.tuple #[.agg #[.slice none 0 0,.int .i64 0,.int .i64 0,.slice none 0 0,.int .i64 0,.int .i64 0,.int .i64 0,.int .i64 0,.slice none 0 0,.int .i64 0,.slice none 0 0,.int .i64 0,.slice none 0 0],.int .i64 6]) (by simp [results,Try.results70,go_sem,s0,s1,s2,s3,s4,s5,s6,s7,s8,s9,s10,s11,s12]) rfl (by rw [HS.out];exact ⟨[.slice none 0 0,.int .i64 0,.int .i64 0,.slice none 0 0,.int .i64 0,.int .i64 0,.int .i64 0,.int .i64 0,.slice none 0 0,.int .i64 0,.slice none 0 0,.int .i64 0,.slice none 0 0],rfl,hrd,hxe⟩)
 have hgeB:decide ((f.sh.length:Int)<=kk)=false:=decide_eq_false hge
 go_upto_region 3 with (fail)
 try simp only [hnegB,hgeB,Bool.or_self]
 obtain ⟨k,hk⟩:∃ k:Nat,kk=(k:Int):=⟨kk.toNat,by omega⟩
 have hkl:k<f.sh.length:=by omega
 have hks:f.sh[k]? = some f.sh[k]:=List.getElem?_eq_getElem hkl
 subst hk
 clear hnegB hgeB hneg hge
 have hs1:=(hsh.weak (F':=fun b=>b<w.heap.size) (fun b hb _=>hb)).below hx1
 have hbk1:=(hbk.weak (F':=fun b=>b<w.heap.size) (fun b hb _=>hb)).below hx1
 go_wp2_with fail
 go_loopg [8,9] f.book.length (fun m v u wr=>m<=f.book.length/\u = .int .i64 ((m:Int)-1)/\∃ x:Int,v = .int .i64 x/\Hid (x=rowF f.book (k:Int) m)/\wr=w1)
 case atStart=>exact ⟨Nat.le_refl _,rfl,-1,rfl,Lib.hid (rowF_top _ _).symm,rfl⟩
 case round =>
  obtain ⟨hgk,rfl,x,rfl,HX,hwr⟩:=hrel
  replace hwr:=hwr.symm
  subst hwr
  by_cases h0:0<gk
  · have hge:(0:Int)<=(gk:Int)-1:=by omega
    have hge1:(1:Int)<=(gk:Int):=by omega
    have hl1:(gk:Int)-1<(f.book.length:Int):=by omega
    have HT1:((gk:Int)-1).toNat=gk-1:=by omega
    have hjl:gk-1<f.book.length:=by omega
    obtain ⟨gB,oB,cB',Ar,cr,hA1,_,hgB,q0,-,-,-,-,-⟩:=rec_at hbk1 hjl
    injection hA1 with hA1 _ hA3
    subst hA1 hA3
    have HY:=Lib.hid (fun h:f.book[gk-1].sh=(k:Int)=>rowF_yes hjl h)
    have HN:=Lib.hid (fun h:f.book[gk-1].sh≠(k:Int)=>rowF_no hjl h)
    generalize f.book[gk-1].sh=sh at *
    by_cases heq:sh=(k:Int)
    · have heB:(sh==(k:Int))=true:=by rw [beq_iff_eq];exact heq
      have HR1:=Lib.hid (HY.out heq)
      clear heq HY HN
      go_wp2_with fail
      go_roundg (gk-1)
      case measure=>omega
      case rel=>exact ⟨by omega,by congr 1;omega,_,rfl,Lib.hid (by rw [HR1.out];omega),rfl⟩
    · have heB:(sh==(k:Int))=false:=by rw [beq_eq_false_iff_ne];exact heq
      have HR1:=Lib.hid (HN.out heq)
      clear heq HY HN
      go_wp2_with fail
      go_roundg (gk-1)
      case measure=>omega
      case rel=>exact ⟨by omega,by congr 1;omega,_,rfl,Lib.hid (by rw [HR1.out,HX.out];congr 1;omega),rfl⟩
  · have hgeB:decide ((0:Int)<=(gk:Int)-1)=false:=decide_eq_false (by omega)
    have hgk0:gk=0:=by omega
    have HX0:=HX.out
    rw [hgk0,rowF_zero] at HX0
    clear hgk0 HX hgk
    cases hrow:Fl.row f.book (k:Int) with
    | none =>
      rw [hrow] at HX0
      simp only at HX0
      subst HX0
      have HS:Hid (R=(8,Fl.zeroS)):=Lib.hid (by rw [HR.out];unfold Fl.showC;rw [if_neg (by omega),Int.toNat_natCast,hks];simp only [hrow])
      clear hrow hks
      go_wp2_with fail
      have hW:setL w1 g6 0 [.slice none 0 0,.int .i64 0,.int .i64 0,.slice none 0 0,.int .i64 0,.int .i64 0,.int .i64 0,.int .i64 0,.slice none 0 0,.int .i64 0,.slice none 0 0,.int .i64 0,.slice none 0 0]=(((((((((((((w1.setCell ⟨g6,0,none⟩ (.slice none 0 0)).setCell ⟨g6,1,none⟩ (.int .i64 0)).setCell ⟨g6,2,none⟩ (.int .i64 0)).setCell ⟨g6,3,none⟩ (.slice none 0 0)).setCell ⟨g6,4,none⟩ (.int .i64 0)).setCell ⟨g6,5,none⟩ (.int .i64 0)).setCell ⟨g6,6,none⟩ (.int .i64 0)).setCell ⟨g6,7,none⟩ (.int .i64 0)).setCell ⟨g6,8,none⟩ (.slice none 0 0)).setCell ⟨g6,9,none⟩ (.int .i64 0)).setCell ⟨g6,10,none⟩ (.slice none 0 0)).setCell ⟨g6,11,none⟩ (.int .i64 0)).setCell ⟨g6,12,none⟩ (.slice none 0 0)):=rfl
      rw [<-hW]
      clear hW
      have hbe:Blk (setL w1 g6 0 [.slice none 0 0,.int .i64 0,.int .i64 0,.slice none 0 0,.int .i64 0,.int .i64 0,.int .i64 0,.int .i64 0,.slice none 0 0,.int .i64 0,.slice none 0 0,.int .i64 0,.slice none 0 0]) (g6) 89 #[.slice none 0 0,.int .i64 0,.int .i64 0,.slice none 0 0,.int .i64 0,.int .i64 0,.int .i64 0,.int .i64 0,.slice none 0 0,.int .i64 0,.slice none 0 0,.int .i64 0,.slice none 0 0]:=setL_blk [.slice none 0 0,.int .i64 0,.int .i64 0,.slice none 0 0,.int .i64 0,.int .i64 0,.int .i64 0,.int .i64 0,.slice none 0 0,.int .i64 0,.slice none 0 0,.int .i64 0,.slice none 0 0] [.slice none 0 0,.int .i64 0,.int .i64 0,.slice none 0 0,.int .i64 0,.int .i64 0,.int .i64 0,.int .i64 0,.slice none 0 0,.int .i64 0,.slice none 0 0,.int .i64 0,.slice none 0 0] [] w1 rfl hb6
      have hxe:Below w.heap.size w (setL w1 g6 0 [.slice none 0 0,.int .i64 0,.int .i64 0,.slice none 0 0,.int .i64 0,.int .i64 0,.int .i64 0,.int .i64 0,.slice none 0 0,.int .i64 0,.slice none 0 0,.int .i64 0,.slice none 0 0]):=setL_below hg6w _ _ _ hx1
      have hrd:=zeroS_rd (setL w1 g6 0 [.slice none 0 0,.int .i64 0,.int .i64 0,.slice none 0 0,.int .i64 0,.int .i64 0,.int .i64 0,.int .i64 0,.slice none 0 0,.int .i64 0,.slice none 0 0,.int .i64 0,.slice none 0 0]) (fun _=>True)
      generalize setL w1 g6 0 [.slice none 0 0,.int .i64 0,.int .i64 0,.slice none 0 0,.int .i64 0,.int .i64 0,.int .i64 0,.int .i64 0,.slice none 0 0,.int .i64 0,.slice none 0 0,.int .i64 0,.slice none 0 0]=W at *
      have s0:W.cell? ⟨g6,0,none⟩=some (.slice none 0 0):=hbe.cell 0
      have s1:W.cell? ⟨g6,1,none⟩=some (.int .i64 0):=hbe.cell 1
      have s2:W.cell? ⟨g6,2,none⟩=some (.int .i64 0):=hbe.cell 2
      have s3:W.cell? ⟨g6,3,none⟩=some (.slice none 0 0):=hbe.cell 3
      have s4:W.cell? ⟨g6,4,none⟩=some (.int .i64 0):=hbe.cell 4
      have s5:W.cell? ⟨g6,5,none⟩=some (.int .i64 0):=hbe.cell 5
      have s6:W.cell? ⟨g6,6,none⟩=some (.int .i64 0):=hbe.cell 6
      have s7:W.cell? ⟨g6,7,none⟩=some (.int .i64 0):=hbe.cell 7
      have s8:W.cell? ⟨g6,8,none⟩=some (.slice none 0 0):=hbe.cell 8
      have s9:W.cell? ⟨g6,9,none⟩=some (.int .i64 0):=hbe.cell 9
      have s10:W.cell? ⟨g6,10,none⟩=some (.slice none 0 0):=hbe.cell 10
      have s11:W.cell? ⟨g6,11,none⟩=some (.int .i64 0):=hbe.cell 11
      have s12:W.cell? ⟨g6,12,none⟩=some (.slice none 0 0):=hbe.cell 12
      exact bodyPost_ret (v:=.tuple #[.agg #[.slice none 0 0,.int .i64 0,.int .i64 0,.slice none 0 0,.int .i64 0,.int .i64 0,.int .i64 0,.int .i64 0,.slice none 0 0,.int .i64 0,.slice none 0 0,.int .i64 0,.slice none 0 0],.int .i64 8]) (by simp [results,Try.results70,go_sem,s0,s1,s2,s3,s4,s5,s6,s7,s8,s9,s10,s11,s12]) rfl (by rw [HS.out];exact ⟨[.slice none 0 0,.int .i64 0,.int .i64 0,.slice none 0 0,.int .i64 0,.int .i64 0,.int .i64 0,.int .i64 0,.slice none 0 0,.int .i64 0,.slice none 0 0,.int .i64 0,.slice none 0 0],rfl,hrd,hxe⟩)
    | some ri =>
      rw [hrow] at HX0
      simp only at HX0
      subst HX0
      obtain ⟨hri,hrsh⟩:=Fl.row_some hrow
      have h2:2<=f.sh[k].st:=by
       obtain ⟨⟨j,t,e1,e2,e3,_⟩,_⟩:=hI.book _ (List.getElem_mem hri)
       have:j=k:=by omega
       subst this
       rw [hks] at e2
       injection e2 with e2
       rw [e2]
       exact e3
      obtain ⟨r',hr',h3,h4,h5,h6,h7,h8,h9⟩:=hI.frozen hks h2
      rw [hrow] at h3
      injection h3 with h3
      subst h3
      have hfB:=hI.fineB
      have hr32:=(hI.book _ (List.getElem_mem hri)).root
      have hshow:Fl.showC f (k:Int) i=if i<0\/((Fl.entsC f.sh[k]).2.length:Int)<=i then (6,Fl.zeroS) else (0,Fl.shown f.book k i.toNat ri (Fl.entsC f.sh[k]).2):=by
       unfold Fl.showC
       rw [if_neg (by omega),Int.toNat_natCast,hks]
       simp only [hrow]
       rw [if_neg (by rw [h5];simp)]
      have HSH:=Lib.hid (HR.out.trans hshow)
      obtain ⟨gS,oS,cS,u1,u2,u3,hA1,_,hbS,hcS,hu1,hu2,hu3⟩:=shd_at hs1 hkl
      injection hA1 with hA1 _ hA3
      subst hA1 hA3
      have p2:w1.cell? ⟨gS,oS+k*7+2,none⟩=some (.int .i64 f.sh[k].st):=hcS 2 _ rfl
      have p3:w1.cell? ⟨gS,oS+k*7+3,none⟩=some u1:=hcS 3 _ rfl
      have p4:w1.cell? ⟨gS,oS+k*7+4,none⟩=some (.int .i64 f.sh[k].man.size):=hcS 4 _ rfl
      have p5:w1.cell? ⟨gS,oS+k*7+5,none⟩=some u2:=hcS 5 _ rfl
      have p6:w1.cell? ⟨gS,oS+k*7+6,none⟩=some u3:=hcS 6 _ rfl
      obtain ⟨A1,c1,hu1e,_,_,_⟩:=hu1.shape
      obtain ⟨A2,c2,hu2e⟩:=hu2.form
      obtain ⟨A3,c3,hu3e,_,_⟩:=hu3.form
      subst hu1e hu2e hu3e
      have hkB:(k:Int)<(f.sh.length:Int):=by omega
      have hk0:(0:Int)<=(k:Int):=by omega
      have hri0:decide ((ri:Int)<0)=false:=decide_eq_false (by omega)
      clear hshow hrow hrsh h4 h7 h8 h2 hcS hks
      rcases Decidable.em (f.sh[k].st=4) with h4 | h4
      focus
       have hstB:(f.sh[k].st==4)=true:=by rw [beq_iff_eq];exact h4
       have hen:Fl.entsC f.sh[k]=((Shf.verC f.sh[k].man).1.1,(Shf.verC f.sh[k].man).2):=by unfold Fl.entsC;rw [if_pos h4]
       rw [hen] at h5 h6 HSH
       simp only at h5 h6 HSH
       have HVE:=Lib.hid (rverF w1 _ _ _ _ f.sh[k].man _ rfl hu2 hu3 h5)
       clear h4 hen h5
       generalize (Shf.verC f.sh[k].man).2=L at *
       go_wp2_with fail
       with_reducible refine HVE.out.mono ?_
       rintro e w2 ⟨AL,cL,vx,rfl,hL2,hx2⟩
       clear HVE
       go_upto_region 14 with (fail)
       have hxA:=hx2.alloc hx2.size (.cells #[.int .i64 0,.int .i64 (vx:Int)] 32)
       have hbA:Blk (w2.alloc (.cells #[.int .i64 0,.int .i64 (vx:Int)] 32)) w2.heap.size 32 #[.int .i64 0,.int .i64 (vx:Int)]:=heap_alloc_new w2 _
       have hL3:=hL2.alloc (.cells #[.int .i64 0,.int .i64 (vx:Int)] 32)
       generalize w2.alloc (.cells #[.int .i64 0,.int .i64 (vx:Int)] 32)=w3 at *
       have l0:w3.cell? ⟨w2.heap.size,0,none⟩=some (.int .i64 0):=hbA.cell 0
       have hLw:BList w3 (fun b=>b<w.heap.size\/g6<b) (.slice AL L.length cL) L:=hL3.weak fun b _ hb=>.inr (by have:=hb6.lt;omega)
       have hx13:Below w1.heap.size w1 w3:=hxA
       go_upto_region 17 with (fail)
       clear l0 hbA hL2 hL3 hx2 hxA p2 p3 p4 p5 p6 g0 g1 hstB
      rotate_left
      focus
       have hstB:(f.sh[k].st==4)=false:=by rw [beq_eq_false_iff_ne];exact h4
       have hen:Fl.entsC f.sh[k]=(0,f.sh[k].ents):=by unfold Fl.entsC;rw [if_neg h4]
       rw [hen] at h5 h6 HSH
       simp only at h5 h6 HSH
       clear h4 hen h5
       generalize hL:f.sh[k].ents=L at *
       clear hL
       have hLw:BList w1 (fun b=>b<w.heap.size\/g6<b) (.slice A1 L.length c1) L:=hu1.weak fun b _ hb=>.inl hb
       have hx13:Below w1.heap.size w1 w1:=Below.refl _ _
       go_upto_region 17 with (fail)
       clear p2 p3 p4 p5 p6 g0 g1 hstB
       obtain ⟨w3,hw3⟩:∃ z,z=w1:=⟨_,rfl⟩
       rw [<-hw3]
       replace hLw:BList w3 (fun b=>b<w.heap.size\/g6<b) (.slice A1 L.length c1) L:=by rw [hw3];exact hLw
       replace hx13:Below w1.heap.size w1 w3:=by rw [hw3];exact hx13
       clear hw3
      all_goals
       skip
       have HLM:L.length<=100:=h6.1
       have hwr0:fv (wrongS L) = .agg #[.int .i64 0,.int .i64 0]:=by have h:=(wrongS_ok L).2 h6;unfold fv;rw [wrongS_zero L h];rfl
       have HWR:=rwrong_any w3 _ _ L hLw
       rw [hwr0] at HWR
       have HW:=Lib.hid HWR
       clear HWR hwr0
       have hx03:=hx1.trans (hx13.mono hx1.size)
       go_wp2_with fail
       with_reducible refine HW.out.mono ?_
       rintro e w4 ⟨rfl,hx4⟩
       clear HW
       go_upto_region 18 with (fail)
       have hx5:=hx4.alloc hx4.size (.cells #[.int .i64 0,.int .i64 0] 32)
       have hbE:Blk (w4.alloc (.cells #[.int .i64 0,.int .i64 0] 32)) w4.heap.size 32 #[.int .i64 0,.int .i64 0]:=heap_alloc_new w4 _
       generalize w4.alloc (.cells #[.int .i64 0,.int .i64 0] 32)=w5 at *
       have l0:w5.cell? ⟨w4.heap.size,0,none⟩=some (.int .i64 0):=hbE.cell 0
       have hx05:=hx03.trans (hx5.mono hx03.size)
       have hx15:=hx13.trans (hx5.mono hx13.size)
       have hb65:=hb6.below hx15 hb6.lt
       have hL5:=hLw.below hx5
       have y0:w5.cell? ⟨g6,0,none⟩=some (.slice none 0 0):=hb65.cell 0
       have yf0:=hb65.frozen 0
       have y1:w5.cell? ⟨g6,1,none⟩=some (.int .i64 0):=hb65.cell 1
       have yf1:=hb65.frozen 1
       have y2:w5.cell? ⟨g6,2,none⟩=some (.int .i64 0):=hb65.cell 2
       have yf2:=hb65.frozen 2
       have y3:w5.cell? ⟨g6,3,none⟩=some (.slice none 0 0):=hb65.cell 3
       have yf3:=hb65.frozen 3
       have y4:w5.cell? ⟨g6,4,none⟩=some (.int .i64 0):=hb65.cell 4
       have yf4:=hb65.frozen 4
       have y5:w5.cell? ⟨g6,5,none⟩=some (.int .i64 0):=hb65.cell 5
       have yf5:=hb65.frozen 5
       have y6:w5.cell? ⟨g6,6,none⟩=some (.int .i64 0):=hb65.cell 6
       have yf6:=hb65.frozen 6
       have y7:w5.cell? ⟨g6,7,none⟩=some (.int .i64 0):=hb65.cell 7
       have yf7:=hb65.frozen 7
       have y8:w5.cell? ⟨g6,8,none⟩=some (.slice none 0 0):=hb65.cell 8
       have yf8:=hb65.frozen 8
       have y9:w5.cell? ⟨g6,9,none⟩=some (.int .i64 0):=hb65.cell 9
       have yf9:=hb65.frozen 9
       have y10:w5.cell? ⟨g6,10,none⟩=some (.slice none 0 0):=hb65.cell 10
       have yf10:=hb65.frozen 10
       have y11:w5.cell? ⟨g6,11,none⟩=some (.int .i64 0):=hb65.cell 11
       have yf11:=hb65.frozen 11
       have y12:w5.cell? ⟨g6,12,none⟩=some (.slice none 0 0):=hb65.cell 12
       have yf12:=hb65.frozen 12
       by_cases hin:0<=i/\i<(L.length:Int)
       rotate_left
       focus
        have HS:Hid (R=(6,Fl.zeroS)):=Lib.hid (by rw [HSH.out,if_pos (by omega)])
        by_cases hi0:i<0
        · have hi0B:decide (i<0)=true:=decide_eq_true hi0
          clear hin hi0
          go_wp2_with fail
          have hW:setL w5 g6 0 [.slice none 0 0,.int .i64 0,.int .i64 0,.slice none 0 0,.int .i64 0,.int .i64 0,.int .i64 0,.int .i64 0,.slice none 0 0,.int .i64 0,.slice none 0 0,.int .i64 0,.slice none 0 0]=(((((((((((((w5.setCell ⟨g6,0,none⟩ (.slice none 0 0)).setCell ⟨g6,1,none⟩ (.int .i64 0)).setCell ⟨g6,2,none⟩ (.int .i64 0)).setCell ⟨g6,3,none⟩ (.slice none 0 0)).setCell ⟨g6,4,none⟩ (.int .i64 0)).setCell ⟨g6,5,none⟩ (.int .i64 0)).setCell ⟨g6,6,none⟩ (.int .i64 0)).setCell ⟨g6,7,none⟩ (.int .i64 0)).setCell ⟨g6,8,none⟩ (.slice none 0 0)).setCell ⟨g6,9,none⟩ (.int .i64 0)).setCell ⟨g6,10,none⟩ (.slice none 0 0)).setCell ⟨g6,11,none⟩ (.int .i64 0)).setCell ⟨g6,12,none⟩ (.slice none 0 0)):=rfl
          rw [<-hW]
          clear hW
          have hbe:Blk (setL w5 g6 0 [.slice none 0 0,.int .i64 0,.int .i64 0,.slice none 0 0,.int .i64 0,.int .i64 0,.int .i64 0,.int .i64 0,.slice none 0 0,.int .i64 0,.slice none 0 0,.int .i64 0,.slice none 0 0]) (g6) 89 #[.slice none 0 0,.int .i64 0,.int .i64 0,.slice none 0 0,.int .i64 0,.int .i64 0,.int .i64 0,.int .i64 0,.slice none 0 0,.int .i64 0,.slice none 0 0,.int .i64 0,.slice none 0 0]:=setL_blk [.slice none 0 0,.int .i64 0,.int .i64 0,.slice none 0 0,.int .i64 0,.int .i64 0,.int .i64 0,.int .i64 0,.slice none 0 0,.int .i64 0,.slice none 0 0,.int .i64 0,.slice none 0 0] [.slice none 0 0,.int .i64 0,.int .i64 0,.slice none 0 0,.int .i64 0,.int .i64 0,.int .i64 0,.int .i64 0,.slice none 0 0,.int .i64 0,.slice none 0 0,.int .i64 0,.slice none 0 0] [] w5 rfl hb65
          have hxe:Below w.heap.size w (setL w5 g6 0 [.slice none 0 0,.int .i64 0,.int .i64 0,.slice none 0 0,.int .i64 0,.int .i64 0,.int .i64 0,.int .i64 0,.slice none 0 0,.int .i64 0,.slice none 0 0,.int .i64 0,.slice none 0 0]):=setL_below hg6w _ _ _ hx05
          have hrd:=zeroS_rd (setL w5 g6 0 [.slice none 0 0,.int .i64 0,.int .i64 0,.slice none 0 0,.int .i64 0,.int .i64 0,.int .i64 0,.int .i64 0,.slice none 0 0,.int .i64 0,.slice none 0 0,.int .i64 0,.slice none 0 0]) (fun _=>True)
          generalize setL w5 g6 0 [.slice none 0 0,.int .i64 0,.int .i64 0,.slice none 0 0,.int .i64 0,.int .i64 0,.int .i64 0,.int .i64 0,.slice none 0 0,.int .i64 0,.slice none 0 0,.int .i64 0,.slice none 0 0]=W at *
          have s0:W.cell? ⟨g6,0,none⟩=some (.slice none 0 0):=hbe.cell 0
          have s1:W.cell? ⟨g6,1,none⟩=some (.int .i64 0):=hbe.cell 1
          have s2:W.cell? ⟨g6,2,none⟩=some (.int .i64 0):=hbe.cell 2
          have s3:W.cell? ⟨g6,3,none⟩=some (.slice none 0 0):=hbe.cell 3
          have s4:W.cell? ⟨g6,4,none⟩=some (.int .i64 0):=hbe.cell 4
          have s5:W.cell? ⟨g6,5,none⟩=some (.int .i64 0):=hbe.cell 5
          have s6:W.cell? ⟨g6,6,none⟩=some (.int .i64 0):=hbe.cell 6
          have s7:W.cell? ⟨g6,7,none⟩=some (.int .i64 0):=hbe.cell 7
          have s8:W.cell? ⟨g6,8,none⟩=some (.slice none 0 0):=hbe.cell 8
          have s9:W.cell? ⟨g6,9,none⟩=some (.int .i64 0):=hbe.cell 9
          have s10:W.cell? ⟨g6,10,none⟩=some (.slice none 0 0):=hbe.cell 10
          have s11:W.cell? ⟨g6,11,none⟩=some (.int .i64 0):=hbe.cell 11
          have s12:W.cell? ⟨g6,12,none⟩=some (.slice none 0 0):=hbe.cell 12
          exact bodyPost_ret (v:=.tuple #[.agg #[.slice none 0 0,.int .i64 0,.int .i64 0,.slice none 0 0,.int .i64 0,.int .i64 0,.int .i64 0,.int .i64 0,.slice none 0 0,.int .i64 0,.slice none 0 0,.int .i64 0,.slice none 0 0],.int .i64 6]) (by simp [results,Try.results70,go_sem,s0,s1,s2,s3,s4,s5,s6,s7,s8,s9,s10,s11,s12]) rfl (by rw [HS.out];exact ⟨[.slice none 0 0,.int .i64 0,.int .i64 0,.slice none 0 0,.int .i64 0,.int .i64 0,.int .i64 0,.int .i64 0,.slice none 0 0,.int .i64 0,.slice none 0 0,.int .i64 0,.slice none 0 0],rfl,hrd,hxe⟩)
        · have hi0B:decide (i<0)=false:=decide_eq_false hi0
          have hilB:decide ((L.length:Int)<=i)=true:=decide_eq_true (by omega)
          clear hin hi0
          go_wp2_with fail
          have hW:setL w5 g6 0 [.slice none 0 0,.int .i64 0,.int .i64 0,.slice none 0 0,.int .i64 0,.int .i64 0,.int .i64 0,.int .i64 0,.slice none 0 0,.int .i64 0,.slice none 0 0,.int .i64 0,.slice none 0 0]=(((((((((((((w5.setCell ⟨g6,0,none⟩ (.slice none 0 0)).setCell ⟨g6,1,none⟩ (.int .i64 0)).setCell ⟨g6,2,none⟩ (.int .i64 0)).setCell ⟨g6,3,none⟩ (.slice none 0 0)).setCell ⟨g6,4,none⟩ (.int .i64 0)).setCell ⟨g6,5,none⟩ (.int .i64 0)).setCell ⟨g6,6,none⟩ (.int .i64 0)).setCell ⟨g6,7,none⟩ (.int .i64 0)).setCell ⟨g6,8,none⟩ (.slice none 0 0)).setCell ⟨g6,9,none⟩ (.int .i64 0)).setCell ⟨g6,10,none⟩ (.slice none 0 0)).setCell ⟨g6,11,none⟩ (.int .i64 0)).setCell ⟨g6,12,none⟩ (.slice none 0 0)):=rfl
          rw [<-hW]
          clear hW
          have hbe:Blk (setL w5 g6 0 [.slice none 0 0,.int .i64 0,.int .i64 0,.slice none 0 0,.int .i64 0,.int .i64 0,.int .i64 0,.int .i64 0,.slice none 0 0,.int .i64 0,.slice none 0 0,.int .i64 0,.slice none 0 0]) (g6) 89 #[.slice none 0 0,.int .i64 0,.int .i64 0,.slice none 0 0,.int .i64 0,.int .i64 0,.int .i64 0,.int .i64 0,.slice none 0 0,.int .i64 0,.slice none 0 0,.int .i64 0,.slice none 0 0]:=setL_blk [.slice none 0 0,.int .i64 0,.int .i64 0,.slice none 0 0,.int .i64 0,.int .i64 0,.int .i64 0,.int .i64 0,.slice none 0 0,.int .i64 0,.slice none 0 0,.int .i64 0,.slice none 0 0] [.slice none 0 0,.int .i64 0,.int .i64 0,.slice none 0 0,.int .i64 0,.int .i64 0,.int .i64 0,.int .i64 0,.slice none 0 0,.int .i64 0,.slice none 0 0,.int .i64 0,.slice none 0 0] [] w5 rfl hb65
          have hxe:Below w.heap.size w (setL w5 g6 0 [.slice none 0 0,.int .i64 0,.int .i64 0,.slice none 0 0,.int .i64 0,.int .i64 0,.int .i64 0,.int .i64 0,.slice none 0 0,.int .i64 0,.slice none 0 0,.int .i64 0,.slice none 0 0]):=setL_below hg6w _ _ _ hx05
          have hrd:=zeroS_rd (setL w5 g6 0 [.slice none 0 0,.int .i64 0,.int .i64 0,.slice none 0 0,.int .i64 0,.int .i64 0,.int .i64 0,.int .i64 0,.slice none 0 0,.int .i64 0,.slice none 0 0,.int .i64 0,.slice none 0 0]) (fun _=>True)
          generalize setL w5 g6 0 [.slice none 0 0,.int .i64 0,.int .i64 0,.slice none 0 0,.int .i64 0,.int .i64 0,.int .i64 0,.int .i64 0,.slice none 0 0,.int .i64 0,.slice none 0 0,.int .i64 0,.slice none 0 0]=W at *
          have s0:W.cell? ⟨g6,0,none⟩=some (.slice none 0 0):=hbe.cell 0
          have s1:W.cell? ⟨g6,1,none⟩=some (.int .i64 0):=hbe.cell 1
          have s2:W.cell? ⟨g6,2,none⟩=some (.int .i64 0):=hbe.cell 2
          have s3:W.cell? ⟨g6,3,none⟩=some (.slice none 0 0):=hbe.cell 3
          have s4:W.cell? ⟨g6,4,none⟩=some (.int .i64 0):=hbe.cell 4
          have s5:W.cell? ⟨g6,5,none⟩=some (.int .i64 0):=hbe.cell 5
          have s6:W.cell? ⟨g6,6,none⟩=some (.int .i64 0):=hbe.cell 6
          have s7:W.cell? ⟨g6,7,none⟩=some (.int .i64 0):=hbe.cell 7
          have s8:W.cell? ⟨g6,8,none⟩=some (.slice none 0 0):=hbe.cell 8
          have s9:W.cell? ⟨g6,9,none⟩=some (.int .i64 0):=hbe.cell 9
          have s10:W.cell? ⟨g6,10,none⟩=some (.slice none 0 0):=hbe.cell 10
          have s11:W.cell? ⟨g6,11,none⟩=some (.int .i64 0):=hbe.cell 11
          have s12:W.cell? ⟨g6,12,none⟩=some (.slice none 0 0):=hbe.cell 12
          exact bodyPost_ret (v:=.tuple #[.agg #[.slice none 0 0,.int .i64 0,.int .i64 0,.slice none 0 0,.int .i64 0,.int .i64 0,.int .i64 0,.int .i64 0,.slice none 0 0,.int .i64 0,.slice none 0 0,.int .i64 0,.slice none 0 0],.int .i64 6]) (by simp [results,Try.results70,go_sem,s0,s1,s2,s3,s4,s5,s6,s7,s8,s9,s10,s11,s12]) rfl (by rw [HS.out];exact ⟨[.slice none 0 0,.int .i64 0,.int .i64 0,.slice none 0 0,.int .i64 0,.int .i64 0,.int .i64 0,.int .i64 0,.slice none 0 0,.int .i64 0,.slice none 0 0,.int .i64 0,.slice none 0 0],rfl,hrd,hxe⟩)
       obtain ⟨j,hj⟩:∃ j:Nat,i=(j:Int):=⟨i.toNat,by omega⟩
       subst hj
       have hjL:j<L.length:=by omega
       have hj0B:decide ((j:Int)<0)=false:=decide_eq_false (by omega)
       have hjlB:decide ((L.length:Int)<=(j:Int))=false:=decide_eq_false (by omega)
       obtain ⟨r,hr⟩:∃ r,f.book[ri]? = some r:=⟨_,List.getElem?_eq_getElem hri⟩
       have hrr:f.book[ri]=r:=by rw [List.getElem?_eq_getElem hri] at hr;injection hr
       obtain ⟨e0,he0⟩:∃ e,L[j]? = some e:=⟨_,List.getElem?_eq_getElem hjL⟩
       have hLe:L[j]=e0:=by rw [List.getElem?_eq_getElem hjL] at he0;injection he0
       have HS:Hid (R=(0,⟨e0,(j:Int),(k:Int),Tr.path (L.map Tr.leafH) j,r,(ri:Int),Tr.path ((Bk.rows f.book).map Tr.leafH) ri,(f.book.length:Int),Fl.bookRoot f.book⟩)):=Lib.hid (by
        rw [HSH.out,if_neg (by omega)]
        unfold Fl.shown
        rw [Int.toNat_natCast,List.getD_eq_getElem?_getD,List.getD_eq_getElem?_getD,hr,he0]
        rfl)
       have hbk5:=hbk1.below hx15
       have hb35:=hb3.below hx15 hb3.lt
       have g15:w5.cell? ⟨w.heap.size,1,none⟩=some (.slice Ab f.book.length cb):=hb35.cell 1
       clear hin he0 hr y0 yf0 y1 yf1 y2 yf2 y3 yf3 y4 yf4 y5 yf5 y6 yf6 y7 yf7 y8 yf8 y9 yf9 y10 yf10 y11 yf11 y12 yf12
       go_wp2_with fail
       with_reducible refine (rrowsF w5 _ _ f.book hbk5 hfB).mono ?_
       rintro e w6 ⟨vR,rfl,hoR,hx6⟩
       obtain ⟨AQ,cQ,hvR,_,_,_⟩:=hoR.blist.shape
       have hql:(Bk.rows f.book).length=f.book.length:=by unfold Bk.rows;simp
       rw [hql] at hvR
       subst hvR
       clear l0 g15
       go_upto_region 23 with (fail)
       have hx7:=hx6.alloc hx6.size (.cells #[.int .i64 0,.int .i64 0] 32)
       have hbG:Blk (w6.alloc (.cells #[.int .i64 0,.int .i64 0] 32)) w6.heap.size 32 #[.int .i64 0,.int .i64 0]:=heap_alloc_new w6 _
       have hoR7:=hoR.blist.alloc (.cells #[.int .i64 0,.int .i64 0] 32)
       generalize w6.alloc (.cells #[.int .i64 0,.int .i64 0] 32)=w7 at *
       have l0:w7.cell? ⟨w6.heap.size,0,none⟩=some (.int .i64 0):=hbG.cell 0
       have hx17:=hx15.trans (hx7.mono hx15.size)
       have hx07:=hx05.trans (hx7.mono hx05.size)
       have hL7:=hL5.below hx7
       have hbk7:=hbk1.below hx17
       have hb37:=hb3.below hx17 hb3.lt
       have hb67:=hb6.below hx17 hb6.lt
       replace hoR7:BList w7 (fun b=>g6<b) (.slice AQ f.book.length cQ) (Bk.rows f.book):=hoR7.weak fun b _ hb=>by have h1:=hb.1;have:=hb65.lt;omega
       go_upto_region 25 with (fail)
       clear l0 hbG hbE hoR hx6 hx4 hx5
       obtain ⟨gL,oL,uE,hAL,pE,hgLF,hgL,huE⟩:=BList.at_ hL7 hjL
       subst hAL
       rw [hLe] at huE
       obtain ⟨AE,cE,huEe⟩:=huE.form
       subst huEe
       obtain ⟨gB,oB,cB',AR,cR,hA1,hgBF,hgB,q0,q1,q2,q3,q4,hq⟩:=rec_at hbk7 hri
       rw [hrr] at q0 q1 q2 q3 q4 hq
       injection hA1 with hA1 _ hA3
       subst hA1 hA3
       have hgBl:=hb37.lt
       have hgBF':gB<w.heap.size:=hgBF
       have hgLn:gL≠g6:=by have h:gL<w.heap.size\/g6<gL:=hgLF;omega
       have hg6l:=hb67.lt
       have hj0:(0:Int)<=(j:Int):=by omega
       have hjB:(j:Int)<(L.length:Int):=by omega
       have hri00:(0:Int)<=(ri:Int):=by omega
       have hriB:(ri:Int)<(f.book.length:Int):=by omega
       have hrows:Short (Bk.rows f.book):=Fine.short (Bk.rows_short hfB)
       have hSS:∀ z:World,(∀ b,b<w7.heap.size->b≠g6->z.heap[b]? = w7.heap[b]?)->(z.cell? ⟨gL,oL+j,none⟩=some (.slice AE e0.length cE)/\z.cell? ⟨w.heap.size,1,none⟩=some (.slice (some ⟨gB,oB,none⟩) f.book.length cb)/\z.cell? ⟨gB,oB+ri*5,none⟩=some (.int .i64 r.sh)/\z.cell? ⟨gB,oB+ri*5+1,none⟩=some (.int .i64 r.fr)/\z.cell? ⟨gB,oB+ri*5+2,none⟩=some (.int .i64 r.to)/\z.cell? ⟨gB,oB+ri*5+3,none⟩=some (.int .i64 r.sz)/\z.cell? ⟨gB,oB+ri*5+4,none⟩=some (.slice AR r.root.length cR)):=fun z hz=>⟨(World.cell?_of_block (hz gL hgL hgLn)).trans pE,(World.cell?_of_block (hz w.heap.size hgBl (by omega))).trans (hb37.cell 1),(World.cell?_of_block (hz gB hgB (by omega))).trans q0,(World.cell?_of_block (hz gB hgB (by omega))).trans q1,(World.cell?_of_block (hz gB hgB (by omega))).trans q2,(World.cell?_of_block (hz gB hgB (by omega))).trans q3,(World.cell?_of_block (hz gB hgB (by omega))).trans q4⟩
       have hxd:Below w7.heap.size w7 w7.drew:=(Below.refl _ _).drew
       refine wp_region_held_drew (S:=(fun z:World=>z.cell? ⟨gL,oL+j,none⟩=some (.slice AE e0.length cE)/\z.cell? ⟨w.heap.size,1,none⟩=some (.slice (some ⟨gB,oB,none⟩) f.book.length cb)/\z.cell? ⟨gB,oB+ri*5,none⟩=some (.int .i64 r.sh)/\z.cell? ⟨gB,oB+ri*5+1,none⟩=some (.int .i64 r.fr)/\z.cell? ⟨gB,oB+ri*5+2,none⟩=some (.int .i64 r.to)/\z.cell? ⟨gB,oB+ri*5+3,none⟩=some (.int .i64 r.sz)/\z.cell? ⟨gB,oB+ri*5+4,none⟩=some (.slice AR r.root.length cR))) (by kernel_rfl) ?_ (fun hHeld=>?_)
       · exact hSS _ (fun _ _ _=>rfl)
       refine step_take (i:=0) (v:=?_) rfl (by kernel_rfl) (by kernel_rfl) (by kernel_rfl) (fun _ _ _ h=>h) (by rfl) ?yv1 (by assumption) ?_
       case yv1=>(intro w hSw;(try dsimp only at hSw);go_simp;(try with_reducible rfl))
       try simp only [Act.put,List.setIfInBounds_toArray,List.set_cons_zero,List.set_cons_succ]
       refine step_take (i:=1) (v:=?_) rfl (by kernel_rfl) (by kernel_rfl) (by kernel_rfl) (fun _ _ _ h=>h) (by rfl) ?yv2 (by assumption) ?_
       case yv2=>(intro w hSw;(try dsimp only at hSw);go_simp;(try with_reducible rfl))
       try simp only [Act.put,List.setIfInBounds_toArray,List.set_cons_zero,List.set_cons_succ]
       refine step_take (i:=2) (v:=?_) rfl (by kernel_rfl) (by kernel_rfl) (by kernel_rfl) (fun _ _ _ h=>h) (by rfl) ?yv3 (by assumption) ?_
       case yv3=>(intro w hSw;(try dsimp only at hSw);go_simp;(try with_reducible rfl))
       try simp only [Act.put,List.setIfInBounds_toArray,List.set_cons_zero,List.set_cons_succ]
       refine step_take (i:=3) (v:=?_) rfl (by kernel_rfl) (by kernel_rfl) (by kernel_rfl) (fun _ _ _ h=>h) (by rfl) ?yv4 (by assumption) ?_
       case yv4=>(intro w hSw;(try dsimp only at hSw);go_simp;(try with_reducible rfl))
       try simp only [Act.put,List.setIfInBounds_toArray,List.set_cons_zero,List.set_cons_succ]
       refine step_take (i:=4) (v:=?_) rfl (by kernel_rfl) (by kernel_rfl) (by kernel_rfl) (fun _ _ _ h=>h) (by rfl) ?yv5 (by assumption) ?_
       case yv5=>(intro w hSw;(try dsimp only at hSw);go_simp;(try with_reducible rfl))
       try simp only [Act.put,List.setIfInBounds_toArray,List.set_cons_zero,List.set_cons_succ]
       refine step_take (i:=5) (v:=?_) rfl (by kernel_rfl) (by kernel_rfl) (by kernel_rfl) (fun _ _ _ h=>h) (by rfl) ?yv6 (by assumption) ?_
       case yv6=>(intro w hSw;(try dsimp only at hSw);go_simp;(try with_reducible rfl))
       try simp only [Act.put,List.setIfInBounds_toArray,List.set_cons_zero,List.set_cons_succ]
       refine step_take (i:=6) (v:=?_) rfl (by kernel_rfl) (by kernel_rfl) (by kernel_rfl) (fun _ _ _ h=>h) (by rfl) ?yv7 (by assumption) ?_
       case yv7=>(intro w hSw;(try dsimp only at hSw);go_simp;(try with_reducible rfl))
       try simp only [Act.put,List.setIfInBounds_toArray,List.set_cons_zero,List.set_cons_succ]
       refine step_take (i:=7) (v:=?_) rfl (by kernel_rfl) (by kernel_rfl) (by kernel_rfl) (fun _ _ _ h=>h) (by rfl) ?yv8 (by assumption) ?_
       case yv8=>(intro w hSw;(try dsimp only at hSw);go_simp;(try with_reducible rfl))
       try simp only [Act.put,List.setIfInBounds_toArray,List.set_cons_zero,List.set_cons_succ]
       refine step_take (i:=9) (v:=?_) rfl (by kernel_rfl) (by kernel_rfl) (by kernel_rfl) (fun _ _ _ h=>h) (by rfl) ?yv9 (by assumption) ?_
       case yv9=>(intro w hSw;(try dsimp only at hSw);go_simp;(try with_reducible rfl))
       try simp only [Act.put,List.setIfInBounds_toArray,List.set_cons_zero,List.set_cons_succ]
       refine step_take (i:=10) (v:=?_) rfl (by kernel_rfl) (by kernel_rfl) (by kernel_rfl) (fun _ _ _ h=>h) (by rfl) ?yv10 (by assumption) ?_
       case yv10=>(intro w hSw;(try dsimp only at hSw);go_simp;(try with_reducible rfl))
       try simp only [Act.put,List.setIfInBounds_toArray,List.set_cons_zero,List.set_cons_succ]
       refine step_take (i:=11) (v:=?_) rfl (by kernel_rfl) (by kernel_rfl) (by kernel_rfl) (fun _ _ _ h=>h) (by rfl) ?yv11 (by assumption) ?_
       case yv11=>(intro w hSw;(try dsimp only at hSw);go_simp;(try with_reducible rfl))
       try simp only [Act.put,List.setIfInBounds_toArray,List.set_cons_zero,List.set_cons_succ]
       refine step_take (i:=12) (v:=?_) rfl (by kernel_rfl) (by kernel_rfl) (by kernel_rfl) (fun _ _ _ h=>h) (by rfl) ?yv12 (by assumption) ?_
       case yv12=>(intro w hSw;(try dsimp only at hSw);go_simp;(try with_reducible rfl))
       try simp only [Act.put,List.setIfInBounds_toArray,List.set_cons_zero,List.set_cons_succ]
       refine step_take (i:=13) (v:=?_) rfl (by kernel_rfl) (by kernel_rfl) (by kernel_rfl) (fun _ _ _ h=>h) (by rfl) ?yv13 (by assumption) ?_
       case yv13=>(intro w hSw;(try dsimp only at hSw);go_simp;(try with_reducible rfl))
       try simp only [Act.put,List.setIfInBounds_toArray,List.set_cons_zero,List.set_cons_succ]
       refine step_take (i:=14) (v:=?_) rfl (by kernel_rfl) (by kernel_rfl) (by kernel_rfl) (fun _ _ _ h=>h) (by rfl) ?yv14 (by assumption) ?_
       case yv14=>(intro w hSw;(try dsimp only at hSw);go_simp;(try with_reducible rfl))
       try simp only [Act.put,List.setIfInBounds_toArray,List.set_cons_zero,List.set_cons_succ]
       refine step_take (i:=15) (v:=?_) rfl (by kernel_rfl) (by kernel_rfl) (by kernel_rfl) (fun _ _ _ h=>h) (by rfl) ?yv15 (by assumption) ?_
       case yv15=>(intro w hSw;(try dsimp only at hSw);go_simp;(try with_reducible rfl))
       try simp only [Act.put,List.setIfInBounds_toArray,List.set_cons_zero,List.set_cons_succ]
       refine step_take (i:=16) (v:=?_) rfl (by kernel_rfl) (by kernel_rfl) (by kernel_rfl) (fun _ _ _ h=>h) (by rfl) ?yv16 (by assumption) ?_
       case yv16=>(intro w hSw;(try dsimp only at hSw);go_simp;(try with_reducible rfl))
       try simp only [Act.put,List.setIfInBounds_toArray,List.set_cons_zero,List.set_cons_succ]
       refine step_take (i:=18) (v:=?_) rfl (by kernel_rfl) (by kernel_rfl) (by kernel_rfl) (fun _ _ _ h=>h) (by rfl) ?yv17 (by assumption) ?_
       case yv17=>(intro w hSw;(try dsimp only at hSw);go_simp;(try with_reducible rfl))
       try simp only [Act.put,List.setIfInBounds_toArray,List.set_cons_zero,List.set_cons_succ]
       refine step_take (i:=19) (v:=?_) rfl (by kernel_rfl) (by kernel_rfl) (by kernel_rfl) (fun _ _ _ h=>h) (by rfl) ?yv18 (by assumption) ?_
       case yv18=>(intro w hSw;(try dsimp only at hSw);go_simp;(try with_reducible rfl))
       try simp only [Act.put,List.setIfInBounds_toArray,List.set_cons_zero,List.set_cons_succ]
       refine step_take (i:=20) (v:=?_) rfl (by kernel_rfl) (by kernel_rfl) (by kernel_rfl) (fun _ _ _ h=>h) (by rfl) ?yv19 (by assumption) ?_
       case yv19=>(intro w hSw;(try dsimp only at hSw);go_simp;(try with_reducible rfl))
       try simp only [Act.put,List.setIfInBounds_toArray,List.set_cons_zero,List.set_cons_succ]
       refine step_alone 8 rfl (by kernel_rfl) (by rfl) (fun K hK=>?_)
       go_simp
       refine (rpath_any L.length _ _ _ L j _ (hL7.below hxd) rfl (by omega) (by omega) rfl h6.short).mono ?_
       rintro e z1 ⟨v1,rfl,ho1,hz1⟩
       have hxE:=hxd.trans hz1
       have hs1:=hSS z1 (fun b hb _=>hxE.block b hb)
       obtain ⟨AP,cP,hv1,_,_,_⟩:=ho1.blist.shape
       obtain ⟨nP,hnP⟩:∃ n,(Tr.path (L.map Tr.leafH) j).length=n:=⟨_,rfl⟩
       rw [hnP] at hv1
       subst hv1
       clear hnP
       go_simp
       refine hK.out _ _ ?_ (fun hHeld=>?_)
       · exact hs1
       clear hK K
       try simp only [Act.put,List.setIfInBounds_toArray,List.set_cons_zero,List.set_cons_succ]
       refine step_alone 17 rfl (by kernel_rfl) (by rfl) (fun K hK=>?_)
       go_simp
       refine (rpath_any f.book.length z1 _ _ (Bk.rows f.book) ri _ (hoR7.below hxE) hql (by omega) (by omega) rfl hrows).mono ?_
       rintro e z2 ⟨v2,rfl,ho2,hz2⟩
       have hxf:=hxE.trans (hz2.mono hxE.size)
       have hs2:=hSS z2 (fun b hb _=>hxf.block b hb)
       obtain ⟨AB,cB,hv2,_,_,_⟩:=ho2.blist.shape
       obtain ⟨nB,hnB⟩:∃ n,(Tr.path ((Bk.rows f.book).map Tr.leafH) ri).length=n:=⟨_,rfl⟩
       rw [hnB] at hv2
       subst hv2
       clear hnB
       go_simp
       refine hK.out _ _ ?_ (fun hHeld=>?_)
       · exact hs2
       clear hK K
       try simp only [Act.put,List.setIfInBounds_toArray,List.set_cons_zero,List.set_cons_succ]
       refine step_alone 21 rfl (by kernel_rfl) (by rfl) (fun K hK=>?_)
       go_simp
       refine (root_ref f.book.length z2 _ _ (Bk.rows f.book) (hoR7.below hxf) hql (by omega) hrows).mono ?_
       rintro e z3 ⟨v3,rfl,ho3,hz3⟩
       have hxg:=hxf.trans (hz3.mono hxf.size)
       have hs3:=hSS z3 (fun b hb _=>hxg.block b hb)
       obtain ⟨AH,cH,hv3,_,_⟩:=Own.shape ho3
       obtain ⟨nH,hnH⟩:∃ n,(Tr.root ((Bk.rows f.book).map Tr.leafH)).length=n:=⟨_,rfl⟩
       rw [hnH] at hv3
       subst hv3
       clear hnH
       have hb6z:=hb67.below hxg hg6l
       have c0_:z3.cell? ⟨g6,0,none⟩=some (.slice none 0 0):=hb6z.cell 0
       have f0_:=hb6z.frozen 0
       have c1_:z3.cell? ⟨g6,1,none⟩=some (.int .i64 0):=hb6z.cell 1
       have f1_:=hb6z.frozen 1
       have c2_:z3.cell? ⟨g6,2,none⟩=some (.int .i64 0):=hb6z.cell 2
       have f2_:=hb6z.frozen 2
       have c3_:z3.cell? ⟨g6,3,none⟩=some (.slice none 0 0):=hb6z.cell 3
       have f3_:=hb6z.frozen 3
       have c4_:z3.cell? ⟨g6,4,none⟩=some (.int .i64 0):=hb6z.cell 4
       have f4_:=hb6z.frozen 4
       have c5_:z3.cell? ⟨g6,5,none⟩=some (.int .i64 0):=hb6z.cell 5
       have f5_:=hb6z.frozen 5
       have c6_:z3.cell? ⟨g6,6,none⟩=some (.int .i64 0):=hb6z.cell 6
       have f6_:=hb6z.frozen 6
       have c7_:z3.cell? ⟨g6,7,none⟩=some (.int .i64 0):=hb6z.cell 7
       have f7_:=hb6z.frozen 7
       have c8_:z3.cell? ⟨g6,8,none⟩=some (.slice none 0 0):=hb6z.cell 8
       have f8_:=hb6z.frozen 8
       have c9_:z3.cell? ⟨g6,9,none⟩=some (.int .i64 0):=hb6z.cell 9
       have f9_:=hb6z.frozen 9
       have c10_:z3.cell? ⟨g6,10,none⟩=some (.slice none 0 0):=hb6z.cell 10
       have f10_:=hb6z.frozen 10
       have c11_:z3.cell? ⟨g6,11,none⟩=some (.int .i64 0):=hb6z.cell 11
       have f11_:=hb6z.frozen 11
       have c12_:z3.cell? ⟨g6,12,none⟩=some (.slice none 0 0):=hb6z.cell 12
       have f12_:=hb6z.frozen 12
       go_simp
       refine hK.out _ _ ?_ (fun hHeld=>?_)
       · exact hs3
       clear hK K
       try simp only [Act.put,List.setIfInBounds_toArray,List.set_cons_zero,List.set_cons_succ]
       refine step_take (i:=22) (v:=?_) rfl (by kernel_rfl) (by kernel_rfl) (by kernel_rfl) (fun _ _ _ h=>h) (by rfl) ?yv23 (by assumption) ?_
       case yv23=>(intro w hSw;(try dsimp only at hSw);go_simp;(try with_reducible rfl))
       try simp only [Act.put,List.setIfInBounds_toArray,List.set_cons_zero,List.set_cons_succ]
       refine step_take (i:=23) (v:=?_) rfl (by kernel_rfl) (by kernel_rfl) (by kernel_rfl) (fun _ _ _ h=>h) (by rfl) ?yv24 (by assumption) ?_
       case yv24=>(intro w hSw;(try dsimp only at hSw);go_simp;(try with_reducible rfl))
       try simp only [Act.put,List.setIfInBounds_toArray,List.set_cons_zero,List.set_cons_succ]
       refine step_alone 24 rfl (by kernel_rfl) (by rfl) (fun K hK=>?_)
       go_simp
       have hW:setL z3 g6 0 [.slice AE e0.length cE,.int .i64 (j:Int),.int .i64 (k:Int),.slice AP nP cP,.int .i64 r.sh,.int .i64 r.fr,.int .i64 r.to,.int .i64 r.sz,.slice AR r.root.length cR,.int .i64 (ri:Int),.slice AB nB cB,.int .i64 (f.book.length:Int),.slice AH nH cH]=(((((((((((((z3.setCell ⟨g6,0,none⟩ (.slice AE e0.length cE)).setCell ⟨g6,1,none⟩ (.int .i64 (j:Int))).setCell ⟨g6,2,none⟩ (.int .i64 (k:Int))).setCell ⟨g6,3,none⟩ (.slice AP nP cP)).setCell ⟨g6,4,none⟩ (.int .i64 r.sh)).setCell ⟨g6,5,none⟩ (.int .i64 r.fr)).setCell ⟨g6,6,none⟩ (.int .i64 r.to)).setCell ⟨g6,7,none⟩ (.int .i64 r.sz)).setCell ⟨g6,8,none⟩ (.slice AR r.root.length cR)).setCell ⟨g6,9,none⟩ (.int .i64 (ri:Int))).setCell ⟨g6,10,none⟩ (.slice AB nB cB)).setCell ⟨g6,11,none⟩ (.int .i64 (f.book.length:Int))).setCell ⟨g6,12,none⟩ (.slice AH nH cH)):=rfl
       rw [<-hW]
       clear hW
       refine hK.out _ _ ?_ (fun hHeld=>?_)
       · exact hSS _ (fun b hb hn=>(setL_far hn _ _ _).trans (hxg.block b hb))
       clear hK K
       try simp only [Act.put,List.setIfInBounds_toArray,List.set_cons_zero,List.set_cons_succ]
       refine step_take (i:=25) (v:=?_) rfl (by kernel_rfl) (by kernel_rfl) (by kernel_rfl) (fun _ _ _ h=>h) (by rfl) ?yv26 (by assumption) ?_
       case yv26=>(intro w hSw;(try dsimp only at hSw);go_simp;(try with_reducible rfl))
       try simp only [Act.put,List.setIfInBounds_toArray,List.set_cons_zero,List.set_cons_succ]
       refine wpAnyH_done (by kernel_rfl) ?_ _
       have hx1T:Below w.heap.size w z3:=hx07.trans (hxg.mono hx07.size)
       go_wp2_with fail
       have hbe:Blk (setL z3 g6 0 [.slice AE e0.length cE,.int .i64 (j:Int),.int .i64 (k:Int),.slice AP nP cP,.int .i64 r.sh,.int .i64 r.fr,.int .i64 r.to,.int .i64 r.sz,.slice AR r.root.length cR,.int .i64 (ri:Int),.slice AB nB cB,.int .i64 (f.book.length:Int),.slice AH nH cH]) (g6) 89 #[.slice AE e0.length cE,.int .i64 (j:Int),.int .i64 (k:Int),.slice AP nP cP,.int .i64 r.sh,.int .i64 r.fr,.int .i64 r.to,.int .i64 r.sz,.slice AR r.root.length cR,.int .i64 (ri:Int),.slice AB nB cB,.int .i64 (f.book.length:Int),.slice AH nH cH]:=setL_blk [.slice AE e0.length cE,.int .i64 (j:Int),.int .i64 (k:Int),.slice AP nP cP,.int .i64 r.sh,.int .i64 r.fr,.int .i64 r.to,.int .i64 r.sz,.slice AR r.root.length cR,.int .i64 (ri:Int),.slice AB nB cB,.int .i64 (f.book.length:Int),.slice AH nH cH] [.slice none 0 0,.int .i64 0,.int .i64 0,.slice none 0 0,.int .i64 0,.int .i64 0,.int .i64 0,.int .i64 0,.slice none 0 0,.int .i64 0,.slice none 0 0,.int .i64 0,.slice none 0 0] [] z3 rfl hb6z
       have hxe:Below w.heap.size w (setL z3 g6 0 [.slice AE e0.length cE,.int .i64 (j:Int),.int .i64 (k:Int),.slice AP nP cP,.int .i64 r.sh,.int .i64 r.fr,.int .i64 r.to,.int .i64 r.sz,.slice AR r.root.length cR,.int .i64 (ri:Int),.slice AB nB cB,.int .i64 (f.book.length:Int),.slice AH nH cH]):=setL_below hg6w _ _ _ hx1T
       have hrd:Rp.rd (setL z3 g6 0 [.slice AE e0.length cE,.int .i64 (j:Int),.int .i64 (k:Int),.slice AP nP cP,.int .i64 r.sh,.int .i64 r.fr,.int .i64 r.to,.int .i64 r.sz,.slice AR r.root.length cR,.int .i64 (ri:Int),.slice AB nB cB,.int .i64 (f.book.length:Int),.slice AH nH cH]) (fun _=>True) [.slice AE e0.length cE,.int .i64 (j:Int),.int .i64 (k:Int),.slice AP nP cP,.int .i64 r.sh,.int .i64 r.fr,.int .i64 r.to,.int .i64 r.sz,.slice AR r.root.length cR,.int .i64 (ri:Int),.slice AB nB cB,.int .i64 (f.book.length:Int),.slice AH nH cH] (⟨e0,(j:Int),(k:Int),Tr.path (L.map Tr.leafH) j,r,(ri:Int),Tr.path ((Bk.rows f.book).map Tr.leafH) ri,(f.book.length:Int),Fl.bookRoot f.book⟩:Shw):=by
        have q1:=(((rdL_bytes.2 huE).below hxg).setL (g:=g6) (i:=0) (cs:=[.slice AE e0.length cE,.int .i64 (j:Int),.int .i64 (k:Int),.slice AP nP cP,.int .i64 r.sh,.int .i64 r.fr,.int .i64 r.to,.int .i64 r.sz,.slice AR r.root.length cR,.int .i64 (ri:Int),.slice AB nB cB,.int .i64 (f.book.length:Int),.slice AH nH cH]) (fun b hb=>by have h1:b<w.heap.size\/g6<b:=hb;omega)).top
        have q2:=(((rdL_blist.2 ho1.blist).below (hz2.trans (hz3.mono hz2.size))).setL (g:=g6) (i:=0) (cs:=[.slice AE e0.length cE,.int .i64 (j:Int),.int .i64 (k:Int),.slice AP nP cP,.int .i64 r.sh,.int .i64 r.fr,.int .i64 r.to,.int .i64 r.sz,.slice AR r.root.length cR,.int .i64 (ri:Int),.slice AB nB cB,.int .i64 (f.book.length:Int),.slice AH nH cH]) (fun b hb=>by have h1:w7.heap.size<=b:=hb.1;omega)).top
        have q3:=(((rdL_bytes.2 hq).below hxg).setL (g:=g6) (i:=0) (cs:=[.slice AE e0.length cE,.int .i64 (j:Int),.int .i64 (k:Int),.slice AP nP cP,.int .i64 r.sh,.int .i64 r.fr,.int .i64 r.to,.int .i64 r.sz,.slice AR r.root.length cR,.int .i64 (ri:Int),.slice AB nB cB,.int .i64 (f.book.length:Int),.slice AH nH cH]) (fun b hb=>by have h1:b<w.heap.size:=hb;omega)).top
        have q4:=(((rdL_blist.2 ho2.blist).below hz3).setL (g:=g6) (i:=0) (cs:=[.slice AE e0.length cE,.int .i64 (j:Int),.int .i64 (k:Int),.slice AP nP cP,.int .i64 r.sh,.int .i64 r.fr,.int .i64 r.to,.int .i64 r.sz,.slice AR r.root.length cR,.int .i64 (ri:Int),.slice AB nB cB,.int .i64 (f.book.length:Int),.slice AH nH cH]) (fun b hb=>by have h1:z1.heap.size<=b:=hb.1;have:=hxE.size;omega)).top
        have q5:=((rdL_bytes.2 (OwnB.bytes ho3)).setL (g:=g6) (i:=0) (cs:=[.slice AE e0.length cE,.int .i64 (j:Int),.int .i64 (k:Int),.slice AP nP cP,.int .i64 r.sh,.int .i64 r.fr,.int .i64 r.to,.int .i64 r.sz,.slice AR r.root.length cR,.int .i64 (ri:Int),.slice AB nB cB,.int .i64 (f.book.length:Int),.slice AH nH cH]) (fun b hb=>by have h1:z2.heap.size<=b:=hb.1;have:=hxf.size;omega)).top
        exact shw_rd (s:=⟨e0,(j:Int),(k:Int),Tr.path (L.map Tr.leafH) j,r,(ri:Int),Tr.path ((Bk.rows f.book).map Tr.leafH) ri,(f.book.length:Int),Fl.bookRoot f.book⟩) (rdL_bytes.1 q1) (rdL_blist.1 q2) (rdL_bytes.1 q3) (rdL_blist.1 q4) (rdL_bytes.1 q5)
       generalize setL z3 g6 0 [.slice AE e0.length cE,.int .i64 (j:Int),.int .i64 (k:Int),.slice AP nP cP,.int .i64 r.sh,.int .i64 r.fr,.int .i64 r.to,.int .i64 r.sz,.slice AR r.root.length cR,.int .i64 (ri:Int),.slice AB nB cB,.int .i64 (f.book.length:Int),.slice AH nH cH]=W at *
       have s0:W.cell? ⟨g6,0,none⟩=some (.slice AE e0.length cE):=hbe.cell 0
       have s1:W.cell? ⟨g6,1,none⟩=some (.int .i64 (j:Int)):=hbe.cell 1
       have s2:W.cell? ⟨g6,2,none⟩=some (.int .i64 (k:Int)):=hbe.cell 2
       have s3:W.cell? ⟨g6,3,none⟩=some (.slice AP nP cP):=hbe.cell 3
       have s4:W.cell? ⟨g6,4,none⟩=some (.int .i64 r.sh):=hbe.cell 4
       have s5:W.cell? ⟨g6,5,none⟩=some (.int .i64 r.fr):=hbe.cell 5
       have s6:W.cell? ⟨g6,6,none⟩=some (.int .i64 r.to):=hbe.cell 6
       have s7:W.cell? ⟨g6,7,none⟩=some (.int .i64 r.sz):=hbe.cell 7
       have s8:W.cell? ⟨g6,8,none⟩=some (.slice AR r.root.length cR):=hbe.cell 8
       have s9:W.cell? ⟨g6,9,none⟩=some (.int .i64 (ri:Int)):=hbe.cell 9
       have s10:W.cell? ⟨g6,10,none⟩=some (.slice AB nB cB):=hbe.cell 10
       have s11:W.cell? ⟨g6,11,none⟩=some (.int .i64 (f.book.length:Int)):=hbe.cell 11
       have s12:W.cell? ⟨g6,12,none⟩=some (.slice AH nH cH):=hbe.cell 12
       exact bodyPost_ret (v:=.tuple #[.agg #[.slice AE e0.length cE,.int .i64 (j:Int),.int .i64 (k:Int),.slice AP nP cP,.int .i64 r.sh,.int .i64 r.fr,.int .i64 r.to,.int .i64 r.sz,.slice AR r.root.length cR,.int .i64 (ri:Int),.slice AB nB cB,.int .i64 (f.book.length:Int),.slice AH nH cH],.int .i64 0]) (by simp [results,Try.results70,go_sem,s0,s1,s2,s3,s4,s5,s6,s7,s8,s9,s10,s11,s12]) rfl (by rw [HS.out];exact ⟨[.slice AE e0.length cE,.int .i64 (j:Int),.int .i64 (k:Int),.slice AP nP cP,.int .i64 r.sh,.int .i64 r.fr,.int .i64 r.to,.int .i64 r.sz,.slice AR r.root.length cR,.int .i64 (ri:Int),.slice AB nB cB,.int .i64 (f.book.length:Int),.slice AH nH cH],rfl,hrd,hxe⟩)
end Go.Proofs.Ytfdibjgmbdkbcaa
