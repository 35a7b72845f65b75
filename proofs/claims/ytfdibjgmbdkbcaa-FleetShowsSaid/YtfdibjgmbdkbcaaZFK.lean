/-
  THE WALK of fleet.Show. Conditions: a fleet of which all holds. THE WALK of fleet.Check. Conditions: what is read is what is shown, and a head.
-/
import Derived.Test.YtfdibjgmbdkbcaaZRepr
import Derived.Test.YtfdibjgmbdkbcaaZGf
import Derived.Test.YtfdibjgmbdkbcaaZGq
import Derived.Test.YtfdibjgmbdkbcaaZGr
namespace Go.Proofs.Ytfdibjgmbdkbcaa
open Go.RowKit Go.Lib
def ShowO (w:World) (r:Nat × Shw) (e:Ending) (w':World):Prop :=
 ∃ cs:List Value,e = .returned (.tuple #[.agg cs.toArray,.int .i64 (r.1:Int)])/\Rp.rd w' (fun b=>w.heap.size<=b) cs r.2/\Below w.heap.size w w'
def ShowP (w:World) (r:Nat × Shw) (e:Ending) (w':World):Prop :=
 ∃ cs:List Value,e = .returned (.tuple #[.agg cs.toArray,.int .i64 (r.1:Int)])/\Rp.rd w' (fun _=>True) cs r.2/\Below w.heap.size w w'
theorem shw_rd {w:World} {F:Nat->Prop} {s:Shw} {ev pv rv bpv hv:Value} (h1:Bytes w F ev s.entry) (h2:BList w F pv s.path) (h3:Bytes w F rv s.rcd.root) (h4:BList w F bpv s.bpath) (h5:Bytes w F hv s.hroot) :
 Rp.rd w F [ev,.int .i64 s.place,.int .i64 s.shard,pv,.int .i64 s.rcd.sh,.int .i64 s.rcd.fr,.int .i64 s.rcd.to,.int .i64 s.rcd.sz,rv,.int .i64 s.row,bpv,.int .i64 s.hsz,hv] s :=
 ⟨[_],[_,_,_,_,_,_,_,_,_,_,_,_],rfl,⟨_,rfl,rdL_bytes.2 h1⟩,[_],[_,_,_,_,_,_,_,_,_,_,_],rfl,rfl,[_],[_,_,_,_,_,_,_,_,_,_],rfl,rfl,[_],[_,_,_,_,_,_,_,_,_],rfl,⟨_,rfl,rdL_blist.2 h2⟩,
  [_,_,_,_,_],[_,_,_,_],rfl,⟨[_],[_,_,_,_],rfl,rfl,[_],[_,_,_],rfl,rfl,[_],[_,_],rfl,rfl,[_],[_],rfl,rfl,_,rfl,rdL_bytes.2 h3⟩,[_],[_,_,_],rfl,rfl,[_],[_,_],rfl,⟨_,rfl,rdL_blist.2 h4⟩,[_],[_],rfl,rfl,_,rfl,rdL_bytes.2 h5⟩
theorem blk_drew {w:World} {g:Nat} {t:TypeId} {cs:Array Value} (h:Blk w g t cs):Blk w.drew g t cs:=h
theorem RdL.setL {α:Type} [Rp α] {w:World} {F:Nat->Prop} {v:Value} {l:List α} {g i:Nat} {cs:List Value} (h:RdL w F v l) (hF:∀ k,F k->k≠g):RdL (setL w g i cs) F v l :=
 h.keep (by rw [setL_size];exact Nat.le_refl _) fun k _ hk=>⟨hk,setL_far (hF k hk) _ _ _⟩
theorem blist_nil (w:World) (F:Nat->Prop):BList w F (.slice none 0 0) []:=rdL_blist.1 (RdL.nil_ _ _ _)
theorem zeroS_rd (w:World) (F:Nat->Prop):Rp.rd w F [.slice none 0 0,.int .i64 0,.int .i64 0,.slice none 0 0,.int .i64 0,.int .i64 0,.int .i64 0,.int .i64 0,.slice none 0 0,.int .i64 0,.slice none 0 0,.int .i64 0,.slice none 0 0] Fl.zeroS:=shw_rd (s:=Fl.zeroS) (ev:=.slice none 0 0) (pv:=.slice none 0 0) (rv:=.slice none 0 0) (bpv:=.slice none 0 0) (hv:=.slice none 0 0) (rdL_bytes.1 (RdL.nil_ _ _ _)) (blist_nil _ _) (rdL_bytes.1 (RdL.nil_ _ _ _)) (blist_nil _ _) (rdL_bytes.1 (RdL.nil_ _ _ _))
set_option maxRecDepth 100000 in
set_option maxHeartbeats 4000000 in
theorem show_own (w:World) (F F':Nat->Prop) (vs vb:Value) (f:Flt) (kk i:Int) (hsh:RdL w F vs f.sh) (hbk:RdL w F' vb f.book) (hI:Fl.Inv f) :
 Calls Try.prog 69 #[.agg #[vs,vb],.int .i64 kk,.int .i64 i] w (ShowO w (Fl.showC f kk i)):=by
 obtain ⟨Av,cv,hvs,hncv,hcvm⟩:=hsh.form
 obtain ⟨Ab,cb,hvb,hncb,hcbm⟩:=hbk.form
 subst hvs hvb
 unfold maxLen at hcvm hcbm
 have hlen8:=hI.len
 have hbook8:=hI.book_len
 have hx1:=(((Below.refl w.heap.size w).alloc (Nat.le_refl _) (.cells #[.slice Av f.sh.length cv,.slice Ab f.book.length cb] 92)).alloc (by simp) (.cells #[.int .i64 kk] 3)).alloc (by simp;omega) (.cells #[.slice none 0 0,.int .i64 0,.int .i64 0,.slice none 0 0,.int .i64 0,.int .i64 0,.int .i64 0,.int .i64 0,.slice none 0 0,.int .i64 0,.slice none 0 0,.int .i64 0,.slice none 0 0] 89)
 have hb3:Blk (((w.alloc (.cells #[.slice Av f.sh.length cv,.slice Ab f.book.length cb] 92)).alloc (.cells #[.int .i64 kk] 3)).alloc (.cells #[.slice none 0 0,.int .i64 0,.int .i64 0,.slice none 0 0,.int .i64 0,.int .i64 0,.int .i64 0,.int .i64 0,.slice none 0 0,.int .i64 0,.slice none 0 0,.int .i64 0,.slice none 0 0] 89)) w.heap.size 92 #[.slice Av f.sh.length cv,.slice Ab f.book.length cb]:=Blk.alloc (Blk.alloc (heap_alloc_new w _) _) _
 have hb4:Blk (((w.alloc (.cells #[.slice Av f.sh.length cv,.slice Ab f.book.length cb] 92)).alloc (.cells #[.int .i64 kk] 3)).alloc (.cells #[.slice none 0 0,.int .i64 0,.int .i64 0,.slice none 0 0,.int .i64 0,.int .i64 0,.int .i64 0,.int .i64 0,.slice none 0 0,.int .i64 0,.slice none 0 0,.int .i64 0,.slice none 0 0] 89)) (w.heap.size+1) 3 #[.int .i64 kk]:=by
  have:=heap_alloc_new (w.alloc (.cells #[.slice Av f.sh.length cv,.slice Ab f.book.length cb] 92)) (.cells #[.int .i64 kk] 3)
  rw [World.size_alloc] at this
  exact Blk.alloc this _
 have hb6:Blk (((w.alloc (.cells #[.slice Av f.sh.length cv,.slice Ab f.book.length cb] 92)).alloc (.cells #[.int .i64 kk] 3)).alloc (.cells #[.slice none 0 0,.int .i64 0,.int .i64 0,.slice none 0 0,.int .i64 0,.int .i64 0,.int .i64 0,.int .i64 0,.slice none 0 0,.int .i64 0,.slice none 0 0,.int .i64 0,.slice none 0 0] 89)) (w.heap.size+1+1) 89 #[.slice none 0 0,.int .i64 0,.int .i64 0,.slice none 0 0,.int .i64 0,.int .i64 0,.int .i64 0,.int .i64 0,.slice none 0 0,.int .i64 0,.slice none 0 0,.int .i64 0,.slice none 0 0]:=by
  have:=heap_alloc_new ((w.alloc (.cells #[.slice Av f.sh.length cv,.slice Ab f.book.length cb] 92)).alloc (.cells #[.int .i64 kk] 3)) (.cells #[.slice none 0 0,.int .i64 0,.int .i64 0,.slice none 0 0,.int .i64 0,.int .i64 0,.int .i64 0,.int .i64 0,.slice none 0 0,.int .i64 0,.slice none 0 0,.int .i64 0,.slice none 0 0] 89)
  rw [World.size_alloc,World.size_alloc] at this
  exact this
 obtain ⟨R,HR⟩:∃ R,Hid (R=Fl.showC f kk i):=⟨_,Lib.hid rfl⟩
 rw [<-HR.out]
 go_enter Try.func69,Try.ntmps69
 go_upto_region 1 with (fail)
 generalize (((w.alloc (.cells #[.slice Av f.sh.length cv,.slice Ab f.book.length cb] 92)).alloc (.cells #[.int .i64 kk] 3)).alloc (.cells #[.slice none 0 0,.int .i64 0,.int .i64 0,.slice none 0 0,.int .i64 0,.int .i64 0,.int .i64 0,.int .i64 0,.slice none 0 0,.int .i64 0,.slice none 0 0,.int .i64 0,.slice none 0 0] 89))=w1 at *
 have hg6:w.heap.size+1+1=w.heap.size+1+1:=rfl
 generalize hg6e:w.heap.size+1+1=g6 at *
 have hg6w:w.heap.size<=g6:=by omega
 clear hg6 hg6e
 have g0:w1.cell? ⟨w.heap.size,0,none⟩=some (.slice Av f.sh.length cv):=hb3.cell 0
 have g1:w1.cell? ⟨w.heap.size,1,none⟩=some (.slice Ab f.book.length cb):=hb3.cell 1
 have k0:w1.cell? ⟨w.heap.size+1,0,none⟩=some (.int .i64 kk):=hb4.cell 0
 have z0:w1.cell? ⟨g6,0,none⟩=some (.slice none 0 0):=hb6.cell 0
 have zf0:=hb6.frozen 0
 have z1:w1.cell? ⟨g6,1,none⟩=some (.int .i64 0):=hb6.cell 1
 have zf1:=hb6.frozen 1
 have z2:w1.cell? ⟨g6,2,none⟩=some (.int .i64 0):=hb6.cell 2
 have zf2:=hb6.frozen 2
 have z3:w1.cell? ⟨g6,3,none⟩=some (.slice none 0 0):=hb6.cell 3
 have zf3:=hb6.frozen 3
 have z4:w1.cell? ⟨g6,4,none⟩=some (.int .i64 0):=hb6.cell 4
 have zf4:=hb6.frozen 4
 have z5:w1.cell? ⟨g6,5,none⟩=some (.int .i64 0):=hb6.cell 5
 have zf5:=hb6.frozen 5
 have z6:w1.cell? ⟨g6,6,none⟩=some (.int .i64 0):=hb6.cell 6
 have zf6:=hb6.frozen 6
 have z7:w1.cell? ⟨g6,7,none⟩=some (.int .i64 0):=hb6.cell 7
 have zf7:=hb6.frozen 7
 have z8:w1.cell? ⟨g6,8,none⟩=some (.slice none 0 0):=hb6.cell 8
 have zf8:=hb6.frozen 8
 have z9:w1.cell? ⟨g6,9,none⟩=some (.int .i64 0):=hb6.cell 9
 have zf9:=hb6.frozen 9
 have z10:w1.cell? ⟨g6,10,none⟩=some (.slice none 0 0):=hb6.cell 10
 have zf10:=hb6.frozen 10
 have z11:w1.cell? ⟨g6,11,none⟩=some (.int .i64 0):=hb6.cell 11
 have zf11:=hb6.frozen 11
 have z12:w1.cell? ⟨g6,12,none⟩=some (.slice none 0 0):=hb6.cell 12
 have zf12:=hb6.frozen 12
 by_cases hneg:kk<0
 · have hnegB:decide (kk<0)=true:=decide_eq_true hneg
   have HS:Hid (R=(6,Fl.zeroS)):=Lib.hid (by rw [HR.out,Fl.showC_none i (.inl hneg)])
   go_wp2_with fail
   have hW:setL w1 g6 0 [.slice none 0 0,.int .i64 0,.int .i64 0,.slice none 0 0,.int .i64 0,.int .i64 0,.int .i64 0,.int .i64 0,.slice none 0 0,.int .i64 0,.slice none 0 0,.int .i64 0,.slice none 0 0]=(((((((((((((w1.setCell ⟨g6,0,none⟩ (.slice none 0 0)).setCell ⟨g6,1,none⟩ (.int .i64 0)).setCell ⟨g6,2,none⟩ (.int .i64 0)).setCell ⟨g6,3,none⟩ (.slice none 0 0)).setCell ⟨g6,4,none⟩ (.int .i64 0)).setCell ⟨g6,5,none⟩ (.int .i64 0)).setCell ⟨g6,6,none⟩ (.int .i64 0)).setCell ⟨g6,7,none⟩ (.int .i64 0)).setCell ⟨g6,8,none⟩ (.slice none 0 0)).setCell ⟨g6,9,none⟩ (.int .i64 0)).setCell ⟨g6,10,none⟩ (.slice none 0 0)).setCell ⟨g6,11,none⟩ (.int .i64 0)).setCell ⟨g6,12,none⟩ (.slice none 0 0)):=rfl
   rw [<-hW]
   clear hW
   have hbe:Blk (setL w1 g6 0 [.slice none 0 0,.int .i64 0,.int .i64 0,.slice none 0 0,.int .i64 0,.int .i64 0,.int .i64 0,.int .i64 0,.slice none 0 0,.int .i64 0,.slice none 0 0,.int .i64 0,.slice none 0 0]) (g6) 89 #[.slice none 0 0,.int .i64 0,.int .i64 0,.slice none 0 0,.int .i64 0,.int .i64 0,.int .i64 0,.int .i64 0,.slice none 0 0,.int .i64 0,.slice none 0 0,.int .i64 0,.slice none 0 0]:=setL_blk [.slice none 0 0,.int .i64 0,.int .i64 0,.slice none 0 0,.int .i64 0,.int .i64 0,.int .i64 0,.int .i64 0,.slice none 0 0,.int .i64 0,.slice none 0 0,.int .i64 0,.slice none 0 0] [.slice none 0 0,.int .i64 0,.int .i64 0,.slice none 0 0,.int .i64 0,.int .i64 0,.int .i64 0,.int .i64 0,.slice none 0 0,.int .i64 0,.slice none 0 0,.int .i64 0,.slice none 0 0] [] w1 rfl hb6
   have hxe:Below w.heap.size w (setL w1 g6 0 [.slice none 0 0,.int .i64 0,.int .i64 0,.slice none 0 0,.int .i64 0,.int .i64 0,.int .i64 0,.int .i64 0,.slice none 0 0,.int .i64 0,.slice none 0 0,.int .i64 0,.slice none 0 0]):=setL_below hg6w _ _ _ hx1
   have hrd:=zeroS_rd (setL w1 g6 0 [.slice none 0 0,.int .i64 0,.int .i64 0,.slice none 0 0,.int .i64 0,.int .i64 0,.int .i64 0,.int .i64 0,.slice none 0 0,.int .i64 0,.slice none 0 0,.int .i64 0,.slice none 0 0]) (fun b=>w.heap.size<=b)
   generalize setL w1 g6 0 [.slice none 0 0,.int .i64 0,.int .i64 0,.slice none 0 0,.int .i64 0,.int .i64 0,.int .i64 0,.int .i64 0,.slice none 0 0,.int .i64 0,.slice none 0 0,.int .i64 0,.slice none 0 0]=W at *
   have s0:W.cell? ⟨g6,0,none⟩=some (.slice none 0 0):=hbe.cell 0
   have s1:W.cell? ⟨g6,1,none⟩=some (.int .i64 0):=hbe.cell 1
   have s2:W.cell? ⟨g6,2,none⟩=some (.int .i64 0):=hbe.cell 2
   have s3:W.cell? ⟨g6,3,none⟩=some (.slice none 0 0):=hbe.cell 3
   have s4:W.cell? ⟨g6,4,none⟩=some (.int .i64 0):=hbe.cell 4
   have s5:W.cell? ⟨g6,5,none⟩=some (.int .i64 0):=hbe.cell 5
   have s6:W.cell? ⟨g6,6,none⟩=some (.int .i64 0):=hbe.cell 6
   have s7:W.cell? ⟨g6,7,none⟩=some (.int .i64 0):=hbe.cell 7
   have s8:W.cell? ⟨g6,8,none⟩=some (.slice none 0 0):=hbe.cell 8
   have s9:W.cell? ⟨g6,9,none⟩=some (.int .i64 0):=hbe.cell 9
   have s10:W.cell? ⟨g6,10,none⟩=some (.slice none 0 0):=hbe.cell 10
   have s11:W.cell? ⟨g6,11,none⟩=some (.int .i64 0):=hbe.cell 11
   have s12:W.cell? ⟨g6,12,none⟩=some (.slice none 0 0):=hbe.cell 12
   exact bodyPost_ret (v:=.tuple #[.agg #[.slice none 0 0,.int .i64 0,.int .i64 0,.slice none 0 0,.int .i64 0,.int .i64 0,.int .i64 0,.int .i64 0,.slice none 0 0,.int .i64 0,.slice none 0 0,.int .i64 0,.slice none 0 0],.int .i64 6]) (by simp [results,Try.results69,go_sem,s0,s1,s2,s3,s4,s5,s6,s7,s8,s9,s10,s11,s12]) rfl (by rw [HS.out];exact ⟨[.slice none 0 0,.int .i64 0,.int .i64 0,.slice none 0 0,.int .i64 0,.int .i64 0,.int .i64 0,.int .i64 0,.slice none 0 0,.int .i64 0,.slice none 0 0,.int .i64 0,.slice none 0 0],rfl,hrd,hxe⟩)
 have hnegB:decide (kk<0)=false:=decide_eq_false hneg
 by_cases hge:(f.sh.length:Int)<=kk
 · have hgeB:decide ((f.sh.length:Int)<=kk)=true:=decide_eq_true hge
   have HS:Hid (R=(6,Fl.zeroS)):=Lib.hid (by rw [HR.out,Fl.showC_none i (.inr hge)])
   go_wp2_with fail
   have hW:setL w1 g6 0 [.slice none 0 0,.int .i64 0,.int .i64 0,.slice none 0 0,.int .i64 0,.int .i64 0,.int .i64 0,.int .i64 0,.slice none 0 0,.int .i64 0,.slice none 0 0,.int .i64 0,.slice none 0 0]=(((((((((((((w1.setCell ⟨g6,0,none⟩ (.slice none 0 0)).setCell ⟨g6,1,none⟩ (.int .i64 0)).setCell ⟨g6,2,none⟩ (.int .i64 0)).setCell ⟨g6,3,none⟩ (.slice none 0 0)).setCell ⟨g6,4,none⟩ (.int .i64 0)).setCell ⟨g6,5,none⟩ (.int .i64 0)).setCell ⟨g6,6,none⟩ (.int .i64 0)).setCell ⟨g6,7,none⟩ (.int .i64 0)).setCell ⟨g6,8,none⟩ (.slice none 0 0)).setCell ⟨g6,9,none⟩ (.int .i64 0)).setCell ⟨g6,10,none⟩ (.slice none 0 0)).setCell ⟨g6,11,none⟩ (.int .i64 0)).setCell ⟨g6,12,none⟩ (.slice none 0 0)):=rfl
   rw [<-hW]
   clear hW
   have hbe:Blk (setL w1 g6 0 [.slice none 0 0,.int .i64 0,.int .i64 0,.slice none 0 0,.int .i64 0,.int .i64 0,.int .i64 0,.int .i64 0,.slice none 0 0,.int .i64 0,.slice none 0 0,.int .i64 0,.slice none 0 0]) (g6) 89 #[.slice none 0 0,.int .i64 0,.int .i64 0,.slice none 0 0,.int .i64 0,.int .i64 0,.int .i64 0,.int .i64 0,.slice none 0 0,.int .i64 0,.slice none 0 0,.int .i64 0,.slice none 0 0]:=setL_blk [.slice none 0 0,.int .i64 0,.int .i64 0,.slice none 0 0,.int .i64 0,.int .i64 0,.int .i64 0,.int .i64 0,.slice none 0 0,.int .i64 0,.slice none 0 0,.int .i64 0,.slice none 0 0] [.slice none 0 0,.int .i64 0,.int .i64 0,.slice none 0 0,.int .i64 0,.int .i64 0,.int .i64 0,.int .i64 0,.slice none 0 0,.int .i64 0,.slice none 0 0,.int .i64 0,.slice none 0 0] [] w1 rfl hb6
   have hxe:Below w.heap.size w (setL w1 g6 0 [.slice none 0 0,.int .i64 0,.int .i64 0,.slice none 0 0,.int .i64 0,.int .i64 0,.int .i64 0,.int .i64 0,.slice none 0 0,.int .i64 0,.slice none 0 0,.int .i64 0,.slice none 0 0]):=setL_below hg6w _ _ _ hx1
   have hrd:=zeroS_rd (setL w1 g6 0 [.slice none 0 0,.int .i64 0,.int .i64 0,.slice none 0 0,.int .i64 0,.int .i64 0,.int .i64 0,.int .i64 0,.slice none 0 0,.int .i64 0,.slice none 0 0,.int .i64 0,.slice none 0 0]) (fun b=>w.heap.size<=b)
   generalize setL w1 g6 0 [.slice none 0 0,.int .i64 0,.int .i64 0,.slice none 0 0,.int .i64 0,.int .i64 0,.int .i64 0,.int .i64 0,.slice none 0 0,.int .i64 0,.slice none 0 0,.int .i64 0,.slice none 0 0]=W at *
   have s0:W.cell? ⟨g6,0,none⟩=some (.slice none 0 0):=hbe.cell 0
   have s1:W.cell? ⟨g6,1,none⟩=some (.int .i64 0):=hbe.cell 1
   have s2:W.cell? ⟨g6,2,none⟩=some (.int .i64 0):=hbe.cell 2
   have s3:W.cell? ⟨g6,3,none⟩=some (.slice none 0 0):=hbe.cell 3
   have s4:W.cell? ⟨g6,4,none⟩=some (.int .i64 0):=hbe.cell 4
   have s5:W.cell? ⟨g6,5,none⟩=some (.int .i64 0):=hbe.cell 5
   have s6:W.cell? ⟨g6,6,none⟩=some (.int .i64 0):=hbe.cell 6
   have s7:W.cell? ⟨g6,7,none⟩=some (.int .i64 0):=hbe.cell 7
   have s8:W.cell? ⟨g6,8,none⟩=some (.slice none 0 0):=hbe.cell 8
   have s9:W.cell? ⟨g6,9,none⟩=some (.int .i64 0):=hbe.cell 9
   have s10:W.cell? ⟨g6,10,none⟩=some (.slice none 0 0):=hbe.cell 10
   have s11:W.cell? ⟨g6,11,none⟩=some (.int .i64 0):=hbe.cell 11
   have s12:W.cell? ⟨g6,12,none⟩=some (.slice none 0 0):=hbe.cell 12
   exact bodyPost_ret (v:=.tuple #[.agg #[.slice none 0 0,.int .i64 0,.int .i64 0,.slice none 0 0,.int .i64 0,.int .i64 0,.int .i64 0,.int .i64 0,.slice none 0 0,.int .i64 0,.slice none 0 0,.int .i64 0,.slice none 0 0],.int .i64 6]) (by simp [results,Try.results69,go_sem,s0,s1,s2,s3,s4,s5,s6,s7,s8,s9,s10,s11,s12]) rfl (by rw [HS.out];exact ⟨[.slice none 0 0,.int .i64 0,.int .i64 0,.slice none 0 0,.int .i64 0,.int .i64 0,.int .i64 0,.int .i64 0,.slice none 0 0,.int .i64 0,.slice none 0 0,.int .i64 0,.slice none 0 0],rfl,hrd,hxe⟩)
 have hgeB:decide ((f.sh.length:Int)<=kk)=false:=decide_eq_false hge
 go_upto_region 3 with (fail)
 obtain ⟨k,hk⟩:∃ k:Nat,kk=(k:Int):=⟨kk.toNat,by omega⟩
 subst hk
 have hkl:k<f.sh.length:=by omega
 have hks:f.sh[k]? = some f.sh[k]:=List.getElem?_eq_getElem hkl
 clear hnegB hgeB hneg hge
 have hs1:=(hsh.weak (F':=fun b=>b<w.heap.size) (fun b hb _=>hb)).below hx1
 have hbk1:=hbk.below hx1
 go_wp2_with fail
 with_reducible refine (idxRowS_any w1 _ _ f.book (w.heap.size+1) (k:Int) hbk1 k0 hb4.lt).mono ?_
 rintro e w2 ⟨rfl,hx2⟩
 have hs2:=hs1.below hx2
 have hbk2:=hbk1.below hx2
 have hb32:=hb3.below hx2 hb3.lt
 have hb42:=hb4.below hx2 hb4.lt
 have hb62:=hb6.below hx2 hb6.lt
 have hx12:=hx1.trans (hx2.mono hx1.size)
 cases hrow:Fl.row f.book (k:Int) with
 | none =>
   have hidx:idx none = -1:=rfl
   rw [hidx]
   have HS:Hid (R=(8,Fl.zeroS)):=Lib.hid (by rw [HR.out];unfold Fl.showC;rw [if_neg (by omega),Int.toNat_natCast,hks];simp only [hrow])
   clear hidx hrow
   have z0:w2.cell? ⟨g6,0,none⟩=some (.slice none 0 0):=hb62.cell 0
   have zf0:=hb62.frozen 0
   have z1:w2.cell? ⟨g6,1,none⟩=some (.int .i64 0):=hb62.cell 1
   have zf1:=hb62.frozen 1
   have z2:w2.cell? ⟨g6,2,none⟩=some (.int .i64 0):=hb62.cell 2
   have zf2:=hb62.frozen 2
   have z3:w2.cell? ⟨g6,3,none⟩=some (.slice none 0 0):=hb62.cell 3
   have zf3:=hb62.frozen 3
   have z4:w2.cell? ⟨g6,4,none⟩=some (.int .i64 0):=hb62.cell 4
   have zf4:=hb62.frozen 4
   have z5:w2.cell? ⟨g6,5,none⟩=some (.int .i64 0):=hb62.cell 5
   have zf5:=hb62.frozen 5
   have z6:w2.cell? ⟨g6,6,none⟩=some (.int .i64 0):=hb62.cell 6
   have zf6:=hb62.frozen 6
   have z7:w2.cell? ⟨g6,7,none⟩=some (.int .i64 0):=hb62.cell 7
   have zf7:=hb62.frozen 7
   have z8:w2.cell? ⟨g6,8,none⟩=some (.slice none 0 0):=hb62.cell 8
   have zf8:=hb62.frozen 8
   have z9:w2.cell? ⟨g6,9,none⟩=some (.int .i64 0):=hb62.cell 9
   have zf9:=hb62.frozen 9
   have z10:w2.cell? ⟨g6,10,none⟩=some (.slice none 0 0):=hb62.cell 10
   have zf10:=hb62.frozen 10
   have z11:w2.cell? ⟨g6,11,none⟩=some (.int .i64 0):=hb62.cell 11
   have zf11:=hb62.frozen 11
   have z12:w2.cell? ⟨g6,12,none⟩=some (.slice none 0 0):=hb62.cell 12
   have zf12:=hb62.frozen 12
   go_wp2_with fail
   have hW:setL w2 g6 0 [.slice none 0 0,.int .i64 0,.int .i64 0,.slice none 0 0,.int .i64 0,.int .i64 0,.int .i64 0,.int .i64 0,.slice none 0 0,.int .i64 0,.slice none 0 0,.int .i64 0,.slice none 0 0]=(((((((((((((w2.setCell ⟨g6,0,none⟩ (.slice none 0 0)).setCell ⟨g6,1,none⟩ (.int .i64 0)).setCell ⟨g6,2,none⟩ (.int .i64 0)).setCell ⟨g6,3,none⟩ (.slice none 0 0)).setCell ⟨g6,4,none⟩ (.int .i64 0)).setCell ⟨g6,5,none⟩ (.int .i64 0)).setCell ⟨g6,6,none⟩ (.int .i64 0)).setCell ⟨g6,7,none⟩ (.int .i64 0)).setCell ⟨g6,8,none⟩ (.slice none 0 0)).setCell ⟨g6,9,none⟩ (.int .i64 0)).setCell ⟨g6,10,none⟩ (.slice none 0 0)).setCell ⟨g6,11,none⟩ (.int .i64 0)).setCell ⟨g6,12,none⟩ (.slice none 0 0)):=rfl
   rw [<-hW]
   clear hW
   have hbe:Blk (setL w2 g6 0 [.slice none 0 0,.int .i64 0,.int .i64 0,.slice none 0 0,.int .i64 0,.int .i64 0,.int .i64 0,.int .i64 0,.slice none 0 0,.int .i64 0,.slice none 0 0,.int .i64 0,.slice none 0 0]) (g6) 89 #[.slice none 0 0,.int .i64 0,.int .i64 0,.slice none 0 0,.int .i64 0,.int .i64 0,.int .i64 0,.int .i64 0,.slice none 0 0,.int .i64 0,.slice none 0 0,.int .i64 0,.slice none 0 0]:=setL_blk [.slice none 0 0,.int .i64 0,.int .i64 0,.slice none 0 0,.int .i64 0,.int .i64 0,.int .i64 0,.int .i64 0,.slice none 0 0,.int .i64 0,.slice none 0 0,.int .i64 0,.slice none 0 0] [.slice none 0 0,.int .i64 0,.int .i64 0,.slice none 0 0,.int .i64 0,.int .i64 0,.int .i64 0,.int .i64 0,.slice none 0 0,.int .i64 0,.slice none 0 0,.int .i64 0,.slice none 0 0] [] w2 rfl hb62
   have hxe:Below w.heap.size w (setL w2 g6 0 [.slice none 0 0,.int .i64 0,.int .i64 0,.slice none 0 0,.int .i64 0,.int .i64 0,.int .i64 0,.int .i64 0,.slice none 0 0,.int .i64 0,.slice none 0 0,.int .i64 0,.slice none 0 0]):=setL_below hg6w _ _ _ hx12
   have hrd:=zeroS_rd (setL w2 g6 0 [.slice none 0 0,.int .i64 0,.int .i64 0,.slice none 0 0,.int .i64 0,.int .i64 0,.int .i64 0,.int .i64 0,.slice none 0 0,.int .i64 0,.slice none 0 0,.int .i64 0,.slice none 0 0]) (fun b=>w.heap.size<=b)
   generalize setL w2 g6 0 [.slice none 0 0,.int .i64 0,.int .i64 0,.slice none 0 0,.int .i64 0,.int .i64 0,.int .i64 0,.int .i64 0,.slice none 0 0,.int .i64 0,.slice none 0 0,.int .i64 0,.slice none 0 0]=W at *
   have s0:W.cell? ⟨g6,0,none⟩=some (.slice none 0 0):=hbe.cell 0
   have s1:W.cell? ⟨g6,1,none⟩=some (.int .i64 0):=hbe.cell 1
   have s2:W.cell? ⟨g6,2,none⟩=some (.int .i64 0):=hbe.cell 2
   have s3:W.cell? ⟨g6,3,none⟩=some (.slice none 0 0):=hbe.cell 3
   have s4:W.cell? ⟨g6,4,none⟩=some (.int .i64 0):=hbe.cell 4
   have s5:W.cell? ⟨g6,5,none⟩=some (.int .i64 0):=hbe.cell 5
   have s6:W.cell? ⟨g6,6,none⟩=some (.int .i64 0):=hbe.cell 6
   have s7:W.cell? ⟨g6,7,none⟩=some (.int .i64 0):=hbe.cell 7
   have s8:W.cell? ⟨g6,8,none⟩=some (.slice none 0 0):=hbe.cell 8
   have s9:W.cell? ⟨g6,9,none⟩=some (.int .i64 0):=hbe.cell 9
   have s10:W.cell? ⟨g6,10,none⟩=some (.slice none 0 0):=hbe.cell 10
   have s11:W.cell? ⟨g6,11,none⟩=some (.int .i64 0):=hbe.cell 11
   have s12:W.cell? ⟨g6,12,none⟩=some (.slice none 0 0):=hbe.cell 12
   exact bodyPost_ret (v:=.tuple #[.agg #[.slice none 0 0,.int .i64 0,.int .i64 0,.slice none 0 0,.int .i64 0,.int .i64 0,.int .i64 0,.int .i64 0,.slice none 0 0,.int .i64 0,.slice none 0 0,.int .i64 0,.slice none 0 0],.int .i64 8]) (by simp [results,Try.results69,go_sem,s0,s1,s2,s3,s4,s5,s6,s7,s8,s9,s10,s11,s12]) rfl (by rw [HS.out];exact ⟨[.slice none 0 0,.int .i64 0,.int .i64 0,.slice none 0 0,.int .i64 0,.int .i64 0,.int .i64 0,.int .i64 0,.slice none 0 0,.int .i64 0,.slice none 0 0,.int .i64 0,.slice none 0 0],rfl,hrd,hxe⟩)
 | some ri =>
   have hidx:idx (some ri)=(ri:Int):=rfl
   rw [hidx]
   obtain ⟨hri,hrsh⟩:=Fl.row_some hrow
   have h2:2<=f.sh[k].st:=by
    obtain ⟨⟨j,t,e1,e2,e3,_⟩,_⟩:=hI.book _ (List.getElem_mem hri)
    have:j=k:=by omega
    subst this
    rw [hks] at e2
    injection e2 with e2
    rw [e2]
    exact e3
   obtain ⟨r',hr',h3,h4,h5,h6,h7,h8,h9⟩:=hI.frozen hks h2
   rw [hrow] at h3
   injection h3 with h3
   subst h3
   have hfB:=hI.fineB
   have hshow:Fl.showC f (k:Int) i=if i<0\/((Fl.entsC f.sh[k]).2.length:Int)<=i then (6,Fl.zeroS) else (0,Fl.shown f.book k i.toNat ri (Fl.entsC f.sh[k]).2):=by
    unfold Fl.showC
    rw [if_neg (by omega),Int.toNat_natCast,hks]
    simp only [hrow]
    rw [if_neg (by rw [h5];simp)]
   have HSH:Hid (R=if i<0\/((Fl.entsC f.sh[k]).2.length:Int)<=i then (6,Fl.zeroS) else (0,Fl.shown f.book k i.toNat ri (Fl.entsC f.sh[k]).2)):=Lib.hid (HR.out.trans hshow)
   obtain ⟨gS,oS,cS,u1,u2,u3,hA1,_,hbS,hcS,hu1,hu2,hu3⟩:=shd_at hs2 hkl
   injection hA1 with hA1 _ hA3
   subst hA1 hA3
   have HE:=Lib.hid (entries_any w2 _ _ _ gS (oS+k*7) f.sh[k] u1 u2 u3 (hcS 2 _ rfl) (hcS 3 _ rfl) (hcS 4 _ rfl) (hcS 5 _ rfl) (hcS 6 _ rfl) hu1 hu2 hu3)
   rw [h5] at HE
   clear hshow hrow hrsh h4 h5 h7 h8 h2 hidx hcS hu1 hu2 hu3 hks
   generalize hL:(Fl.entsC f.sh[k]).2=L at *
   clear hL
   have hkB:(k:Int)<(f.sh.length:Int):=by omega
   have hk0:(0:Int)<=(k:Int):=by omega
   have g02:w2.cell? ⟨w.heap.size,0,none⟩=some (.slice (some ⟨gS,oS,none⟩) f.sh.length cv):=hb32.cell 0
   have k02:w2.cell? ⟨w.heap.size+1,0,none⟩=some (.int .i64 (k:Int)):=hb42.cell 0
   have hri0:decide ((ri:Int)<0)=false:=decide_eq_false (by omega)
   go_wp2_with fail
   with_reducible refine HE.out.mono ?_
   rintro e w3 ⟨v3,rfl,hL3,hx3⟩
   obtain ⟨AL,cL,hv3,_,hcLm,_⟩:=hL3.shape
   unfold maxLen at hcLm
   subst hv3
   have hb63:=hb62.below hx3 hb62.lt
   have hx13:=hx12.trans (hx3.mono hx12.size)
   by_cases hin:0<=i/\i<(L.length:Int)
   · obtain ⟨j,hj⟩:∃ j:Nat,i=(j:Int):=⟨i.toNat,by omega⟩
     subst hj
     have hjL:j<L.length:=by omega
     obtain ⟨r,hr⟩:∃ r,f.book[ri]? = some r:=⟨_,List.getElem?_eq_getElem hri⟩
     have hrr:f.book[ri]=r:=by rw [List.getElem?_eq_getElem hri] at hr;injection hr
     obtain ⟨e0,he0⟩:∃ e,L[j]? = some e:=⟨_,List.getElem?_eq_getElem hjL⟩
     have hLe:L[j]=e0:=by rw [List.getElem?_eq_getElem hjL] at he0;injection he0
     have he200:e0.length<=140737488355000:=by have:=h6.2 e0 (List.mem_of_getElem? he0);omega
     have hr32:r.root.length<=140737488355000:=by rw [(hI.book r (List.mem_of_getElem? hr)).root];decide
     have HS:Hid (R=(0,⟨e0,(j:Int),(k:Int),Tr.path (L.map Tr.leafH) j,r,(ri:Int),Tr.path ((Bk.rows f.book).map Tr.leafH) ri,(f.book.length:Int),Fl.bookRoot f.book⟩)):=Lib.hid (by
      rw [HSH.out,if_neg (by omega)]
      unfold Fl.shown
      rw [Int.toNat_natCast,List.getD_eq_getElem?_getD,List.getD_eq_getElem?_getD,hr,he0]
      rfl)
     have hj0:(0:Int)<=(j:Int):=by omega
     have hjB:(j:Int)<(L.length:Int):=by omega
     go_wp2_with fail
     with_reducible refine (Path_fine w3 _ _ L (j:Int) hL3 h6 hj0 hjB).mono ?_
     rintro e w4 ⟨vP,rfl,hoP,hx4⟩
     rw [Int.toNat_natCast] at hoP
     obtain ⟨AP,cP,hvP,_,_,_⟩:=hoP.blist.shape
     obtain ⟨nP,hnP⟩:∃ n,(Tr.path (L.map Tr.leafH) j).length=n:=⟨_,rfl⟩
     rw [hnP] at hvP
     subst hvP
     clear hnP
     go_upto_region 10 with (fail)
     have hx5:=hx4.alloc hx4.size (.cells #[.int .i64 0,.int .i64 0] 32)
     have hbX:Blk (w4.alloc (.cells #[.int .i64 0,.int .i64 0] 32)) w4.heap.size 32 #[.int .i64 0,.int .i64 0]:=heap_alloc_new w4 _
     have hx45:=(Below.refl w4.heap.size w4).alloc (Nat.le_refl _) (.cells #[.int .i64 0,.int .i64 0] 32)
     have hs34:=hx4.size
     generalize w4.alloc (.cells #[.int .i64 0,.int .i64 0] 32)=w5 at *
     have hx25:=hx3.trans (hx5.mono hx3.size)
     have hbk5:=hbk2.below hx25
     have hb35:=hb32.below hx25 hb32.lt
     have x0:w5.cell? ⟨w4.heap.size,0,none⟩=some (.int .i64 0):=hbX.cell 0
     have x1:w5.cell? ⟨w4.heap.size,1,none⟩=some (.int .i64 0):=hbX.cell 1
     have g15:w5.cell? ⟨w.heap.size,1,none⟩=some (.slice Ab f.book.length cb):=hb35.cell 1
     have hri00:(0:Int)<=(ri:Int):=by omega
     have hriB:(ri:Int)<(f.book.length:Int):=by omega
     go_wp2_with fail
     with_reducible refine (BPath_fine w5 _ _ f.book (ri:Int) hbk5 hfB hri00 hriB).mono ?_
     rintro e w6 ⟨vB,rfl,hoB,hx6⟩
     rw [Int.toNat_natCast] at hoB
     obtain ⟨AB,cB,hvB,_,_,_⟩:=hoB.blist.shape
     obtain ⟨nB,hnB⟩:∃ n,(Tr.path ((Bk.rows f.book).map Tr.leafH) ri).length=n:=⟨_,rfl⟩
     rw [hnB] at hvB
     subst hvB
     clear hnB
     have hbX6:=hbX.below hx6 hbX.lt
     have x06:w6.cell? ⟨w4.heap.size,0,none⟩=some (.int .i64 0):=hbX6.cell 0
     have x16:w6.cell? ⟨w4.heap.size,1,none⟩=some (.int .i64 0):=hbX6.cell 1
     have y06:=hbX6.frozen 0
     have y16:=hbX6.frozen 1
     go_upto_region 13 with (fail)
     have hx46:=hx45.trans (hx6.mono hx45.size)
     have hx47:=below_set2 hx46 (Nat.le_refl _) (.int .i64 0) (.int .i64 0)
     have hx37:Below w3.heap.size w3 ((w6.setCell ⟨w4.heap.size,0,none⟩ (.int .i64 0)).setCell ⟨w4.heap.size,1,none⟩ (.int .i64 0)):=hx4.trans (hx47.mono hs34)
     have hneX:∀ b,w5.heap.size<=b->b≠w4.heap.size:=fun b hb=>by have:=hbX.lt;omega
     have hbX7:=hbX6.set2 (.int .i64 0) (.int .i64 0)
     have hoB7:RdL ((w6.setCell ⟨w4.heap.size,0,none⟩ (.int .i64 0)).setCell ⟨w4.heap.size,1,none⟩ (.int .i64 0)) (fun b=>w5.heap.size<=b) (.slice AB nB cB) (Tr.path ((Bk.rows f.book).map Tr.leafH) ri) :=
      (rdL_blist.2 (hoB.blist.weak fun _ _ h=>h.1)).keep (by simp) (fun b _ hb=>⟨hb,by rw [Below.heap_setCell _ _ _ b (hneX b hb),Below.heap_setCell _ _ _ b (hneX b hb)]⟩)
     have hs57:w5.heap.size<=((w6.setCell ⟨w4.heap.size,0,none⟩ (.int .i64 0)).setCell ⟨w4.heap.size,1,none⟩ (.int .i64 0)).heap.size:=by simpa using hx6.size
     generalize (w6.setCell ⟨w4.heap.size,0,none⟩ (.int .i64 0)).setCell ⟨w4.heap.size,1,none⟩ (.int .i64 0)=w7 at *
     have x07:w7.cell? ⟨w4.heap.size,0,none⟩=some (.int .i64 0):=hbX7.cell 0
     have hx27:=hx3.trans (hx37.mono hx3.size)
     have hbk7:=hbk2.below hx27
     have hb37:=hb32.below hx27 hb32.lt
     have g17:w7.cell? ⟨w.heap.size,1,none⟩=some (.slice Ab f.book.length cb):=hb37.cell 1
     clear x06 x16 y06 y16 x0 x1
     go_wp2_with fail
     with_reducible refine (Head_fine w7 _ _ f.book hbk7 hfB).mono ?_
     rintro e w8 ⟨vH,rfl,hoH,hx8⟩
     obtain ⟨AH,cH,hvH,_,_⟩:=Own.shape hoH
     obtain ⟨nH,hnH⟩:∃ n,(Tr.root ((Bk.rows f.book).map Tr.leafH)).length=n:=⟨_,rfl⟩
     rw [hnH] at hvH
     subst hvH
     clear hnH
     go_upto_region 16 with (fail)
     have hbH:Blk ((w8.alloc (.cells #[.int .i64 (f.book.length:Int),.slice AH nH cH] 39)).alloc (.cells #[.int .i64 0,.int .i64 0] 32)) w8.heap.size 39 #[.int .i64 (f.book.length:Int),.slice AH nH cH]:=Blk.alloc (heap_alloc_new w8 _) _
     have hx89:=((Below.refl w8.heap.size w8).alloc (Nat.le_refl _) (.cells #[.int .i64 (f.book.length:Int),.slice AH nH cH] 39)).alloc (by simp) (.cells #[.int .i64 0,.int .i64 0] 32)
     generalize ((w8.alloc (.cells #[.int .i64 (f.book.length:Int),.slice AH nH cH] 39)).alloc (.cells #[.int .i64 0,.int .i64 0] 32))=w9 at *
     have hx79:=hx8.trans (hx89.mono hx8.size)
     have hoH9:=OwnB.below hoH hx89
     generalize hgHe:w8.heap.size=gH at *
     have hx29:=hx27.trans (hx79.mono hx27.size)
     have hbk9:=hbk2.below hx29
     have hb39:=hb32.below hx29 hb32.lt
     have g19:w9.cell? ⟨w.heap.size,1,none⟩=some (.slice Ab f.book.length cb):=hb39.cell 1
     obtain ⟨gB,oB,cB',Ar,cr,hA1,_,hgB,q0,q1,q2,q3,q4,hq⟩:=rec_at hbk9 hri
     rw [hrr] at q0 q1 q2 q3 q4 hq
     injection hA1 with hA1 _ hA3
     subst hA1 hA3
     go_upto_region 17 with (fail)
     have hbR:Blk (w9.alloc (.cells #[.int .i64 r.sh,.int .i64 r.fr,.int .i64 r.to,.int .i64 r.sz,.slice Ar r.root.length cr] 61)) w9.heap.size 61 #[.int .i64 r.sh,.int .i64 r.fr,.int .i64 r.to,.int .i64 r.sz,.slice Ar r.root.length cr]:=heap_alloc_new w9 _
     have hx9A:=(Below.refl w9.heap.size w9).alloc (Nat.le_refl _) (.cells #[.int .i64 r.sh,.int .i64 r.fr,.int .i64 r.to,.int .i64 r.sz,.slice Ar r.root.length cr] 61)
     have hqA:=(rdL_bytes.2 hq).below hx9A
     generalize w9.alloc (.cells #[.int .i64 r.sh,.int .i64 r.fr,.int .i64 r.to,.int .i64 r.sz,.slice Ar r.root.length cr] 61)=wA at *
     have hs9:=hx79.size
     generalize hgRe:w9.heap.size=gR at *
     have t4:wA.cell? ⟨gR,4,none⟩=some (.slice Ar r.root.length cr):=hbR.cell 4
     go_wp2_with fail
     with_reducible refine (clone_any wA _ (.slice Ar r.root.length cr) r.root (rdL_bytes.1 hqA) hr32).mono ?_
     rintro e wB ⟨vR,rfl,hoR,hxB⟩
     obtain ⟨AR,cR,hvR,_,_⟩:=Own.shape hoR
     subst hvR
     have hbRB:=hbR.below hxB hbR.lt
     have t4B:wB.cell? ⟨gR,4,none⟩=some (.slice Ar r.root.length cr):=hbRB.cell 4
     have f4B:=hbRB.frozen 4
     go_upto_region 18 with (fail)
     have hx9B:=hx9A.trans (hxB.mono (by have:=hx9A.size;omega))
     have hx9S:=hx9B.setCell (p:=⟨gR,4,none⟩) (Nat.le_refl _) (.slice AR r.root.length cR)
     have hbRS:=hbRB.set_ 4 (.slice AR r.root.length cR)
     have hoRS:=Own.setCell (p:=⟨gR,4,none⟩) hoR (Own.ne_blk hoR hbRB (by decide)) (.slice AR r.root.length cR)
     generalize wB.setCell ⟨gR,4,none⟩ (.slice AR r.root.length cR)=wS at *
     have hx7S:=hx79.trans (hx9S.mono hs9)
     have hs37:=hx37.size
     have hx3S:=hx37.trans (hx7S.mono hs37)
     have hbS:=hb63.below hx3S hb63.lt
     have hb4S:=(hb42.below hx3 hb42.lt).below hx3S (by have:=hb42.lt;have:=hx3.size;omega)
     have hbHS:=hbH.below hx9S (by have:=hbH.lt;omega)
     have hLS:=hL3.below hx3S
     obtain ⟨gL,oL,uE,hAL,pE,hgLF,hgL,huE⟩:=BList.at_ hLS hjL
     subst hAL
     rw [hLe] at huE
     obtain ⟨AE,cE,huEe⟩:=huE.form
     subst huEe
     have hx4S:=hx47.trans (hx7S.mono hx47.size)
     have hPS:RdL wS (fun b=>w3.heap.size<=b) (.slice AP nP cP) (Tr.path (L.map Tr.leafH) j):=(rdL_blist.2 (hoP.blist.weak fun _ _ h=>h.1)).below hx4S
     have hBS:=hoB7.below hx7S
     have hHS:RdL wS (fun b=>w7.heap.size<=b) (.slice AH nH cH) (Fl.bookRoot f.book):=(rdL_bytes.2 ((OwnB.bytes hoH9).weak fun _ _ h=>h.1)).keep hx9S.size (fun b hb hF=>⟨hF,hx9S.block b (by omega)⟩)
     have hRS:RdL wS (fun b=>wA.heap.size<=b) (.slice AR r.root.length cR) r.root:=rdL_bytes.2 ((OwnB.bytes hoRS).weak fun _ _ h=>h.1)
     have hg63:g6<w3.heap.size:=hb63.lt
     have hgRS:=hbRS.lt
     have hgHS:=hbHS.lt
     have hg4S:=hb4S.lt
     have hn1:gR≠g6:=Blk.ne hbRS hbS (by decide)
     have hn2:gH≠g6:=Blk.ne hbHS hbS (by decide)
     have hn3:w.heap.size+1≠g6:=Blk.ne hb4S hbS (by decide)
     have hn4:gL≠g6:=hgLF.elim (fun h=>Nat.ne_of_lt (Nat.lt_of_lt_of_le h hg6w)) (fun h=>Nat.ne_of_gt (Nat.lt_of_lt_of_le hb62.lt h))
     have hSS:∀ z:World,(∀ b,b<wS.heap.size->z.heap[b]? = wS.heap[b]?)->(z.cell? ⟨gL,oL+j,none⟩=some (.slice AE e0.length cE)/\z.cell? ⟨w.heap.size+1,0,none⟩=some (.int .i64 (k:Int))/\z.cell? ⟨gR,0,none⟩=some (.int .i64 r.sh)/\z.cell? ⟨gR,1,none⟩=some (.int .i64 r.fr)/\z.cell? ⟨gR,2,none⟩=some (.int .i64 r.to)/\z.cell? ⟨gR,3,none⟩=some (.int .i64 r.sz)/\z.cell? ⟨gR,4,none⟩=some (.slice AR r.root.length cR)/\z.cell? ⟨gH,0,none⟩=some (.int .i64 (f.book.length:Int))/\z.cell? ⟨gH,1,none⟩=some (.slice AH nH cH)):=fun z hz=>⟨(World.cell?_of_block (hz gL hgL)).trans pE,(World.cell?_of_block (hz _ hg4S)).trans (hb4S.cell 0),(World.cell?_of_block (hz _ hgRS)).trans (hbRS.cell 0),(World.cell?_of_block (hz _ hgRS)).trans (hbRS.cell 1),(World.cell?_of_block (hz _ hgRS)).trans (hbRS.cell 2),(World.cell?_of_block (hz _ hgRS)).trans (hbRS.cell 3),(World.cell?_of_block (hz _ hgRS)).trans (hbRS.cell 4),(World.cell?_of_block (hz _ hgHS)).trans (hbHS.cell 0),(World.cell?_of_block (hz _ hgHS)).trans (hbHS.cell 1)⟩
     have hSF:∀ (z:World) (l:List Value),(z.cell? ⟨gL,oL+j,none⟩=some (.slice AE e0.length cE)/\z.cell? ⟨w.heap.size+1,0,none⟩=some (.int .i64 (k:Int))/\z.cell? ⟨gR,0,none⟩=some (.int .i64 r.sh)/\z.cell? ⟨gR,1,none⟩=some (.int .i64 r.fr)/\z.cell? ⟨gR,2,none⟩=some (.int .i64 r.to)/\z.cell? ⟨gR,3,none⟩=some (.int .i64 r.sz)/\z.cell? ⟨gR,4,none⟩=some (.slice AR r.root.length cR)/\z.cell? ⟨gH,0,none⟩=some (.int .i64 (f.book.length:Int))/\z.cell? ⟨gH,1,none⟩=some (.slice AH nH cH))->((setL z g6 0 l).cell? ⟨gL,oL+j,none⟩=some (.slice AE e0.length cE)/\(setL z g6 0 l).cell? ⟨w.heap.size+1,0,none⟩=some (.int .i64 (k:Int))/\(setL z g6 0 l).cell? ⟨gR,0,none⟩=some (.int .i64 r.sh)/\(setL z g6 0 l).cell? ⟨gR,1,none⟩=some (.int .i64 r.fr)/\(setL z g6 0 l).cell? ⟨gR,2,none⟩=some (.int .i64 r.to)/\(setL z g6 0 l).cell? ⟨gR,3,none⟩=some (.int .i64 r.sz)/\(setL z g6 0 l).cell? ⟨gR,4,none⟩=some (.slice AR r.root.length cR)/\(setL z g6 0 l).cell? ⟨gH,0,none⟩=some (.int .i64 (f.book.length:Int))/\(setL z g6 0 l).cell? ⟨gH,1,none⟩=some (.slice AH nH cH)):=fun z l h=>⟨(World.cell?_of_block (setL_far hn4 _ _ _)).trans h.1,(World.cell?_of_block (setL_far hn3 _ _ _)).trans h.2.1,(World.cell?_of_block (setL_far hn1 _ _ _)).trans h.2.2.1,(World.cell?_of_block (setL_far hn1 _ _ _)).trans h.2.2.2.1,(World.cell?_of_block (setL_far hn1 _ _ _)).trans h.2.2.2.2.1,(World.cell?_of_block (setL_far hn1 _ _ _)).trans h.2.2.2.2.2.1,(World.cell?_of_block (setL_far hn1 _ _ _)).trans h.2.2.2.2.2.2.1,(World.cell?_of_block (setL_far hn2 _ _ _)).trans h.2.2.2.2.2.2.2.1,(World.cell?_of_block (setL_far hn2 _ _ _)).trans h.2.2.2.2.2.2.2.2⟩
     have hj0:(0:Int)<=(j:Int):=by omega
     refine wp_region_held_drew (S:=(fun z:World=>z.cell? ⟨gL,oL+j,none⟩=some (.slice AE e0.length cE)/\z.cell? ⟨w.heap.size+1,0,none⟩=some (.int .i64 (k:Int))/\z.cell? ⟨gR,0,none⟩=some (.int .i64 r.sh)/\z.cell? ⟨gR,1,none⟩=some (.int .i64 r.fr)/\z.cell? ⟨gR,2,none⟩=some (.int .i64 r.to)/\z.cell? ⟨gR,3,none⟩=some (.int .i64 r.sz)/\z.cell? ⟨gR,4,none⟩=some (.slice AR r.root.length cR)/\z.cell? ⟨gH,0,none⟩=some (.int .i64 (f.book.length:Int))/\z.cell? ⟨gH,1,none⟩=some (.slice AH nH cH))) (by kernel_rfl) ?_ (fun hHeld=>?_)
     · exact hSS _ (fun _ _=>rfl)
     refine step_take (i:=0) (v:=?_) rfl (by kernel_rfl) (by kernel_rfl) (by kernel_rfl) (fun _ _ _ h=>h) (by rfl) ?yu1 (by assumption) ?_
     case yu1=>(intro w hSw;(try dsimp only at hSw);go_simp;(try with_reducible rfl))
     try simp only [Act.put,List.setIfInBounds_toArray,List.set_cons_zero,List.set_cons_succ]
     refine step_take (i:=1) (v:=?_) rfl (by kernel_rfl) (by kernel_rfl) (by kernel_rfl) (fun _ _ _ h=>h) (by rfl) ?yu2 (by assumption) ?_
     case yu2=>(intro w hSw;(try dsimp only at hSw);go_simp;(try with_reducible rfl))
     try simp only [Act.put,List.setIfInBounds_toArray,List.set_cons_zero,List.set_cons_succ]
     refine step_take (i:=2) (v:=?_) rfl (by kernel_rfl) (by kernel_rfl) (by kernel_rfl) (fun _ _ _ h=>h) (by rfl) ?yu3 (by assumption) ?_
     case yu3=>(intro w hSw;(try dsimp only at hSw);go_simp;(try with_reducible rfl))
     try simp only [Act.put,List.setIfInBounds_toArray,List.set_cons_zero,List.set_cons_succ]
     refine step_take (i:=3) (v:=?_) rfl (by kernel_rfl) (by kernel_rfl) (by kernel_rfl) (fun _ _ _ h=>h) (by rfl) ?yu4 (by assumption) ?_
     case yu4=>(intro w hSw;(try dsimp only at hSw);go_simp;(try with_reducible rfl))
     try simp only [Act.put,List.setIfInBounds_toArray,List.set_cons_zero,List.set_cons_succ]
     refine step_take (i:=5) (v:=?_) rfl (by kernel_rfl) (by kernel_rfl) (by kernel_rfl) (fun _ _ _ h=>h) (by rfl) ?yu5 (by assumption) ?_
     case yu5=>(intro w hSw;(try dsimp only at hSw);go_simp;(try with_reducible rfl))
     try simp only [Act.put,List.setIfInBounds_toArray,List.set_cons_zero,List.set_cons_succ]
     refine step_take (i:=6) (v:=?_) rfl (by kernel_rfl) (by kernel_rfl) (by kernel_rfl) (fun _ _ _ h=>h) (by rfl) ?yu6 (by assumption) ?_
     case yu6=>(intro w hSw;(try dsimp only at hSw);go_simp;(try with_reducible rfl))
     try simp only [Act.put,List.setIfInBounds_toArray,List.set_cons_zero,List.set_cons_succ]
     refine step_take (i:=7) (v:=?_) rfl (by kernel_rfl) (by kernel_rfl) (by kernel_rfl) (fun _ _ _ h=>h) (by rfl) ?yu7 (by assumption) ?_
     case yu7=>(intro w hSw;(try dsimp only at hSw);go_simp;(try with_reducible rfl))
     try simp only [Act.put,List.setIfInBounds_toArray,List.set_cons_zero,List.set_cons_succ]
     refine step_take (i:=8) (v:=?_) rfl (by kernel_rfl) (by kernel_rfl) (by kernel_rfl) (fun _ _ _ h=>h) (by rfl) ?yu8 (by assumption) ?_
     case yu8=>(intro w hSw;(try dsimp only at hSw);go_simp;(try with_reducible rfl))
     try simp only [Act.put,List.setIfInBounds_toArray,List.set_cons_zero,List.set_cons_succ]
     refine step_take (i:=9) (v:=?_) rfl (by kernel_rfl) (by kernel_rfl) (by kernel_rfl) (fun _ _ _ h=>h) (by rfl) ?yu9 (by assumption) ?_
     case yu9=>(intro w hSw;(try dsimp only at hSw);go_simp;(try with_reducible rfl))
     try simp only [Act.put,List.setIfInBounds_toArray,List.set_cons_zero,List.set_cons_succ]
     refine step_take (i:=10) (v:=?_) rfl (by kernel_rfl) (by kernel_rfl) (by kernel_rfl) (fun _ _ _ h=>h) (by rfl) ?yu10 (by assumption) ?_
     case yu10=>(intro w hSw;(try dsimp only at hSw);go_simp;(try with_reducible rfl))
     try simp only [Act.put,List.setIfInBounds_toArray,List.set_cons_zero,List.set_cons_succ]
     refine step_take (i:=11) (v:=?_) rfl (by kernel_rfl) (by kernel_rfl) (by kernel_rfl) (fun _ _ _ h=>h) (by rfl) ?yu11 (by assumption) ?_
     case yu11=>(intro w hSw;(try dsimp only at hSw);go_simp;(try with_reducible rfl))
     try simp only [Act.put,List.setIfInBounds_toArray,List.set_cons_zero,List.set_cons_succ]
     refine step_alone 4 rfl (by kernel_rfl) (by rfl) (fun K hK=>?_)
     go_simp
     refine (clone_any wS.drew _ (.slice AE e0.length cE) e0 (huE.drewN 1) he200).mono ?_
     rintro e wT ⟨v10,rfl,hoT,hxT⟩
     obtain ⟨AC,cC,hv10,_,_⟩:=Own.shape hoT
     subst hv10
     have hxT':Below wS.heap.size wS wT:=Below.trans ((Below.refl wS.heap.size wS).drew) hxT
     have hbT:=hbS.below hxT' hbS.lt
     have hS10:=hSS wT (fun b hb=>hxT'.block b hb)
     have c10_0:wT.cell? ⟨g6,0,none⟩=some (.slice none 0 0):=hbT.cell 0
     have f10_0:=hbT.frozen 0
     have c10_1:wT.cell? ⟨g6,1,none⟩=some (.int .i64 0):=hbT.cell 1
     have f10_1:=hbT.frozen 1
     have c10_2:wT.cell? ⟨g6,2,none⟩=some (.int .i64 0):=hbT.cell 2
     have f10_2:=hbT.frozen 2
     have c10_3:wT.cell? ⟨g6,3,none⟩=some (.slice none 0 0):=hbT.cell 3
     have f10_3:=hbT.frozen 3
     have c10_4:wT.cell? ⟨g6,4,none⟩=some (.int .i64 0):=hbT.cell 4
     have f10_4:=hbT.frozen 4
     have c10_5:wT.cell? ⟨g6,5,none⟩=some (.int .i64 0):=hbT.cell 5
     have f10_5:=hbT.frozen 5
     have c10_6:wT.cell? ⟨g6,6,none⟩=some (.int .i64 0):=hbT.cell 6
     have f10_6:=hbT.frozen 6
     have c10_7:wT.cell? ⟨g6,7,none⟩=some (.int .i64 0):=hbT.cell 7
     have f10_7:=hbT.frozen 7
     have c10_8:wT.cell? ⟨g6,8,none⟩=some (.slice none 0 0):=hbT.cell 8
     have f10_8:=hbT.frozen 8
     have c10_9:wT.cell? ⟨g6,9,none⟩=some (.int .i64 0):=hbT.cell 9
     have f10_9:=hbT.frozen 9
     have c10_10:wT.cell? ⟨g6,10,none⟩=some (.slice none 0 0):=hbT.cell 10
     have f10_10:=hbT.frozen 10
     have c10_11:wT.cell? ⟨g6,11,none⟩=some (.int .i64 0):=hbT.cell 11
     have f10_11:=hbT.frozen 11
     have c10_12:wT.cell? ⟨g6,12,none⟩=some (.slice none 0 0):=hbT.cell 12
     have f10_12:=hbT.frozen 12
     go_simp
     refine hK.out _ _ ?_ (fun hHeld=>?_)
     · exact hS10
     clear hK K
     try simp only [Act.put,List.setIfInBounds_toArray,List.set_cons_zero,List.set_cons_succ]
     refine step_take (i:=12) (v:=?_) rfl (by kernel_rfl) (by kernel_rfl) (by kernel_rfl) (fun _ _ _ h=>h) (by rfl) ?yu13 (by assumption) ?_
     case yu13=>(intro w hSw;(try dsimp only at hSw);go_simp;(try with_reducible rfl))
     try simp only [Act.put,List.setIfInBounds_toArray,List.set_cons_zero,List.set_cons_succ]
     refine step_alone 13 rfl (by kernel_rfl) (by rfl) (fun K hK=>?_)
     go_simp
     have hW:setL wT g6 0 [.slice AC e0.length cC,.int .i64 (j:Int),.int .i64 (k:Int),.slice AP nP cP,.int .i64 r.sh,.int .i64 r.fr,.int .i64 r.to,.int .i64 r.sz,.slice AR r.root.length cR,.int .i64 (ri:Int),.slice AB nB cB,.int .i64 (f.book.length:Int),.slice AH nH cH]=(((((((((((((wT.setCell ⟨g6,0,none⟩ (.slice AC e0.length cC)).setCell ⟨g6,1,none⟩ (.int .i64 (j:Int))).setCell ⟨g6,2,none⟩ (.int .i64 (k:Int))).setCell ⟨g6,3,none⟩ (.slice AP nP cP)).setCell ⟨g6,4,none⟩ (.int .i64 r.sh)).setCell ⟨g6,5,none⟩ (.int .i64 r.fr)).setCell ⟨g6,6,none⟩ (.int .i64 r.to)).setCell ⟨g6,7,none⟩ (.int .i64 r.sz)).setCell ⟨g6,8,none⟩ (.slice AR r.root.length cR)).setCell ⟨g6,9,none⟩ (.int .i64 (ri:Int))).setCell ⟨g6,10,none⟩ (.slice AB nB cB)).setCell ⟨g6,11,none⟩ (.int .i64 (f.book.length:Int))).setCell ⟨g6,12,none⟩ (.slice AH nH cH)):=rfl
     rw [<-hW]
     clear hW
     refine hK.out _ _ ?_ (fun hHeld=>?_)
     · exact hSF _ _ hS10
     clear hK K
     try simp only [Act.put,List.setIfInBounds_toArray,List.set_cons_zero,List.set_cons_succ]
     refine step_take (i:=14) (v:=?_) rfl (by kernel_rfl) (by kernel_rfl) (by kernel_rfl) (fun _ _ _ h=>h) (by rfl) ?yu15 (by assumption) ?_
     case yu15=>(intro w hSw;(try dsimp only at hSw);go_simp;(try with_reducible rfl))
     try simp only [Act.put,List.setIfInBounds_toArray,List.set_cons_zero,List.set_cons_succ]
     refine wpAnyH_done (by kernel_rfl) ?_ _
     have hx1T:Below w.heap.size w wT:=(hx13.trans (hx3S.mono hx13.size)).trans (hxT'.mono (by have:=hx13.size;have:=hx3S.size;omega))
     go_wp2_with fail
     have hbe:Blk (setL wT g6 0 [.slice AC e0.length cC,.int .i64 (j:Int),.int .i64 (k:Int),.slice AP nP cP,.int .i64 r.sh,.int .i64 r.fr,.int .i64 r.to,.int .i64 r.sz,.slice AR r.root.length cR,.int .i64 (ri:Int),.slice AB nB cB,.int .i64 (f.book.length:Int),.slice AH nH cH]) (g6) 89 #[.slice AC e0.length cC,.int .i64 (j:Int),.int .i64 (k:Int),.slice AP nP cP,.int .i64 r.sh,.int .i64 r.fr,.int .i64 r.to,.int .i64 r.sz,.slice AR r.root.length cR,.int .i64 (ri:Int),.slice AB nB cB,.int .i64 (f.book.length:Int),.slice AH nH cH]:=setL_blk [.slice AC e0.length cC,.int .i64 (j:Int),.int .i64 (k:Int),.slice AP nP cP,.int .i64 r.sh,.int .i64 r.fr,.int .i64 r.to,.int .i64 r.sz,.slice AR r.root.length cR,.int .i64 (ri:Int),.slice AB nB cB,.int .i64 (f.book.length:Int),.slice AH nH cH] [.slice none 0 0,.int .i64 0,.int .i64 0,.slice none 0 0,.int .i64 0,.int .i64 0,.int .i64 0,.int .i64 0,.slice none 0 0,.int .i64 0,.slice none 0 0,.int .i64 0,.slice none 0 0] [] wT rfl hbT
     have hxe:Below w.heap.size w (setL wT g6 0 [.slice AC e0.length cC,.int .i64 (j:Int),.int .i64 (k:Int),.slice AP nP cP,.int .i64 r.sh,.int .i64 r.fr,.int .i64 r.to,.int .i64 r.sz,.slice AR r.root.length cR,.int .i64 (ri:Int),.slice AB nB cB,.int .i64 (f.book.length:Int),.slice AH nH cH]):=setL_below hg6w _ _ _ hx1T
     have hTS:Below wS.heap.size wS wT:=hxT'
     have hw3w:w.heap.size<=w3.heap.size:=hx13.size
     have hwSw:w.heap.size<=wS.heap.size:=(hx13.trans (hx3S.mono hx13.size)).size
     have hrd:Rp.rd (setL wT g6 0 [.slice AC e0.length cC,.int .i64 (j:Int),.int .i64 (k:Int),.slice AP nP cP,.int .i64 r.sh,.int .i64 r.fr,.int .i64 r.to,.int .i64 r.sz,.slice AR r.root.length cR,.int .i64 (ri:Int),.slice AB nB cB,.int .i64 (f.book.length:Int),.slice AH nH cH]) (fun b=>w.heap.size<=b) [.slice AC e0.length cC,.int .i64 (j:Int),.int .i64 (k:Int),.slice AP nP cP,.int .i64 r.sh,.int .i64 r.fr,.int .i64 r.to,.int .i64 r.sz,.slice AR r.root.length cR,.int .i64 (ri:Int),.slice AB nB cB,.int .i64 (f.book.length:Int),.slice AH nH cH] (⟨e0,(j:Int),(k:Int),Tr.path (L.map Tr.leafH) j,r,(ri:Int),Tr.path ((Bk.rows f.book).map Tr.leafH) ri,(f.book.length:Int),Fl.bookRoot f.book⟩:Shw):=by
      have q1:=((rdL_bytes.2 (OwnB.bytes hoT)).setL (g:=g6) (i:=0) (cs:=[.slice AC e0.length cC,.int .i64 (j:Int),.int .i64 (k:Int),.slice AP nP cP,.int .i64 r.sh,.int .i64 r.fr,.int .i64 r.to,.int .i64 r.sz,.slice AR r.root.length cR,.int .i64 (ri:Int),.slice AB nB cB,.int .i64 (f.book.length:Int),.slice AH nH cH]) (fun b hb=>by have h1:wS.heap.size<=b:=hb.1;have:=hbS.lt;omega)).weak (F':=fun b=>w.heap.size<=b) (fun b _ hb=>by have h1:wS.heap.size<=b:=hb.1;omega)
      have q2:=((hPS.below hTS).setL (g:=g6) (i:=0) (cs:=[.slice AC e0.length cC,.int .i64 (j:Int),.int .i64 (k:Int),.slice AP nP cP,.int .i64 r.sh,.int .i64 r.fr,.int .i64 r.to,.int .i64 r.sz,.slice AR r.root.length cR,.int .i64 (ri:Int),.slice AB nB cB,.int .i64 (f.book.length:Int),.slice AH nH cH]) (fun b hb=>by omega)).weak (F':=fun b=>w.heap.size<=b) (fun b _ hb=>by have h1:w3.heap.size<=b:=hb;omega)
      have q3:=((hRS.below hTS).setL (g:=g6) (i:=0) (cs:=[.slice AC e0.length cC,.int .i64 (j:Int),.int .i64 (k:Int),.slice AP nP cP,.int .i64 r.sh,.int .i64 r.fr,.int .i64 r.to,.int .i64 r.sz,.slice AR r.root.length cR,.int .i64 (ri:Int),.slice AB nB cB,.int .i64 (f.book.length:Int),.slice AH nH cH]) (fun b hb=>by have:=hx37.size;have:=hx79.size;have:=hx9A.size;omega)).weak (F':=fun b=>w.heap.size<=b) (fun b _ hb=>by have h1:wA.heap.size<=b:=hb;have:=hx37.size;have:=hx79.size;have:=hx9A.size;omega)
      have q4:=((hBS.below hTS).setL (g:=g6) (i:=0) (cs:=[.slice AC e0.length cC,.int .i64 (j:Int),.int .i64 (k:Int),.slice AP nP cP,.int .i64 r.sh,.int .i64 r.fr,.int .i64 r.to,.int .i64 r.sz,.slice AR r.root.length cR,.int .i64 (ri:Int),.slice AB nB cB,.int .i64 (f.book.length:Int),.slice AH nH cH]) (fun b hb=>by have:=hx4.size;have:=hx45.size;omega)).weak (F':=fun b=>w.heap.size<=b) (fun b _ hb=>by have h1:w5.heap.size<=b:=hb;have:=hx4.size;have:=hx45.size;omega)
      have q5:=((hHS.below hTS).setL (g:=g6) (i:=0) (cs:=[.slice AC e0.length cC,.int .i64 (j:Int),.int .i64 (k:Int),.slice AP nP cP,.int .i64 r.sh,.int .i64 r.fr,.int .i64 r.to,.int .i64 r.sz,.slice AR r.root.length cR,.int .i64 (ri:Int),.slice AB nB cB,.int .i64 (f.book.length:Int),.slice AH nH cH]) (fun b hb=>by omega)).weak (F':=fun b=>w.heap.size<=b) (fun b _ hb=>by have h1:w7.heap.size<=b:=hb;have:=hx37.size;omega)
      exact shw_rd (s:=⟨e0,(j:Int),(k:Int),Tr.path (L.map Tr.leafH) j,r,(ri:Int),Tr.path ((Bk.rows f.book).map Tr.leafH) ri,(f.book.length:Int),Fl.bookRoot f.book⟩) (rdL_bytes.1 q1) (rdL_blist.1 q2) (rdL_bytes.1 q3) (rdL_blist.1 q4) (rdL_bytes.1 q5)
     generalize setL wT g6 0 [.slice AC e0.length cC,.int .i64 (j:Int),.int .i64 (k:Int),.slice AP nP cP,.int .i64 r.sh,.int .i64 r.fr,.int .i64 r.to,.int .i64 r.sz,.slice AR r.root.length cR,.int .i64 (ri:Int),.slice AB nB cB,.int .i64 (f.book.length:Int),.slice AH nH cH]=W at *
     have s0:W.cell? ⟨g6,0,none⟩=some (.slice AC e0.length cC):=hbe.cell 0
     have s1:W.cell? ⟨g6,1,none⟩=some (.int .i64 (j:Int)):=hbe.cell 1
     have s2:W.cell? ⟨g6,2,none⟩=some (.int .i64 (k:Int)):=hbe.cell 2
     have s3:W.cell? ⟨g6,3,none⟩=some (.slice AP nP cP):=hbe.cell 3
     have s4:W.cell? ⟨g6,4,none⟩=some (.int .i64 r.sh):=hbe.cell 4
     have s5:W.cell? ⟨g6,5,none⟩=some (.int .i64 r.fr):=hbe.cell 5
     have s6:W.cell? ⟨g6,6,none⟩=some (.int .i64 r.to):=hbe.cell 6
     have s7:W.cell? ⟨g6,7,none⟩=some (.int .i64 r.sz):=hbe.cell 7
     have s8:W.cell? ⟨g6,8,none⟩=some (.slice AR r.root.length cR):=hbe.cell 8
     have s9:W.cell? ⟨g6,9,none⟩=some (.int .i64 (ri:Int)):=hbe.cell 9
     have s10:W.cell? ⟨g6,10,none⟩=some (.slice AB nB cB):=hbe.cell 10
     have s11:W.cell? ⟨g6,11,none⟩=some (.int .i64 (f.book.length:Int)):=hbe.cell 11
     have s12:W.cell? ⟨g6,12,none⟩=some (.slice AH nH cH):=hbe.cell 12
     exact bodyPost_ret (v:=.tuple #[.agg #[.slice AC e0.length cC,.int .i64 (j:Int),.int .i64 (k:Int),.slice AP nP cP,.int .i64 r.sh,.int .i64 r.fr,.int .i64 r.to,.int .i64 r.sz,.slice AR r.root.length cR,.int .i64 (ri:Int),.slice AB nB cB,.int .i64 (f.book.length:Int),.slice AH nH cH],.int .i64 0]) (by simp [results,Try.results69,go_sem,s0,s1,s2,s3,s4,s5,s6,s7,s8,s9,s10,s11,s12]) rfl (by rw [HS.out];exact ⟨[.slice AC e0.length cC,.int .i64 (j:Int),.int .i64 (k:Int),.slice AP nP cP,.int .i64 r.sh,.int .i64 r.fr,.int .i64 r.to,.int .i64 r.sz,.slice AR r.root.length cR,.int .i64 (ri:Int),.slice AB nB cB,.int .i64 (f.book.length:Int),.slice AH nH cH],rfl,hrd,hxe⟩)
   · have HS:Hid (R=(6,Fl.zeroS)):=Lib.hid (by rw [HSH.out,if_pos (by omega)])
     go_wp2_with fail
     with_reducible refine (Path_none w3 _ _ L i hL3 h6 hin).mono ?_
     rintro e w5 ⟨rfl,hx5⟩
     go_upto_region 11 with (fail)
     have hx6:=hx5.alloc hx5.size (.cells #[.int .i64 6,.int .i64 0] 32)
     have hflt:Blk (w5.alloc (.cells #[.int .i64 6,.int .i64 0] 32)) w5.heap.size 32 #[.int .i64 6,.int .i64 0]:=heap_alloc_new w5 _
     generalize w5.alloc (.cells #[.int .i64 6,.int .i64 0] 32)=w6 at *
     generalize w5.heap.size=gE at *
     have hb66:=hb63.below hx6 hb63.lt
     have hx16:=hx13.trans (hx6.mono hx13.size)
     have l0:w6.cell? ⟨gE,0,none⟩=some (.int .i64 6):=hflt.cell 0
     have hnE:gE≠g6:=Blk.ne hflt hb66 (by decide)
     have z0:w6.cell? ⟨g6,0,none⟩=some (.slice none 0 0):=hb66.cell 0
     have zf0:=hb66.frozen 0
     have z1:w6.cell? ⟨g6,1,none⟩=some (.int .i64 0):=hb66.cell 1
     have zf1:=hb66.frozen 1
     have z2:w6.cell? ⟨g6,2,none⟩=some (.int .i64 0):=hb66.cell 2
     have zf2:=hb66.frozen 2
     have z3:w6.cell? ⟨g6,3,none⟩=some (.slice none 0 0):=hb66.cell 3
     have zf3:=hb66.frozen 3
     have z4:w6.cell? ⟨g6,4,none⟩=some (.int .i64 0):=hb66.cell 4
     have zf4:=hb66.frozen 4
     have z5:w6.cell? ⟨g6,5,none⟩=some (.int .i64 0):=hb66.cell 5
     have zf5:=hb66.frozen 5
     have z6:w6.cell? ⟨g6,6,none⟩=some (.int .i64 0):=hb66.cell 6
     have zf6:=hb66.frozen 6
     have z7:w6.cell? ⟨g6,7,none⟩=some (.int .i64 0):=hb66.cell 7
     have zf7:=hb66.frozen 7
     have z8:w6.cell? ⟨g6,8,none⟩=some (.slice none 0 0):=hb66.cell 8
     have zf8:=hb66.frozen 8
     have z9:w6.cell? ⟨g6,9,none⟩=some (.int .i64 0):=hb66.cell 9
     have zf9:=hb66.frozen 9
     have z10:w6.cell? ⟨g6,10,none⟩=some (.slice none 0 0):=hb66.cell 10
     have zf10:=hb66.frozen 10
     have z11:w6.cell? ⟨g6,11,none⟩=some (.int .i64 0):=hb66.cell 11
     have zf11:=hb66.frozen 11
     have z12:w6.cell? ⟨g6,12,none⟩=some (.slice none 0 0):=hb66.cell 12
     have zf12:=hb66.frozen 12
     refine wp_region_held_drew (S:=(fun z:World=>z.cell? ⟨gE,0,none⟩=some (.int .i64 6))) (by kernel_rfl) ?_ (fun hHeld=>?_)
     · exact l0
     refine step_take (i:=0) (v:=?_) rfl (by kernel_rfl) (by kernel_rfl) (by kernel_rfl) (fun _ _ _ h=>h) (by rfl) ?yv1 (by assumption) ?_
     case yv1=>(intro w hSw;(try dsimp only at hSw);go_simp;(try with_reducible rfl))
     try simp only [Act.put,List.setIfInBounds_toArray,List.set_cons_zero,List.set_cons_succ]
     refine step_take (i:=1) (v:=?_) rfl (by kernel_rfl) (by kernel_rfl) (by kernel_rfl) (fun _ _ _ h=>h) (by rfl) ?yv2 (by assumption) ?_
     case yv2=>(intro w hSw;(try dsimp only at hSw);go_simp;(try with_reducible rfl))
     try simp only [Act.put,List.setIfInBounds_toArray,List.set_cons_zero,List.set_cons_succ]
     refine step_take (i:=2) (v:=?_) rfl (by kernel_rfl) (by kernel_rfl) (by kernel_rfl) (fun _ _ _ h=>h) (by rfl) ?yv3 (by assumption) ?_
     case yv3=>(intro w hSw;(try dsimp only at hSw);go_simp;(try with_reducible rfl))
     try simp only [Act.put,List.setIfInBounds_toArray,List.set_cons_zero,List.set_cons_succ]
     refine step_alone 3 rfl (by kernel_rfl) (by rfl) (fun K hK=>?_)
     go_simp
     have hW:setL w6 g6 0 [.slice none 0 0,.int .i64 0,.int .i64 0,.slice none 0 0,.int .i64 0,.int .i64 0,.int .i64 0,.int .i64 0,.slice none 0 0,.int .i64 0,.slice none 0 0,.int .i64 0,.slice none 0 0]=(((((((((((((w6.setCell ⟨g6,0,none⟩ (.slice none 0 0)).setCell ⟨g6,1,none⟩ (.int .i64 0)).setCell ⟨g6,2,none⟩ (.int .i64 0)).setCell ⟨g6,3,none⟩ (.slice none 0 0)).setCell ⟨g6,4,none⟩ (.int .i64 0)).setCell ⟨g6,5,none⟩ (.int .i64 0)).setCell ⟨g6,6,none⟩ (.int .i64 0)).setCell ⟨g6,7,none⟩ (.int .i64 0)).setCell ⟨g6,8,none⟩ (.slice none 0 0)).setCell ⟨g6,9,none⟩ (.int .i64 0)).setCell ⟨g6,10,none⟩ (.slice none 0 0)).setCell ⟨g6,11,none⟩ (.int .i64 0)).setCell ⟨g6,12,none⟩ (.slice none 0 0)):=rfl
     rw [<-hW]
     clear hW
     refine hK.out _ _ ?_ (fun hHeld=>?_)
     · exact (World.cell?_of_block (setL_far hnE _ _ _)).trans l0
     clear hK K
     try simp only [Act.put,List.setIfInBounds_toArray,List.set_cons_zero,List.set_cons_succ]
     refine step_take (i:=4) (v:=?_) rfl (by kernel_rfl) (by kernel_rfl) (by kernel_rfl) (fun _ _ _ h=>h) (by rfl) ?yv5 (by assumption) ?_
     case yv5=>(intro w hSw;(try dsimp only at hSw);go_simp;(try with_reducible rfl))
     try simp only [Act.put,List.setIfInBounds_toArray,List.set_cons_zero,List.set_cons_succ]
     refine wpAnyH_done (by kernel_rfl) ?_ _
     go_wp2_with fail
     have hbe:Blk ((setL w6 g6 0 [.slice none 0 0,.int .i64 0,.int .i64 0,.slice none 0 0,.int .i64 0,.int .i64 0,.int .i64 0,.int .i64 0,.slice none 0 0,.int .i64 0,.slice none 0 0,.int .i64 0,.slice none 0 0]).drew) (g6) 89 #[.slice none 0 0,.int .i64 0,.int .i64 0,.slice none 0 0,.int .i64 0,.int .i64 0,.int .i64 0,.int .i64 0,.slice none 0 0,.int .i64 0,.slice none 0 0,.int .i64 0,.slice none 0 0]:=blk_drew (setL_blk [.slice none 0 0,.int .i64 0,.int .i64 0,.slice none 0 0,.int .i64 0,.int .i64 0,.int .i64 0,.int .i64 0,.slice none 0 0,.int .i64 0,.slice none 0 0,.int .i64 0,.slice none 0 0] [.slice none 0 0,.int .i64 0,.int .i64 0,.slice none 0 0,.int .i64 0,.int .i64 0,.int .i64 0,.int .i64 0,.slice none 0 0,.int .i64 0,.slice none 0 0,.int .i64 0,.slice none 0 0] [] w6 rfl hb66)
     have hxe:Below w.heap.size w ((setL w6 g6 0 [.slice none 0 0,.int .i64 0,.int .i64 0,.slice none 0 0,.int .i64 0,.int .i64 0,.int .i64 0,.int .i64 0,.slice none 0 0,.int .i64 0,.slice none 0 0,.int .i64 0,.slice none 0 0]).drew):=(setL_below hg6w _ _ _ hx16).drew
     have hrd:=zeroS_rd ((setL w6 g6 0 [.slice none 0 0,.int .i64 0,.int .i64 0,.slice none 0 0,.int .i64 0,.int .i64 0,.int .i64 0,.int .i64 0,.slice none 0 0,.int .i64 0,.slice none 0 0,.int .i64 0,.slice none 0 0]).drew) (fun b=>w.heap.size<=b)
     generalize (setL w6 g6 0 [.slice none 0 0,.int .i64 0,.int .i64 0,.slice none 0 0,.int .i64 0,.int .i64 0,.int .i64 0,.int .i64 0,.slice none 0 0,.int .i64 0,.slice none 0 0,.int .i64 0,.slice none 0 0]).drew=W at *
     have s0:W.cell? ⟨g6,0,none⟩=some (.slice none 0 0):=hbe.cell 0
     have s1:W.cell? ⟨g6,1,none⟩=some (.int .i64 0):=hbe.cell 1
     have s2:W.cell? ⟨g6,2,none⟩=some (.int .i64 0):=hbe.cell 2
     have s3:W.cell? ⟨g6,3,none⟩=some (.slice none 0 0):=hbe.cell 3
     have s4:W.cell? ⟨g6,4,none⟩=some (.int .i64 0):=hbe.cell 4
     have s5:W.cell? ⟨g6,5,none⟩=some (.int .i64 0):=hbe.cell 5
     have s6:W.cell? ⟨g6,6,none⟩=some (.int .i64 0):=hbe.cell 6
     have s7:W.cell? ⟨g6,7,none⟩=some (.int .i64 0):=hbe.cell 7
     have s8:W.cell? ⟨g6,8,none⟩=some (.slice none 0 0):=hbe.cell 8
     have s9:W.cell? ⟨g6,9,none⟩=some (.int .i64 0):=hbe.cell 9
     have s10:W.cell? ⟨g6,10,none⟩=some (.slice none 0 0):=hbe.cell 10
     have s11:W.cell? ⟨g6,11,none⟩=some (.int .i64 0):=hbe.cell 11
     have s12:W.cell? ⟨g6,12,none⟩=some (.slice none 0 0):=hbe.cell 12
     exact bodyPost_ret (v:=.tuple #[.agg #[.slice none 0 0,.int .i64 0,.int .i64 0,.slice none 0 0,.int .i64 0,.int .i64 0,.int .i64 0,.int .i64 0,.slice none 0 0,.int .i64 0,.slice none 0 0,.int .i64 0,.slice none 0 0],.int .i64 6]) (by simp [results,Try.results69,go_sem,s0,s1,s2,s3,s4,s5,s6,s7,s8,s9,s10,s11,s12]) rfl (by rw [HS.out];exact ⟨[.slice none 0 0,.int .i64 0,.int .i64 0,.slice none 0 0,.int .i64 0,.int .i64 0,.int .i64 0,.int .i64 0,.slice none 0 0,.int .i64 0,.slice none 0 0,.int .i64 0,.slice none 0 0],rfl,hrd,hxe⟩)
theorem show_any (w:World) (F F':Nat->Prop) (vs vb:Value) (f:Flt) (kk i:Int) (hsh:RdL w F vs f.sh) (hbk:RdL w F' vb f.book) (hI:Fl.Inv f) :
 Calls Try.prog 69 #[.agg #[vs,vb],.int .i64 kk,.int .i64 i] w (ShowP w (Fl.showC f kk i)) :=
 (show_own w F F' vs vb f kk i hsh hbk hI).mono fun _ _ ⟨cs,h1,h2,h3⟩=>⟨cs,h1,Rp.top h2,h3⟩
end Go.Proofs.Ytfdibjgmbdkbcaa
namespace Go.Proofs.Ytfdibjgmbdkbcaa
open Go.RowKit Go.Lib
set_option maxRecDepth 100000 in
set_option maxHeartbeats 4000000 in
theorem check_any (w:World) (F F':Nat->Prop) (cs:List Value) (s:Shw) (hsz:Int) (hroot:Bs) (hv:Value) (hrd:Rp.rd w F cs s) (hh:Bytes w F' hv hroot) :
 Calls Try.prog 72 #[.agg cs.toArray,.agg #[.int .i64 hsz,hv]] w fun e w'=>e = .returned (.bool (Fl.checkC s hsz hroot))/\Below w.heap.size w w':=by
 obtain ⟨c1,c1',rfl,⟨ev,h1',h1⟩,c2,c2',rfl,h2,c3,c3',rfl,h3,c4,c4',rfl,⟨pv,h4',h4⟩,c5,c5',rfl,⟨r1,r1',rfl,e1,r2,r2',rfl,e2,r3,r3',rfl,e3,r4,r5,rfl,e4,rv,e5',e5⟩,c6,c6',rfl,h6,c7,c8,rfl,⟨bpv,h7',h7⟩,k1,k2,rfl,h8,hv2,h9',h9⟩:=hrd
 have e2':c2=[.int .i64 s.place]:=h2
 have e3':c3=[.int .i64 s.shard]:=h3
 have f1':r1=[.int .i64 s.rcd.sh]:=e1
 have f2':r2=[.int .i64 s.rcd.fr]:=e2
 have f3':r3=[.int .i64 s.rcd.to]:=e3
 have f4':r4=[.int .i64 s.rcd.sz]:=e4
 have e6':c6=[.int .i64 s.row]:=h6
 have e8':k1=[.int .i64 s.hsz]:=h8
 subst h1' e2' e3' h4' f1' f2' f3' f4' e5' e6' h7' e8' h9'
 have b1:=rdL_bytes.1 h1
 have b4:=rdL_blist.1 h4
 have b5:=rdL_bytes.1 e5
 have b7:=rdL_blist.1 h7
 have b9:=rdL_bytes.1 h9
 clear h1 h2 h3 h4 e1 e2 e3 e4 e5 h6 h7 h8 h9
 obtain ⟨AE,cE,rfl⟩:=b1.form
 obtain ⟨AP,cP,rfl,_,_,_⟩:=b4.shape
 obtain ⟨AR,cR,rfl⟩:=b5.form
 obtain ⟨AB,cB,rfl,_,_,_⟩:=b7.shape
 obtain ⟨AH,cH,rfl⟩:=b9.form
 obtain ⟨AK,cK,rfl⟩:=hh.form
 have hx1:=((Below.refl w.heap.size w).alloc (Nat.le_refl _) (.cells #[.slice AE s.entry.length cE,.int .i64 s.place,.int .i64 s.shard,.slice AP s.path.length cP,.int .i64 s.rcd.sh,.int .i64 s.rcd.fr,.int .i64 s.rcd.to,.int .i64 s.rcd.sz,.slice AR s.rcd.root.length cR,.int .i64 s.row,.slice AB s.bpath.length cB,.int .i64 s.hsz,.slice AH s.hroot.length cH] 89)).alloc (by simp) (.cells #[.int .i64 hsz,.slice AK hroot.length cK] 39)
 have hb2:Blk ((w.alloc (.cells #[.slice AE s.entry.length cE,.int .i64 s.place,.int .i64 s.shard,.slice AP s.path.length cP,.int .i64 s.rcd.sh,.int .i64 s.rcd.fr,.int .i64 s.rcd.to,.int .i64 s.rcd.sz,.slice AR s.rcd.root.length cR,.int .i64 s.row,.slice AB s.bpath.length cB,.int .i64 s.hsz,.slice AH s.hroot.length cH] 89)).alloc (.cells #[.int .i64 hsz,.slice AK hroot.length cK] 39)) w.heap.size 89 #[.slice AE s.entry.length cE,.int .i64 s.place,.int .i64 s.shard,.slice AP s.path.length cP,.int .i64 s.rcd.sh,.int .i64 s.rcd.fr,.int .i64 s.rcd.to,.int .i64 s.rcd.sz,.slice AR s.rcd.root.length cR,.int .i64 s.row,.slice AB s.bpath.length cB,.int .i64 s.hsz,.slice AH s.hroot.length cH]:=Blk.alloc (heap_alloc_new w _) _
 have hb3:Blk ((w.alloc (.cells #[.slice AE s.entry.length cE,.int .i64 s.place,.int .i64 s.shard,.slice AP s.path.length cP,.int .i64 s.rcd.sh,.int .i64 s.rcd.fr,.int .i64 s.rcd.to,.int .i64 s.rcd.sz,.slice AR s.rcd.root.length cR,.int .i64 s.row,.slice AB s.bpath.length cB,.int .i64 s.hsz,.slice AH s.hroot.length cH] 89)).alloc (.cells #[.int .i64 hsz,.slice AK hroot.length cK] 39)) (w.heap.size+1) 39 #[.int .i64 hsz,.slice AK hroot.length cK]:=by
  have:=heap_alloc_new (w.alloc (.cells #[.slice AE s.entry.length cE,.int .i64 s.place,.int .i64 s.shard,.slice AP s.path.length cP,.int .i64 s.rcd.sh,.int .i64 s.rcd.fr,.int .i64 s.rcd.to,.int .i64 s.rcd.sz,.slice AR s.rcd.root.length cR,.int .i64 s.row,.slice AB s.bpath.length cB,.int .i64 s.hsz,.slice AH s.hroot.length cH] 89)) (.cells #[.int .i64 hsz,.slice AK hroot.length cK] 39)
  rw [World.size_alloc] at this
  exact this
 obtain ⟨R,HR⟩:∃ R,Hid (R=Fl.checkC s hsz hroot):=⟨_,Lib.hid rfl⟩
 rw [<-HR.out]
 have hb5:=(rdL_bytes.2 b5).below hx1
 have hb9:=(rdL_bytes.2 b9).below hx1
 have hbh:=(rdL_bytes.2 hh).below hx1
 have hb1':=(rdL_bytes.2 b1).below hx1
 have hb4':=(rdL_blist.2 b4).below hx1
 have hb7':=(rdL_blist.2 b7).below hx1
 by_cases hw:Bk.wrongR s.rcd=0
 · have HB:=Lib.hid (bytesR_ok ((w.alloc (.cells #[.slice AE s.entry.length cE,.int .i64 s.place,.int .i64 s.shard,.slice AP s.path.length cP,.int .i64 s.rcd.sh,.int .i64 s.rcd.fr,.int .i64 s.rcd.to,.int .i64 s.rcd.sz,.slice AR s.rcd.root.length cR,.int .i64 s.row,.slice AB s.bpath.length cB,.int .i64 s.hsz,.slice AH s.hroot.length cH] 89)).alloc (.cells #[.int .i64 hsz,.slice AK hroot.length cK] 39)) F s.rcd.sh s.rcd.fr s.rcd.to s.rcd.sz AR cR s.rcd.root (rdL_bytes.1 hb5) hw)
   have HW:=Lib.hid hw
   clear hw
   go_enter Try.func72,Try.ntmps72
   go_upto_region 1 with (fail)
   generalize ((w.alloc (.cells #[.slice AE s.entry.length cE,.int .i64 s.place,.int .i64 s.shard,.slice AP s.path.length cP,.int .i64 s.rcd.sh,.int .i64 s.rcd.fr,.int .i64 s.rcd.to,.int .i64 s.rcd.sz,.slice AR s.rcd.root.length cR,.int .i64 s.row,.slice AB s.bpath.length cB,.int .i64 s.hsz,.slice AH s.hroot.length cH] 89)).alloc (.cells #[.int .i64 hsz,.slice AK hroot.length cK] 39))=w1 at *
   have c0:w1.cell? ⟨w.heap.size,0,none⟩=some (.slice AE s.entry.length cE):=hb2.cell 0
   have c1:w1.cell? ⟨w.heap.size,1,none⟩=some (.int .i64 s.place):=hb2.cell 1
   have c2:w1.cell? ⟨w.heap.size,2,none⟩=some (.int .i64 s.shard):=hb2.cell 2
   have c3:w1.cell? ⟨w.heap.size,3,none⟩=some (.slice AP s.path.length cP):=hb2.cell 3
   have c4:w1.cell? ⟨w.heap.size,4,none⟩=some (.int .i64 s.rcd.sh):=hb2.cell 4
   have c5:w1.cell? ⟨w.heap.size,5,none⟩=some (.int .i64 s.rcd.fr):=hb2.cell 5
   have c6:w1.cell? ⟨w.heap.size,6,none⟩=some (.int .i64 s.rcd.to):=hb2.cell 6
   have c7:w1.cell? ⟨w.heap.size,7,none⟩=some (.int .i64 s.rcd.sz):=hb2.cell 7
   have c8:w1.cell? ⟨w.heap.size,8,none⟩=some (.slice AR s.rcd.root.length cR):=hb2.cell 8
   have c9:w1.cell? ⟨w.heap.size,9,none⟩=some (.int .i64 s.row):=hb2.cell 9
   have c10:w1.cell? ⟨w.heap.size,10,none⟩=some (.slice AB s.bpath.length cB):=hb2.cell 10
   have c11:w1.cell? ⟨w.heap.size,11,none⟩=some (.int .i64 s.hsz):=hb2.cell 11
   have c12:w1.cell? ⟨w.heap.size,12,none⟩=some (.slice AH s.hroot.length cH):=hb2.cell 12
   have d0:w1.cell? ⟨w.heap.size+1,0,none⟩=some (.int .i64 hsz):=hb3.cell 0
   have d1:w1.cell? ⟨w.heap.size+1,1,none⟩=some (.slice AK hroot.length cK):=hb3.cell 1
   go_wp2_with fail
   with_reducible refine HB.out.mono ?_
   rintro e w2 ⟨v2,rfl,ho2,hx2⟩
   clear HB
   obtain ⟨A2,k2,hv2,_,_⟩:=Own.shape ho2
   obtain ⟨n2,hn2⟩:∃ n,(Bk.rowR ⟨s.rcd.sh,s.rcd.fr,s.rcd.to,s.rcd.sz,s.rcd.root⟩).length=n:=⟨_,rfl⟩
   rw [hn2] at hv2
   subst hv2
   clear hn2 c0 c1 c2 c3 c4 c5 c6 c7 c8 c9 c10 c11 c12 d0 d1
   have hb22:=hb2.below hx2 hb2.lt
   have hb32:=hb3.below hx2 hb3.lt
   have hx12:=hx1.trans (hx2.mono hx1.size)
   have c0:w2.cell? ⟨w.heap.size,0,none⟩=some (.slice AE s.entry.length cE):=hb22.cell 0
   have c1:w2.cell? ⟨w.heap.size,1,none⟩=some (.int .i64 s.place):=hb22.cell 1
   have c2:w2.cell? ⟨w.heap.size,2,none⟩=some (.int .i64 s.shard):=hb22.cell 2
   have c3:w2.cell? ⟨w.heap.size,3,none⟩=some (.slice AP s.path.length cP):=hb22.cell 3
   have c4:w2.cell? ⟨w.heap.size,4,none⟩=some (.int .i64 s.rcd.sh):=hb22.cell 4
   have c5:w2.cell? ⟨w.heap.size,5,none⟩=some (.int .i64 s.rcd.fr):=hb22.cell 5
   have c6:w2.cell? ⟨w.heap.size,6,none⟩=some (.int .i64 s.rcd.to):=hb22.cell 6
   have c7:w2.cell? ⟨w.heap.size,7,none⟩=some (.int .i64 s.rcd.sz):=hb22.cell 7
   have c8:w2.cell? ⟨w.heap.size,8,none⟩=some (.slice AR s.rcd.root.length cR):=hb22.cell 8
   have c9:w2.cell? ⟨w.heap.size,9,none⟩=some (.int .i64 s.row):=hb22.cell 9
   have c10:w2.cell? ⟨w.heap.size,10,none⟩=some (.slice AB s.bpath.length cB):=hb22.cell 10
   have c11:w2.cell? ⟨w.heap.size,11,none⟩=some (.int .i64 s.hsz):=hb22.cell 11
   have c12:w2.cell? ⟨w.heap.size,12,none⟩=some (.slice AH s.hroot.length cH):=hb22.cell 12
   have d0:w2.cell? ⟨w.heap.size+1,0,none⟩=some (.int .i64 hsz):=hb32.cell 0
   have d1:w2.cell? ⟨w.heap.size+1,1,none⟩=some (.slice AK hroot.length cK):=hb32.cell 1
   by_cases hq1:s.rcd.sh=s.shard
   · have q1:(s.rcd.sh != s.shard)=false:=by rw [bne_eq_false_iff_eq];exact hq1
     have HQ1:=Lib.hid hq1
     clear hq1
     by_cases hq2:s.hsz=hsz
     · have q2:(s.hsz != hsz)=false:=by rw [bne_eq_false_iff_eq];exact hq2
       have HQ2:=Lib.hid hq2
       clear hq2
       go_wp2_with fail
       with_reducible refine (equal_any w2 _ _ _ _ s.hroot hroot (rdL_bytes.1 (hb9.below hx2)) (rdL_bytes.1 (hbh.below hx2))).mono ?_
       rintro e w3 ⟨rfl,hw3⟩
       subst hw3
       by_cases hq3:s.hroot=hroot
       · have q3:(s.hroot==hroot)=true:=by rw [beq_iff_eq];exact hq3
         have HS:Hid (R=(standsS s.rcd.sz s.rcd.root s.entry s.place s.path&&standsS hsz hroot (Bk.rowR s.rcd) s.row s.bpath)):=Lib.hid (by
          rw [HR.out];unfold Fl.checkC;rw [HW.out,HQ1.out,HQ2.out,hq3];simp)
         rw [q3]
         clear hq3 q3
         have HT1:=Lib.hid (stands_any w3 _ _ _ (.slice AR s.rcd.root.length cR) (.slice AE s.entry.length cE) (.slice AP s.path.length cP) s.rcd.sz s.rcd.root s.entry s.place s.path (rdL_bytes.1 (hb5.below hx2)) (rdL_bytes.1 (hb1'.below hx2)) (rdL_blist.1 (hb4'.below hx2)))
         generalize standsS s.rcd.sz s.rcd.root s.entry s.place s.path=t1 at *
         go_wp2_with fail
         with_reducible refine HT1.out.mono ?_
         rintro e w4 ⟨rfl,hx4⟩
         have hx14:=hx12.trans (hx4.mono hx12.size)
         have hx24:=hx2.trans (hx4.mono hx2.size)
         have hb24:=hb22.below hx4 hb22.lt
         have hb34:=hb32.below hx4 hb32.lt
         clear c0 c1 c2 c3 c4 c5 c6 c7 c8 c9 c10 c11 c12 d0 d1
         have c0:w4.cell? ⟨w.heap.size,0,none⟩=some (.slice AE s.entry.length cE):=hb24.cell 0
         have c1:w4.cell? ⟨w.heap.size,1,none⟩=some (.int .i64 s.place):=hb24.cell 1
         have c2:w4.cell? ⟨w.heap.size,2,none⟩=some (.int .i64 s.shard):=hb24.cell 2
         have c3:w4.cell? ⟨w.heap.size,3,none⟩=some (.slice AP s.path.length cP):=hb24.cell 3
         have c4:w4.cell? ⟨w.heap.size,4,none⟩=some (.int .i64 s.rcd.sh):=hb24.cell 4
         have c5:w4.cell? ⟨w.heap.size,5,none⟩=some (.int .i64 s.rcd.fr):=hb24.cell 5
         have c6:w4.cell? ⟨w.heap.size,6,none⟩=some (.int .i64 s.rcd.to):=hb24.cell 6
         have c7:w4.cell? ⟨w.heap.size,7,none⟩=some (.int .i64 s.rcd.sz):=hb24.cell 7
         have c8:w4.cell? ⟨w.heap.size,8,none⟩=some (.slice AR s.rcd.root.length cR):=hb24.cell 8
         have c9:w4.cell? ⟨w.heap.size,9,none⟩=some (.int .i64 s.row):=hb24.cell 9
         have c10:w4.cell? ⟨w.heap.size,10,none⟩=some (.slice AB s.bpath.length cB):=hb24.cell 10
         have c11:w4.cell? ⟨w.heap.size,11,none⟩=some (.int .i64 s.hsz):=hb24.cell 11
         have c12:w4.cell? ⟨w.heap.size,12,none⟩=some (.slice AH s.hroot.length cH):=hb24.cell 12
         have d0:w4.cell? ⟨w.heap.size+1,0,none⟩=some (.int .i64 hsz):=hb34.cell 0
         have d1:w4.cell? ⟨w.heap.size+1,1,none⟩=some (.slice AK hroot.length cK):=hb34.cell 1
         cases t1 with
         | false =>
           have HF:Hid (R=false):=Lib.hid (by rw [HS.out];simp)
           go_wp2_with fail
           go_ret
           exact ⟨by rw [HF.out];rfl,hx14⟩
         | true =>
           have HF:Hid (R=standsS hsz hroot (Bk.rowR s.rcd) s.row s.bpath):=Lib.hid (by rw [HS.out];simp)
           have HT2:=Lib.hid (stands_any w4 _ _ _ (.slice AK hroot.length cK) (.slice A2 n2 k2) (.slice AB s.bpath.length cB) hsz hroot (Bk.rowR s.rcd) s.row s.bpath (rdL_bytes.1 (hbh.below hx24)) (OwnB.bytes (OwnB.below ho2 hx4)) (rdL_blist.1 (hb7'.below hx24)))
           rw [<-HF.out] at HT2
           go_wp2_with fail
           with_reducible refine HT2.out.mono ?_
           rintro e w5 ⟨rfl,hx5⟩
           go_wp2_with fail
           go_ret
           exact ⟨rfl,hx14.trans (hx5.mono hx14.size)⟩
       · have q3:(s.hroot==hroot)=false:=by rw [beq_eq_false_iff_ne];exact hq3
         have HS:Hid (R=false):=Lib.hid (by rw [HR.out];unfold Fl.checkC;simp [hq3])
         rw [q3]
         clear hq3 q3
         go_wp2_with fail
         go_ret
         exact ⟨by rw [HS.out];rfl,hx12⟩
     · have q2:(s.hsz != hsz)=true:=by rw [bne_iff_ne];exact hq2
       have HS:Hid (R=false):=Lib.hid (by rw [HR.out];unfold Fl.checkC;simp [hq2])
       clear hq2
       go_wp2_with fail
       go_ret
       exact ⟨by rw [HS.out];rfl,hx12⟩
   · have q1:(s.rcd.sh != s.shard)=true:=by rw [bne_iff_ne];exact hq1
     have HS:Hid (R=false):=Lib.hid (by rw [HR.out];unfold Fl.checkC;simp [hq1])
     clear hq1
     go_wp2_with fail
     go_ret
     exact ⟨by rw [HS.out];rfl,hx12⟩
 · have HS:Hid (R=false):=Lib.hid (by rw [HR.out];unfold Fl.checkC;simp [hw])
   obtain ⟨x,HX⟩:∃ x,Hid (x=Bk.wrongR ⟨s.rcd.sh,s.rcd.fr,s.rcd.to,s.rcd.sz,s.rcd.root⟩):=⟨_,Lib.hid rfl⟩
   have HB:=bytesR_bad ((w.alloc (.cells #[.slice AE s.entry.length cE,.int .i64 s.place,.int .i64 s.shard,.slice AP s.path.length cP,.int .i64 s.rcd.sh,.int .i64 s.rcd.fr,.int .i64 s.rcd.to,.int .i64 s.rcd.sz,.slice AR s.rcd.root.length cR,.int .i64 s.row,.slice AB s.bpath.length cB,.int .i64 s.hsz,.slice AH s.hroot.length cH] 89)).alloc (.cells #[.int .i64 hsz,.slice AK hroot.length cK] 39)) s.rcd.sh s.rcd.fr s.rcd.to s.rcd.sz AR cR s.rcd.root hw
   rw [<-HX.out] at HB
   have hxb:((x:Int) != 0)=true:=by rw [bne_iff_ne];have h:=HX.out;intro e;apply hw;show Bk.wrongR ⟨s.rcd.sh,s.rcd.fr,s.rcd.to,s.rcd.sz,s.rcd.root⟩=0;rw [<-h];omega
   have HBB:=Lib.hid HB
   clear hw HB
   go_enter Try.func72,Try.ntmps72
   go_upto_region 1 with (fail)
   generalize ((w.alloc (.cells #[.slice AE s.entry.length cE,.int .i64 s.place,.int .i64 s.shard,.slice AP s.path.length cP,.int .i64 s.rcd.sh,.int .i64 s.rcd.fr,.int .i64 s.rcd.to,.int .i64 s.rcd.sz,.slice AR s.rcd.root.length cR,.int .i64 s.row,.slice AB s.bpath.length cB,.int .i64 s.hsz,.slice AH s.hroot.length cH] 89)).alloc (.cells #[.int .i64 hsz,.slice AK hroot.length cK] 39))=w1 at *
   have c0:w1.cell? ⟨w.heap.size,0,none⟩=some (.slice AE s.entry.length cE):=hb2.cell 0
   have c1:w1.cell? ⟨w.heap.size,1,none⟩=some (.int .i64 s.place):=hb2.cell 1
   have c2:w1.cell? ⟨w.heap.size,2,none⟩=some (.int .i64 s.shard):=hb2.cell 2
   have c3:w1.cell? ⟨w.heap.size,3,none⟩=some (.slice AP s.path.length cP):=hb2.cell 3
   have c4:w1.cell? ⟨w.heap.size,4,none⟩=some (.int .i64 s.rcd.sh):=hb2.cell 4
   have c5:w1.cell? ⟨w.heap.size,5,none⟩=some (.int .i64 s.rcd.fr):=hb2.cell 5
   have c6:w1.cell? ⟨w.heap.size,6,none⟩=some (.int .i64 s.rcd.to):=hb2.cell 6
   have c7:w1.cell? ⟨w.heap.size,7,none⟩=some (.int .i64 s.rcd.sz):=hb2.cell 7
   have c8:w1.cell? ⟨w.heap.size,8,none⟩=some (.slice AR s.rcd.root.length cR):=hb2.cell 8
   have c9:w1.cell? ⟨w.heap.size,9,none⟩=some (.int .i64 s.row):=hb2.cell 9
   have c10:w1.cell? ⟨w.heap.size,10,none⟩=some (.slice AB s.bpath.length cB):=hb2.cell 10
   have c11:w1.cell? ⟨w.heap.size,11,none⟩=some (.int .i64 s.hsz):=hb2.cell 11
   have c12:w1.cell? ⟨w.heap.size,12,none⟩=some (.slice AH s.hroot.length cH):=hb2.cell 12
   have d0:w1.cell? ⟨w.heap.size+1,0,none⟩=some (.int .i64 hsz):=hb3.cell 0
   have d1:w1.cell? ⟨w.heap.size+1,1,none⟩=some (.slice AK hroot.length cK):=hb3.cell 1
   go_wp2_with fail
   with_reducible refine HBB.out.mono ?_
   rintro e w2 ⟨rfl,hx2⟩
   have hx12:=hx1.trans (hx2.mono hx1.size)
   go_wp2_with fail
   go_ret
   exact ⟨by rw [HS.out];rfl,hx12⟩
end Go.Proofs.Ytfdibjgmbdkbcaa
