/-
  THE WALK of FleetShows. Conditions: what comes in is read.
-/
import Derived.Test.YtfdibjgmbdkbcaaZGp
import Derived.Test.YtfdibjgmbdkbcaaZFK
import Derived.Test.YtfdibjgmbdkbcaaZR7KL
import Derived.Test.YtfdibjgmbdkbcaaZR7R
import Derived.Test.YtfdibjgmbdkbcaaZR7Q
namespace Go.Proofs.Ytfdibjgmbdkbcaa
open Go.RowKit Go.Lib
set_option maxRecDepth 100000 in
set_option maxHeartbeats 16000000 in
theorem fleetShows_walk (w:World) (v0:Value) (l0:List (Int × Int)) (h0:RdL w (fun _=>True) v0 l0) (v1:Value) (l1:List Dob) (h1:RdL w (fun _=>True) v1 l1) (n2 n3:Int) (cs4:List Value) (s:Shw) (h4:Rp.rd w (fun _=>True) cs4 s) (hsz:Int) (v5:Value) (hroot:Bs) (h5:Bytes w (fun _=>True) v5 hroot) :
 Calls Try.prog 9 #[v0,v1,.int .i64 n2,.int .i64 n3,.agg cs4.toArray,.agg #[.int .i64 hsz,v5]] w fun e w'=>e = .returned (.bool true)/\Below w.heap.size w w':=by
 obtain ⟨A0,c0,hv0,hn0,hm0⟩:=h0.form
 obtain ⟨A1,c1_,hv1,hn1,hm1⟩:=h1.form
 subst hv0 hv1
 unfold maxLen at hm0 hm1
 have h4_:=h4
 obtain ⟨c1,c1',rfl,⟨ev,h1',h1⟩,c2,c2',rfl,h2,c3,c3',rfl,h3,c4,c4',rfl,⟨pv,h4',h4⟩,c5,c5',rfl,⟨r1,r1',rfl,e1,r2,r2',rfl,e2,r3,r3',rfl,e3,r4,r5,rfl,e4,rv,e5',e5⟩,c6,c6',rfl,h6,c7,c8,rfl,⟨bpv,h7',h7⟩,k1,k2,rfl,h8,hv2,h9',h9⟩:=h4
 have e2':c2=[.int .i64 s.place]:=h2
 have e3':c3=[.int .i64 s.shard]:=h3
 have f1':r1=[.int .i64 s.rcd.sh]:=e1
 have f2':r2=[.int .i64 s.rcd.fr]:=e2
 have f3':r3=[.int .i64 s.rcd.to]:=e3
 have f4':r4=[.int .i64 s.rcd.sz]:=e4
 have e6':c6=[.int .i64 s.row]:=h6
 have e8':k1=[.int .i64 s.hsz]:=h8
 subst h1' e2' e3' h4' f1' f2' f3' f4' e5' e6' h7' e8' h9'
 have bx1:=rdL_bytes.1 h1
 have bx4:=rdL_blist.1 h4
 have bx5:=rdL_bytes.1 e5
 have bx7:=rdL_blist.1 h7
 have bx9:=rdL_bytes.1 h9
 clear h1 h2 h3 h4 e1 e2 e3 e4 e5 h6 h7 h8 h9
 obtain ⟨AEx,cEx,rfl⟩:=bx1.form
 obtain ⟨APx,cPx,rfl,_,_,_⟩:=bx4.shape
 obtain ⟨ARx,cRx,rfl⟩:=bx5.form
 obtain ⟨ABx,cBx,rfl,_,_,_⟩:=bx7.shape
 obtain ⟨AHx,cHx,rfl⟩:=bx9.form
 replace h4_:Rp.rd w (fun _=>True) [.slice AEx s.entry.length cEx,.int .i64 s.place,.int .i64 s.shard,.slice APx s.path.length cPx,.int .i64 s.rcd.sh,.int .i64 s.rcd.fr,.int .i64 s.rcd.to,.int .i64 s.rcd.sz,.slice ARx s.rcd.root.length cRx,.int .i64 s.row,.slice ABx s.bpath.length cBx,.int .i64 s.hsz,.slice AHx s.hroot.length cHx] s:=h4_
 obtain ⟨AK,cK,rfl⟩:=h5.form
 have hx0:=((Below.refl w.heap.size w).alloc (Nat.le_refl _) (.cells #[.slice AEx s.entry.length cEx,.int .i64 s.place,.int .i64 s.shard,.slice APx s.path.length cPx,.int .i64 s.rcd.sh,.int .i64 s.rcd.fr,.int .i64 s.rcd.to,.int .i64 s.rcd.sz,.slice ARx s.rcd.root.length cRx,.int .i64 s.row,.slice ABx s.bpath.length cBx,.int .i64 s.hsz,.slice AHx s.hroot.length cHx] 89)).alloc (by simp) (.cells #[.int .i64 hsz,.slice AK hroot.length cK] 39)
 have hbA:Blk ((w.alloc (.cells #[.slice AEx s.entry.length cEx,.int .i64 s.place,.int .i64 s.shard,.slice APx s.path.length cPx,.int .i64 s.rcd.sh,.int .i64 s.rcd.fr,.int .i64 s.rcd.to,.int .i64 s.rcd.sz,.slice ARx s.rcd.root.length cRx,.int .i64 s.row,.slice ABx s.bpath.length cBx,.int .i64 s.hsz,.slice AHx s.hroot.length cHx] 89)).alloc (.cells #[.int .i64 hsz,.slice AK hroot.length cK] 39)) w.heap.size 89 #[.slice AEx s.entry.length cEx,.int .i64 s.place,.int .i64 s.shard,.slice APx s.path.length cPx,.int .i64 s.rcd.sh,.int .i64 s.rcd.fr,.int .i64 s.rcd.to,.int .i64 s.rcd.sz,.slice ARx s.rcd.root.length cRx,.int .i64 s.row,.slice ABx s.bpath.length cBx,.int .i64 s.hsz,.slice AHx s.hroot.length cHx]:=Blk.alloc (heap_alloc_new w _) _
 have hbB:Blk ((w.alloc (.cells #[.slice AEx s.entry.length cEx,.int .i64 s.place,.int .i64 s.shard,.slice APx s.path.length cPx,.int .i64 s.rcd.sh,.int .i64 s.rcd.fr,.int .i64 s.rcd.to,.int .i64 s.rcd.sz,.slice ARx s.rcd.root.length cRx,.int .i64 s.row,.slice ABx s.bpath.length cBx,.int .i64 s.hsz,.slice AHx s.hroot.length cHx] 89)).alloc (.cells #[.int .i64 hsz,.slice AK hroot.length cK] 39)) (w.heap.size+1) 39 #[.int .i64 hsz,.slice AK hroot.length cK]:=by
  have:=heap_alloc_new (w.alloc (.cells #[.slice AEx s.entry.length cEx,.int .i64 s.place,.int .i64 s.shard,.slice APx s.path.length cPx,.int .i64 s.rcd.sh,.int .i64 s.rcd.fr,.int .i64 s.rcd.to,.int .i64 s.rcd.sz,.slice ARx s.rcd.root.length cRx,.int .i64 s.row,.slice ABx s.bpath.length cBx,.int .i64 s.hsz,.slice AHx s.hroot.length cHx] 89)) (.cells #[.int .i64 hsz,.slice AK hroot.length cK] 39)
  rw [World.size_alloc] at this
  exact this
 go_enter Try.func9,Try.ntmps9
 go_upto_region 1 with (fail)
 replace h4_:=Rp.below h4_ hx0
 replace h5:=Bytes.below h5 hx0
 generalize ((w.alloc (.cells #[.slice AEx s.entry.length cEx,.int .i64 s.place,.int .i64 s.shard,.slice APx s.path.length cPx,.int .i64 s.rcd.sh,.int .i64 s.rcd.fr,.int .i64 s.rcd.to,.int .i64 s.rcd.sz,.slice ARx s.rcd.root.length cRx,.int .i64 s.row,.slice ABx s.bpath.length cBx,.int .i64 s.hsz,.slice AHx s.hroot.length cHx] 89)).alloc (.cells #[.int .i64 hsz,.slice AK hroot.length cK] 39))=W at *
 clear bx1 bx4 bx5 bx7 bx9
 obtain ⟨fx,lax,ax,bx,hpl⟩:∃ f_ la_ a_ b_,Fl.play l0 l1=(f_,la_,(a_,b_)):=⟨_,_,_,_,rfl⟩
 have HP:=Lib.hid (rplay_any W _ _ _ _ l0 l1 (h0.below hx0) (h1.below hx0))
 rw [hpl] at HP
 have HPLx:=Lib.hid hpl
 clear hpl
 go_wp2_with fail
 refine HP.out.mono ?_
 rintro e w2 ⟨vs,vb,va,rfl,qsx,qbx,qax,hxpx⟩
 simp only at qsx qbx qax ⊢
 replace qsx:=qsx.weak (F':=fun b=>b<w2.heap.size) fun b hb _=>hb
 replace qbx:=qbx.weak (F':=fun b=>b<w2.heap.size) fun b hb _=>hb
 replace qax:=qax.weak (F':=fun b=>b<w2.heap.size) fun b hb _=>hb
 obtain ⟨Asx,csx,hvs,hlsx,hcsx⟩:=qsx.form
 obtain ⟨Abx,cbx,hvb,hlbx,hcbx⟩:=qbx.form
 obtain ⟨Aax,cax,hva,hlax,hcax⟩:=qax.form
 unfold maxLen at hcsx hcbx hcax
 subst hvs hvb hva
 clear HP
 go_upto_region 2 with (fail)
 have hxqx:=((Below.refl w2.heap.size w2).alloc (Nat.le_refl _) (.cells #[.slice Asx fx.sh.length csx,.slice Abx fx.book.length cbx] 92)).alloc (by simp) (.cells #[.int .i64 (ax:Int),.int .i64 (bx:Int)] 32)
 have hbFx:Blk ((w2.alloc (.cells #[.slice Asx fx.sh.length csx,.slice Abx fx.book.length cbx] 92)).alloc (.cells #[.int .i64 (ax:Int),.int .i64 (bx:Int)] 32)) w2.heap.size 92 #[.slice Asx fx.sh.length csx,.slice Abx fx.book.length cbx]:=Blk.alloc (heap_alloc_new w2 _) _
 have hbWx:Blk ((w2.alloc (.cells #[.slice Asx fx.sh.length csx,.slice Abx fx.book.length cbx] 92)).alloc (.cells #[.int .i64 (ax:Int),.int .i64 (bx:Int)] 32)) (w2.heap.size+1) 32 #[.int .i64 (ax:Int),.int .i64 (bx:Int)]:=by
  have:=heap_alloc_new (w2.alloc (.cells #[.slice Asx fx.sh.length csx,.slice Abx fx.book.length cbx] 92)) (.cells #[.int .i64 (ax:Int),.int .i64 (bx:Int)] 32)
  rw [World.size_alloc] at this
  exact this
 generalize ((w2.alloc (.cells #[.slice Asx fx.sh.length csx,.slice Abx fx.book.length cbx] 92)).alloc (.cells #[.int .i64 (ax:Int),.int .i64 (bx:Int)] 32))=w3 at *
 have hxsx:=hxpx.trans (hxqx.mono hxpx.size)
 have hxxB:=hx0.trans (hxsx.mono hx0.size)
 replace qsx:=qsx.below hxqx
 replace qbx:=qbx.below hxqx
 replace qax:=qax.below hxqx
 have hgwx:W.heap.size<=w2.heap.size:=hxpx.size
 clear hxpx hxqx
 generalize w2.heap.size=gx at *
 have e1:w3.cell? ⟨gx+1,0,none⟩=some (.int .i64 (ax:Int)):=hbWx.cell 0
 by_cases hax:ax=0
 · have hneX:((ax:Int) != 0)=false:=by rw [bne_eq_false_iff_eq];omega
   obtain ⟨hI,-,-,-,-⟩:=Fl.play_ok (b:=bx) (HPLx.out.trans (by rw [hax]))
   clear hax
   have f0:w3.cell? ⟨gx,0,none⟩=some (.slice Asx fx.sh.length csx):=hbFx.cell 0
   have f1:w3.cell? ⟨gx,1,none⟩=some (.slice Abx fx.book.length cbx):=hbFx.cell 1
   have hS1:=show_any w3 _ _ _ _ fx n2 n3 qsx qbx hI
   have hS2:=fun z (hz:Below w3.heap.size w3 z)=>rshow_any z _ _ _ _ fx n2 n3 (qsx.below hz) (qbx.below hz) hI
   generalize Fl.showC fx n2 n3=sc at *
   obtain ⟨er,sh⟩:=sc
   have HS1:=Lib.hid hS1
   have HS2:=Lib.hid hS2
   clear hS1 hS2
   go_wp2_with fail
   with_reducible refine HS1.out.mono ?_
   rintro e w4 ⟨csA,rfl,hA,hx4⟩
   simp only at hA
   have hA_:=hA
   obtain ⟨c1,c1',rfl,⟨ev,h1',h1⟩,c2,c2',rfl,h2,c3,c3',rfl,h3,c4,c4',rfl,⟨pv,h4',h4⟩,c5,c5',rfl,⟨r1,r1',rfl,e1,r2,r2',rfl,e2,r3,r3',rfl,e3,r4,r5,rfl,e4,rv,e5',e5⟩,c6,c6',rfl,h6,c7,c8,rfl,⟨bpv,h7',h7⟩,k1,k2,rfl,h8,hv2,h9',h9⟩:=hA
   have e2':c2=[.int .i64 sh.place]:=h2
   have e3':c3=[.int .i64 sh.shard]:=h3
   have f1':r1=[.int .i64 sh.rcd.sh]:=e1
   have f2':r2=[.int .i64 sh.rcd.fr]:=e2
   have f3':r3=[.int .i64 sh.rcd.to]:=e3
   have f4':r4=[.int .i64 sh.rcd.sz]:=e4
   have e6':c6=[.int .i64 sh.row]:=h6
   have e8':k1=[.int .i64 sh.hsz]:=h8
   subst h1' e2' e3' h4' f1' f2' f3' f4' e5' e6' h7' e8' h9'
   have by1:=rdL_bytes.1 h1
   have by4:=rdL_blist.1 h4
   have by5:=rdL_bytes.1 e5
   have by7:=rdL_blist.1 h7
   have by9:=rdL_bytes.1 h9
   clear h1 h2 h3 h4 e1 e2 e3 e4 e5 h6 h7 h8 h9
   obtain ⟨AEy,cEy,rfl⟩:=by1.form
   obtain ⟨APy,cPy,rfl,_,_,_⟩:=by4.shape
   obtain ⟨ARy,cRy,rfl⟩:=by5.form
   obtain ⟨ABy,cBy,rfl,_,_,_⟩:=by7.shape
   obtain ⟨AHy,cHy,rfl⟩:=by9.form
   replace hA_:Rp.rd w4 (fun _=>True) [.slice AEy sh.entry.length cEy,.int .i64 sh.place,.int .i64 sh.shard,.slice APy sh.path.length cPy,.int .i64 sh.rcd.sh,.int .i64 sh.rcd.fr,.int .i64 sh.rcd.to,.int .i64 sh.rcd.sz,.slice ARy sh.rcd.root.length cRy,.int .i64 sh.row,.slice ABy sh.bpath.length cBy,.int .i64 sh.hsz,.slice AHy sh.hroot.length cHy] sh:=hA_
   go_upto_region 5 with (fail)
   have hx5:=hx4.alloc hx4.size (.cells #[.slice AEy sh.entry.length cEy,.int .i64 sh.place,.int .i64 sh.shard,.slice APy sh.path.length cPy,.int .i64 sh.rcd.sh,.int .i64 sh.rcd.fr,.int .i64 sh.rcd.to,.int .i64 sh.rcd.sz,.slice ARy sh.rcd.root.length cRy,.int .i64 sh.row,.slice ABy sh.bpath.length cBy,.int .i64 sh.hsz,.slice AHy sh.hroot.length cHy] 89)
   have hbY:Blk (w4.alloc (.cells #[.slice AEy sh.entry.length cEy,.int .i64 sh.place,.int .i64 sh.shard,.slice APy sh.path.length cPy,.int .i64 sh.rcd.sh,.int .i64 sh.rcd.fr,.int .i64 sh.rcd.to,.int .i64 sh.rcd.sz,.slice ARy sh.rcd.root.length cRy,.int .i64 sh.row,.slice ABy sh.bpath.length cBy,.int .i64 sh.hsz,.slice AHy sh.hroot.length cHy] 89)) w4.heap.size 89 #[.slice AEy sh.entry.length cEy,.int .i64 sh.place,.int .i64 sh.shard,.slice APy sh.path.length cPy,.int .i64 sh.rcd.sh,.int .i64 sh.rcd.fr,.int .i64 sh.rcd.to,.int .i64 sh.rcd.sz,.slice ARy sh.rcd.root.length cRy,.int .i64 sh.row,.slice ABy sh.bpath.length cBy,.int .i64 sh.hsz,.slice AHy sh.hroot.length cHy]:=heap_alloc_new w4 _
   replace hA_:=Rp.alloc hA_ (.cells #[.slice AEy sh.entry.length cEy,.int .i64 sh.place,.int .i64 sh.shard,.slice APy sh.path.length cPy,.int .i64 sh.rcd.sh,.int .i64 sh.rcd.fr,.int .i64 sh.rcd.to,.int .i64 sh.rcd.sz,.slice ARy sh.rcd.root.length cRy,.int .i64 sh.row,.slice ABy sh.bpath.length cBy,.int .i64 sh.hsz,.slice AHy sh.hroot.length cHy] 89)
   generalize w4.alloc (.cells #[.slice AEy sh.entry.length cEy,.int .i64 sh.place,.int .i64 sh.shard,.slice APy sh.path.length cPy,.int .i64 sh.rcd.sh,.int .i64 sh.rcd.fr,.int .i64 sh.rcd.to,.int .i64 sh.rcd.sz,.slice ARy sh.rcd.root.length cRy,.int .i64 sh.row,.slice ABy sh.bpath.length cBy,.int .i64 sh.hsz,.slice AHy sh.hroot.length cHy] 89)=w5 at *
   generalize w4.heap.size=gY at *
   clear f0 f1 by1 by4 by5 by7 by9 hx4 HS1
   have f0:w5.cell? ⟨gx,0,none⟩=some (.slice Asx fx.sh.length csx):=(hbFx.below hx5 hbFx.lt).cell 0
   have f1:w5.cell? ⟨gx,1,none⟩=some (.slice Abx fx.book.length cbx):=(hbFx.below hx5 hbFx.lt).cell 1
   go_wp2_with fail
   with_reducible refine (HS2.out _ hx5).mono ?_
   rintro e w6 ⟨csB,rfl,hB,hx6⟩
   simp only at hB
   have hB_:=hB
   obtain ⟨c1,c1',rfl,⟨ev,h1',h1⟩,c2,c2',rfl,h2,c3,c3',rfl,h3,c4,c4',rfl,⟨pv,h4',h4⟩,c5,c5',rfl,⟨r1,r1',rfl,e1,r2,r2',rfl,e2,r3,r3',rfl,e3,r4,r5,rfl,e4,rv,e5',e5⟩,c6,c6',rfl,h6,c7,c8,rfl,⟨bpv,h7',h7⟩,k1,k2,rfl,h8,hv2,h9',h9⟩:=hB
   have e2':c2=[.int .i64 sh.place]:=h2
   have e3':c3=[.int .i64 sh.shard]:=h3
   have f1':r1=[.int .i64 sh.rcd.sh]:=e1
   have f2':r2=[.int .i64 sh.rcd.fr]:=e2
   have f3':r3=[.int .i64 sh.rcd.to]:=e3
   have f4':r4=[.int .i64 sh.rcd.sz]:=e4
   have e6':c6=[.int .i64 sh.row]:=h6
   have e8':k1=[.int .i64 sh.hsz]:=h8
   subst h1' e2' e3' h4' f1' f2' f3' f4' e5' e6' h7' e8' h9'
   have bz1:=rdL_bytes.1 h1
   have bz4:=rdL_blist.1 h4
   have bz5:=rdL_bytes.1 e5
   have bz7:=rdL_blist.1 h7
   have bz9:=rdL_bytes.1 h9
   clear h1 h2 h3 h4 e1 e2 e3 e4 e5 h6 h7 h8 h9
   obtain ⟨AEz,cEz,rfl⟩:=bz1.form
   obtain ⟨APz,cPz,rfl,_,_,_⟩:=bz4.shape
   obtain ⟨ARz,cRz,rfl⟩:=bz5.form
   obtain ⟨ABz,cBz,rfl,_,_,_⟩:=bz7.shape
   obtain ⟨AHz,cHz,rfl⟩:=bz9.form
   replace hB_:Rp.rd w6 (fun _=>True) [.slice AEz sh.entry.length cEz,.int .i64 sh.place,.int .i64 sh.shard,.slice APz sh.path.length cPz,.int .i64 sh.rcd.sh,.int .i64 sh.rcd.fr,.int .i64 sh.rcd.to,.int .i64 sh.rcd.sz,.slice ARz sh.rcd.root.length cRz,.int .i64 sh.row,.slice ABz sh.bpath.length cBz,.int .i64 sh.hsz,.slice AHz sh.hroot.length cHz] sh:=hB_
   go_upto_region 6 with (fail)
   have hx7:=hx6.alloc hx6.size (.cells #[.slice AEz sh.entry.length cEz,.int .i64 sh.place,.int .i64 sh.shard,.slice APz sh.path.length cPz,.int .i64 sh.rcd.sh,.int .i64 sh.rcd.fr,.int .i64 sh.rcd.to,.int .i64 sh.rcd.sz,.slice ARz sh.rcd.root.length cRz,.int .i64 sh.row,.slice ABz sh.bpath.length cBz,.int .i64 sh.hsz,.slice AHz sh.hroot.length cHz] 89)
   have hbZ:Blk (w6.alloc (.cells #[.slice AEz sh.entry.length cEz,.int .i64 sh.place,.int .i64 sh.shard,.slice APz sh.path.length cPz,.int .i64 sh.rcd.sh,.int .i64 sh.rcd.fr,.int .i64 sh.rcd.to,.int .i64 sh.rcd.sz,.slice ARz sh.rcd.root.length cRz,.int .i64 sh.row,.slice ABz sh.bpath.length cBz,.int .i64 sh.hsz,.slice AHz sh.hroot.length cHz] 89)) w6.heap.size 89 #[.slice AEz sh.entry.length cEz,.int .i64 sh.place,.int .i64 sh.shard,.slice APz sh.path.length cPz,.int .i64 sh.rcd.sh,.int .i64 sh.rcd.fr,.int .i64 sh.rcd.to,.int .i64 sh.rcd.sz,.slice ARz sh.rcd.root.length cRz,.int .i64 sh.row,.slice ABz sh.bpath.length cBz,.int .i64 sh.hsz,.slice AHz sh.hroot.length cHz]:=heap_alloc_new w6 _
   replace hB_:=Rp.alloc hB_ (.cells #[.slice AEz sh.entry.length cEz,.int .i64 sh.place,.int .i64 sh.shard,.slice APz sh.path.length cPz,.int .i64 sh.rcd.sh,.int .i64 sh.rcd.fr,.int .i64 sh.rcd.to,.int .i64 sh.rcd.sz,.slice ARz sh.rcd.root.length cRz,.int .i64 sh.row,.slice ABz sh.bpath.length cBz,.int .i64 sh.hsz,.slice AHz sh.hroot.length cHz] 89)
   generalize w6.alloc (.cells #[.slice AEz sh.entry.length cEz,.int .i64 sh.place,.int .i64 sh.shard,.slice APz sh.path.length cPz,.int .i64 sh.rcd.sh,.int .i64 sh.rcd.fr,.int .i64 sh.rcd.to,.int .i64 sh.rcd.sz,.slice ARz sh.rcd.root.length cRz,.int .i64 sh.row,.slice ABz sh.bpath.length cBz,.int .i64 sh.hsz,.slice AHz sh.hroot.length cHz] 89)=w7 at *
   generalize w6.heap.size=gZ at *
   clear f0 f1 bz1 bz4 bz5 bz7 bz9 hx6 HS2
   replace hbY:=hbY.below hx7 hbY.lt
   replace hA_:=Rp.below hA_ hx7
   have hxW:Below W.heap.size W w7:=(hxsx.trans (hx5.mono hxsx.size)).trans (hx7.mono (hxsx.trans (hx5.mono hxsx.size)).size)
   have hx07:=hx0.trans (hxW.mono hx0.size)
   replace h4_:=Rp.below h4_ hxW
   replace h5:=Bytes.below h5 hxW
   have hC:=fun (z:World) (hq:Below w7.heap.size w7 z)=>(⟨(hbA.below (hxW.trans (hq.mono hxW.size)) hbA.lt).cell 0,(hbA.below (hxW.trans (hq.mono hxW.size)) hbA.lt).cell 1,(hbA.below (hxW.trans (hq.mono hxW.size)) hbA.lt).cell 2,(hbA.below (hxW.trans (hq.mono hxW.size)) hbA.lt).cell 3,(hbA.below (hxW.trans (hq.mono hxW.size)) hbA.lt).cell 4,(hbA.below (hxW.trans (hq.mono hxW.size)) hbA.lt).cell 5,(hbA.below (hxW.trans (hq.mono hxW.size)) hbA.lt).cell 6,(hbA.below (hxW.trans (hq.mono hxW.size)) hbA.lt).cell 7,(hbA.below (hxW.trans (hq.mono hxW.size)) hbA.lt).cell 8,(hbA.below (hxW.trans (hq.mono hxW.size)) hbA.lt).cell 9,(hbA.below (hxW.trans (hq.mono hxW.size)) hbA.lt).cell 10,(hbA.below (hxW.trans (hq.mono hxW.size)) hbA.lt).cell 11,(hbA.below (hxW.trans (hq.mono hxW.size)) hbA.lt).cell 12,(hbB.below (hxW.trans (hq.mono hxW.size)) hbB.lt).cell 0,(hbB.below (hxW.trans (hq.mono hxW.size)) hbB.lt).cell 1,(hbY.below hq hbY.lt).cell 0,(hbY.below hq hbY.lt).cell 1,(hbY.below hq hbY.lt).cell 2,(hbY.below hq hbY.lt).cell 3,(hbY.below hq hbY.lt).cell 4,(hbY.below hq hbY.lt).cell 5,(hbY.below hq hbY.lt).cell 6,(hbY.below hq hbY.lt).cell 7,(hbY.below hq hbY.lt).cell 8,(hbY.below hq hbY.lt).cell 9,(hbY.below hq hbY.lt).cell 10,(hbY.below hq hbY.lt).cell 11,(hbY.below hq hbY.lt).cell 12,(hbZ.below hq hbZ.lt).cell 0,(hbZ.below hq hbZ.lt).cell 1,(hbZ.below hq hbZ.lt).cell 2,(hbZ.below hq hbZ.lt).cell 3,(hbZ.below hq hbZ.lt).cell 4,(hbZ.below hq hbZ.lt).cell 5,(hbZ.below hq hbZ.lt).cell 6,(hbZ.below hq hbZ.lt).cell 7,(hbZ.below hq hbZ.lt).cell 8,(hbZ.below hq hbZ.lt).cell 9,(hbZ.below hq hbZ.lt).cell 10,(hbZ.below hq hbZ.lt).cell 11,(hbZ.below hq hbZ.lt).cell 12,hq⟩:z.cell? ⟨w.heap.size,0,none⟩=some (.slice AEx s.entry.length cEx)/\z.cell? ⟨w.heap.size,1,none⟩=some (.int .i64 s.place)/\z.cell? ⟨w.heap.size,2,none⟩=some (.int .i64 s.shard)/\z.cell? ⟨w.heap.size,3,none⟩=some (.slice APx s.path.length cPx)/\z.cell? ⟨w.heap.size,4,none⟩=some (.int .i64 s.rcd.sh)/\z.cell? ⟨w.heap.size,5,none⟩=some (.int .i64 s.rcd.fr)/\z.cell? ⟨w.heap.size,6,none⟩=some (.int .i64 s.rcd.to)/\z.cell? ⟨w.heap.size,7,none⟩=some (.int .i64 s.rcd.sz)/\z.cell? ⟨w.heap.size,8,none⟩=some (.slice ARx s.rcd.root.length cRx)/\z.cell? ⟨w.heap.size,9,none⟩=some (.int .i64 s.row)/\z.cell? ⟨w.heap.size,10,none⟩=some (.slice ABx s.bpath.length cBx)/\z.cell? ⟨w.heap.size,11,none⟩=some (.int .i64 s.hsz)/\z.cell? ⟨w.heap.size,12,none⟩=some (.slice AHx s.hroot.length cHx)/\z.cell? ⟨w.heap.size+1,0,none⟩=some (.int .i64 hsz)/\z.cell? ⟨w.heap.size+1,1,none⟩=some (.slice AK hroot.length cK)/\z.cell? ⟨gY,0,none⟩=some (.slice AEy sh.entry.length cEy)/\z.cell? ⟨gY,1,none⟩=some (.int .i64 sh.place)/\z.cell? ⟨gY,2,none⟩=some (.int .i64 sh.shard)/\z.cell? ⟨gY,3,none⟩=some (.slice APy sh.path.length cPy)/\z.cell? ⟨gY,4,none⟩=some (.int .i64 sh.rcd.sh)/\z.cell? ⟨gY,5,none⟩=some (.int .i64 sh.rcd.fr)/\z.cell? ⟨gY,6,none⟩=some (.int .i64 sh.rcd.to)/\z.cell? ⟨gY,7,none⟩=some (.int .i64 sh.rcd.sz)/\z.cell? ⟨gY,8,none⟩=some (.slice ARy sh.rcd.root.length cRy)/\z.cell? ⟨gY,9,none⟩=some (.int .i64 sh.row)/\z.cell? ⟨gY,10,none⟩=some (.slice ABy sh.bpath.length cBy)/\z.cell? ⟨gY,11,none⟩=some (.int .i64 sh.hsz)/\z.cell? ⟨gY,12,none⟩=some (.slice AHy sh.hroot.length cHy)/\z.cell? ⟨gZ,0,none⟩=some (.slice AEz sh.entry.length cEz)/\z.cell? ⟨gZ,1,none⟩=some (.int .i64 sh.place)/\z.cell? ⟨gZ,2,none⟩=some (.int .i64 sh.shard)/\z.cell? ⟨gZ,3,none⟩=some (.slice APz sh.path.length cPz)/\z.cell? ⟨gZ,4,none⟩=some (.int .i64 sh.rcd.sh)/\z.cell? ⟨gZ,5,none⟩=some (.int .i64 sh.rcd.fr)/\z.cell? ⟨gZ,6,none⟩=some (.int .i64 sh.rcd.to)/\z.cell? ⟨gZ,7,none⟩=some (.int .i64 sh.rcd.sz)/\z.cell? ⟨gZ,8,none⟩=some (.slice ARz sh.rcd.root.length cRz)/\z.cell? ⟨gZ,9,none⟩=some (.int .i64 sh.row)/\z.cell? ⟨gZ,10,none⟩=some (.slice ABz sh.bpath.length cBz)/\z.cell? ⟨gZ,11,none⟩=some (.int .i64 sh.hsz)/\z.cell? ⟨gZ,12,none⟩=some (.slice AHz sh.hroot.length cHz)/\Below w7.heap.size w7 z)
   have HK:=Lib.hid (fun (z z':World) (h:z.cell? ⟨w.heap.size,0,none⟩=some (.slice AEx s.entry.length cEx)/\z.cell? ⟨w.heap.size,1,none⟩=some (.int .i64 s.place)/\z.cell? ⟨w.heap.size,2,none⟩=some (.int .i64 s.shard)/\z.cell? ⟨w.heap.size,3,none⟩=some (.slice APx s.path.length cPx)/\z.cell? ⟨w.heap.size,4,none⟩=some (.int .i64 s.rcd.sh)/\z.cell? ⟨w.heap.size,5,none⟩=some (.int .i64 s.rcd.fr)/\z.cell? ⟨w.heap.size,6,none⟩=some (.int .i64 s.rcd.to)/\z.cell? ⟨w.heap.size,7,none⟩=some (.int .i64 s.rcd.sz)/\z.cell? ⟨w.heap.size,8,none⟩=some (.slice ARx s.rcd.root.length cRx)/\z.cell? ⟨w.heap.size,9,none⟩=some (.int .i64 s.row)/\z.cell? ⟨w.heap.size,10,none⟩=some (.slice ABx s.bpath.length cBx)/\z.cell? ⟨w.heap.size,11,none⟩=some (.int .i64 s.hsz)/\z.cell? ⟨w.heap.size,12,none⟩=some (.slice AHx s.hroot.length cHx)/\z.cell? ⟨w.heap.size+1,0,none⟩=some (.int .i64 hsz)/\z.cell? ⟨w.heap.size+1,1,none⟩=some (.slice AK hroot.length cK)/\z.cell? ⟨gY,0,none⟩=some (.slice AEy sh.entry.length cEy)/\z.cell? ⟨gY,1,none⟩=some (.int .i64 sh.place)/\z.cell? ⟨gY,2,none⟩=some (.int .i64 sh.shard)/\z.cell? ⟨gY,3,none⟩=some (.slice APy sh.path.length cPy)/\z.cell? ⟨gY,4,none⟩=some (.int .i64 sh.rcd.sh)/\z.cell? ⟨gY,5,none⟩=some (.int .i64 sh.rcd.fr)/\z.cell? ⟨gY,6,none⟩=some (.int .i64 sh.rcd.to)/\z.cell? ⟨gY,7,none⟩=some (.int .i64 sh.rcd.sz)/\z.cell? ⟨gY,8,none⟩=some (.slice ARy sh.rcd.root.length cRy)/\z.cell? ⟨gY,9,none⟩=some (.int .i64 sh.row)/\z.cell? ⟨gY,10,none⟩=some (.slice ABy sh.bpath.length cBy)/\z.cell? ⟨gY,11,none⟩=some (.int .i64 sh.hsz)/\z.cell? ⟨gY,12,none⟩=some (.slice AHy sh.hroot.length cHy)/\z.cell? ⟨gZ,0,none⟩=some (.slice AEz sh.entry.length cEz)/\z.cell? ⟨gZ,1,none⟩=some (.int .i64 sh.place)/\z.cell? ⟨gZ,2,none⟩=some (.int .i64 sh.shard)/\z.cell? ⟨gZ,3,none⟩=some (.slice APz sh.path.length cPz)/\z.cell? ⟨gZ,4,none⟩=some (.int .i64 sh.rcd.sh)/\z.cell? ⟨gZ,5,none⟩=some (.int .i64 sh.rcd.fr)/\z.cell? ⟨gZ,6,none⟩=some (.int .i64 sh.rcd.to)/\z.cell? ⟨gZ,7,none⟩=some (.int .i64 sh.rcd.sz)/\z.cell? ⟨gZ,8,none⟩=some (.slice ARz sh.rcd.root.length cRz)/\z.cell? ⟨gZ,9,none⟩=some (.int .i64 sh.row)/\z.cell? ⟨gZ,10,none⟩=some (.slice ABz sh.bpath.length cBz)/\z.cell? ⟨gZ,11,none⟩=some (.int .i64 sh.hsz)/\z.cell? ⟨gZ,12,none⟩=some (.slice AHz sh.hroot.length cHz)/\Below w7.heap.size w7 z) (hx:Below z.heap.size z z')=>hC z' (h.2.2.2.2.2.2.2.2.2.2.2.2.2.2.2.2.2.2.2.2.2.2.2.2.2.2.2.2.2.2.2.2.2.2.2.2.2.2.2.2.2.trans (hx.mono h.2.2.2.2.2.2.2.2.2.2.2.2.2.2.2.2.2.2.2.2.2.2.2.2.2.2.2.2.2.2.2.2.2.2.2.2.2.2.2.2.2.size)))
   obtain ⟨cc0,cc1,cc2,cc3,cc4,cc5,cc6,cc7,cc8,cc9,cc10,cc11,cc12,cc13,cc14,cc15,cc16,cc17,cc18,cc19,cc20,cc21,cc22,cc23,cc24,cc25,cc26,cc27,cc28,cc29,cc30,cc31,cc32,cc33,cc34,cc35,cc36,cc37,cc38,cc39,cc40,-⟩:=hC _ (Below.refl _ _)
   clear hC hbA hbB hbY hbZ
   have HSS:=Lib.hid (fun (z:World) (hq:Below w7.heap.size w7 z)=>sameShown_yes z _ _ _ _ sh (Rp.below hA_ hq) (Rp.below hB_ hq))
   have HCK:=Lib.hid (fun (z:World) (hq:Below w7.heap.size w7 z)=>check_any z _ _ _ s hsz hroot _ (Rp.below h4_ hq) (Bytes.below h5 hq))
   have HRC:=Lib.hid (fun (z:World) (hq:Below w7.heap.size w7 z)=>rcheck_any z _ _ _ s hsz hroot _ (Rp.below h4_ hq) (Bytes.below h5 hq))
   generalize Fl.checkC s hsz hroot=ck at *
   clear hA_ hB_ h4_ h5
   go_region_held3 (fun z:World=>z.cell? ⟨w.heap.size,0,none⟩=some (.slice AEx s.entry.length cEx)/\z.cell? ⟨w.heap.size,1,none⟩=some (.int .i64 s.place)/\z.cell? ⟨w.heap.size,2,none⟩=some (.int .i64 s.shard)/\z.cell? ⟨w.heap.size,3,none⟩=some (.slice APx s.path.length cPx)/\z.cell? ⟨w.heap.size,4,none⟩=some (.int .i64 s.rcd.sh)/\z.cell? ⟨w.heap.size,5,none⟩=some (.int .i64 s.rcd.fr)/\z.cell? ⟨w.heap.size,6,none⟩=some (.int .i64 s.rcd.to)/\z.cell? ⟨w.heap.size,7,none⟩=some (.int .i64 s.rcd.sz)/\z.cell? ⟨w.heap.size,8,none⟩=some (.slice ARx s.rcd.root.length cRx)/\z.cell? ⟨w.heap.size,9,none⟩=some (.int .i64 s.row)/\z.cell? ⟨w.heap.size,10,none⟩=some (.slice ABx s.bpath.length cBx)/\z.cell? ⟨w.heap.size,11,none⟩=some (.int .i64 s.hsz)/\z.cell? ⟨w.heap.size,12,none⟩=some (.slice AHx s.hroot.length cHx)/\z.cell? ⟨w.heap.size+1,0,none⟩=some (.int .i64 hsz)/\z.cell? ⟨w.heap.size+1,1,none⟩=some (.slice AK hroot.length cK)/\z.cell? ⟨gY,0,none⟩=some (.slice AEy sh.entry.length cEy)/\z.cell? ⟨gY,1,none⟩=some (.int .i64 sh.place)/\z.cell? ⟨gY,2,none⟩=some (.int .i64 sh.shard)/\z.cell? ⟨gY,3,none⟩=some (.slice APy sh.path.length cPy)/\z.cell? ⟨gY,4,none⟩=some (.int .i64 sh.rcd.sh)/\z.cell? ⟨gY,5,none⟩=some (.int .i64 sh.rcd.fr)/\z.cell? ⟨gY,6,none⟩=some (.int .i64 sh.rcd.to)/\z.cell? ⟨gY,7,none⟩=some (.int .i64 sh.rcd.sz)/\z.cell? ⟨gY,8,none⟩=some (.slice ARy sh.rcd.root.length cRy)/\z.cell? ⟨gY,9,none⟩=some (.int .i64 sh.row)/\z.cell? ⟨gY,10,none⟩=some (.slice ABy sh.bpath.length cBy)/\z.cell? ⟨gY,11,none⟩=some (.int .i64 sh.hsz)/\z.cell? ⟨gY,12,none⟩=some (.slice AHy sh.hroot.length cHy)/\z.cell? ⟨gZ,0,none⟩=some (.slice AEz sh.entry.length cEz)/\z.cell? ⟨gZ,1,none⟩=some (.int .i64 sh.place)/\z.cell? ⟨gZ,2,none⟩=some (.int .i64 sh.shard)/\z.cell? ⟨gZ,3,none⟩=some (.slice APz sh.path.length cPz)/\z.cell? ⟨gZ,4,none⟩=some (.int .i64 sh.rcd.sh)/\z.cell? ⟨gZ,5,none⟩=some (.int .i64 sh.rcd.fr)/\z.cell? ⟨gZ,6,none⟩=some (.int .i64 sh.rcd.to)/\z.cell? ⟨gZ,7,none⟩=some (.int .i64 sh.rcd.sz)/\z.cell? ⟨gZ,8,none⟩=some (.slice ARz sh.rcd.root.length cRz)/\z.cell? ⟨gZ,9,none⟩=some (.int .i64 sh.row)/\z.cell? ⟨gZ,10,none⟩=some (.slice ABz sh.bpath.length cBz)/\z.cell? ⟨gZ,11,none⟩=some (.int .i64 sh.hsz)/\z.cell? ⟨gZ,12,none⟩=some (.slice AHz sh.hroot.length cHz)/\Below w7.heap.size w7 z) (first | assumption | exact ⟨cc0,cc1,cc2,cc3,cc4,cc5,cc6,cc7,cc8,cc9,cc10,cc11,cc12,cc13,cc14,cc15,cc16,cc17,cc18,cc19,cc20,cc21,cc22,cc23,cc24,cc25,cc26,cc27,cc28,cc29,cc30,cc31,cc32,cc33,cc34,cc35,cc36,cc37,cc38,cc39,cc40,(Below.refl _ _).drew⟩)
    (first
      | ((with_reducible refine (HSS.out _ (by exact And.right (And.right (And.right (And.right (And.right (And.right (And.right (And.right (And.right (And.right (And.right (And.right (And.right (And.right (And.right (And.right (And.right (And.right (And.right (And.right (And.right (And.right (And.right (And.right (And.right (And.right (And.right (And.right (And.right (And.right (And.right (And.right (And.right (And.right (And.right (And.right (And.right (And.right (And.right (And.right (And.right (by assumption))))))))))))))))))))))))))))))))))))))))))).mono ?_)
         rintro e y1 ⟨rfl,hy1⟩
         have hT1:=HK.out _ _ (by assumption) hy1)
      | ((with_reducible refine (HCK.out _ (by exact hT1.2.2.2.2.2.2.2.2.2.2.2.2.2.2.2.2.2.2.2.2.2.2.2.2.2.2.2.2.2.2.2.2.2.2.2.2.2.2.2.2.2)).mono ?_)
         rintro e y2 ⟨rfl,hy2⟩
         have hT2:=HK.out _ _ hT1 hy2)
      | ((with_reducible refine (HRC.out _ (by exact hT2.2.2.2.2.2.2.2.2.2.2.2.2.2.2.2.2.2.2.2.2.2.2.2.2.2.2.2.2.2.2.2.2.2.2.2.2.2.2.2.2.2)).mono ?_)
         rintro e y3 ⟨rfl,hy3⟩
         have hT3:=HK.out _ _ hT2 hy3))
   go_wp2_with fail
   go_ret
   exact ⟨rfl,hx07.trans (hT3.2.2.2.2.2.2.2.2.2.2.2.2.2.2.2.2.2.2.2.2.2.2.2.2.2.2.2.2.2.2.2.2.2.2.2.2.2.2.2.2.2.mono hx07.size)⟩
 · have hneX:((ax:Int) != 0)=true:=by rw [bne_iff_ne];omega
   go_wp2_with fail
   go_ret
   exact ⟨rfl,hxxB⟩
end Go.Proofs.Ytfdibjgmbdkbcaa
