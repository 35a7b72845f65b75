/-
  THE WALKS of yearref5.SameHead, of any heads, and of yearref5.SameShown, of the same. Conditions: what is read.
-/
import Derived.Test.YtfdibjgmbdkbcaaZGp
import Derived.Test.YtfdibjgmbdkbcaaZGv
import Derived.Test.YtfdibjgmbdkbcaaZGw
namespace Go.Proofs.Ytfdibjgmbdkbcaa
open Go.RowKit Go.Lib
set_option maxRecDepth 100000 in
set_option maxHeartbeats 1000000 in
theorem rsameHead_any (w:World) (F F':Nat->Prop) (n m:Int) (va vb:Value) (l k:Bs) (ha:Bytes w F va l) (hb:Bytes w F' vb k) :
 Calls Try.prog 58 #[.agg #[.int .i64 n,va],.agg #[.int .i64 m,vb]] w fun e w'=>e = .returned (.bool (decide (n=m)&&decide (l=k)))/\Below w.heap.size w w':=by
 obtain ⟨A,c,rfl⟩:=ha.form
 obtain ⟨A',c',rfl⟩:=hb.form
 have hx:=((Below.refl w.heap.size w).alloc (Nat.le_refl _) (.cells #[.int .i64 n,.slice A l.length c] 39)).alloc (by simp) (.cells #[.int .i64 m,.slice A' k.length c'] 39)
 have ha2:=(ha.alloc (.cells #[.int .i64 n,.slice A l.length c] 39)).alloc (.cells #[.int .i64 m,.slice A' k.length c'] 39)
 have hb2:=(hb.alloc (.cells #[.int .i64 n,.slice A l.length c] 39)).alloc (.cells #[.int .i64 m,.slice A' k.length c'] 39)
 by_cases hn:n=m
 · have hnB:(n==m)=true:=by rw [beq_iff_eq];exact hn
   have HN:=Lib.hid hn
   clear hn
   go_enter Try.func58,Try.ntmps58
   go_wp2_with fail
   refine (same_any _ _ _ _ _ l k ha2 hb2).mono ?_
   rintro e w1 ⟨rfl,n1,hw⟩
   have hx1:=below_drewN hx n1
   rw [<-hw] at hx1
   clear hw
   go_wp2_with fail
   go_ret
   exact ⟨by rw [HN.out,show (l==k)=decide (l=k) from by rw [Bool.eq_iff_iff];simp];simp,hx1⟩
 · have hnB:(n==m)=false:=by rw [beq_eq_false_iff_ne];exact hn
   have HN:=Lib.hid hn
   clear hn
   go_enter Try.func58,Try.ntmps58
   go_wp2_with fail
   go_ret
   exact ⟨by simp [HN.out],hx⟩
set_option maxRecDepth 100000 in
set_option maxHeartbeats 4000000 in
theorem sameShown_yes (w:World) (F F':Nat->Prop) (cs cs':List Value) (s:Shw) (hs:Rp.rd w F cs s) (hs':Rp.rd w F' cs' s) :
 Calls Try.prog 71 #[.agg cs.toArray,.agg cs'.toArray] w fun e w'=>e = .returned (.bool true)/\Below w.heap.size w w':=by
 obtain ⟨c1,c1',rfl,⟨ev,h1',h1⟩,c2,c2',rfl,h2,c3,c3',rfl,h3,c4,c4',rfl,⟨pv,h4',h4⟩,c5,c5',rfl,⟨r1,r1',rfl,e1,r2,r2',rfl,e2,r3,r3',rfl,e3,r4,r5,rfl,e4,rv,e5',e5⟩,c6,c6',rfl,h6,c7,c8,rfl,⟨bpv,h7',h7⟩,k1,k2,rfl,h8,hv2,h9',h9⟩:=hs
 have e2':c2=[.int .i64 s.place]:=h2
 have e3':c3=[.int .i64 s.shard]:=h3
 have f1':r1=[.int .i64 s.rcd.sh]:=e1
 have f2':r2=[.int .i64 s.rcd.fr]:=e2
 have f3':r3=[.int .i64 s.rcd.to]:=e3
 have f4':r4=[.int .i64 s.rcd.sz]:=e4
 have e6':c6=[.int .i64 s.row]:=h6
 have e8':k1=[.int .i64 s.hsz]:=h8
 subst h1' e2' e3' h4' f1' f2' f3' f4' e5' e6' h7' e8' h9'
 have bx1:=rdL_bytes.1 h1
 have bx4:=rdL_blist.1 h4
 have bx5:=rdL_bytes.1 e5
 have bx7:=rdL_blist.1 h7
 have bx9:=rdL_bytes.1 h9
 clear h1 h2 h3 h4 e1 e2 e3 e4 e5 h6 h7 h8 h9
 obtain ⟨AEx,cEx,rfl⟩:=bx1.form
 obtain ⟨APx,cPx,rfl,_,_,_⟩:=bx4.shape
 obtain ⟨ARx,cRx,rfl⟩:=bx5.form
 obtain ⟨ABx,cBx,rfl,_,_,_⟩:=bx7.shape
 obtain ⟨AHx,cHx,rfl⟩:=bx9.form
 obtain ⟨c1,c1',rfl,⟨ev,h1',h1⟩,c2,c2',rfl,h2,c3,c3',rfl,h3,c4,c4',rfl,⟨pv,h4',h4⟩,c5,c5',rfl,⟨r1,r1',rfl,e1,r2,r2',rfl,e2,r3,r3',rfl,e3,r4,r5,rfl,e4,rv,e5',e5⟩,c6,c6',rfl,h6,c7,c8,rfl,⟨bpv,h7',h7⟩,k1,k2,rfl,h8,hv2,h9',h9⟩:=hs'
 have e2':c2=[.int .i64 s.place]:=h2
 have e3':c3=[.int .i64 s.shard]:=h3
 have f1':r1=[.int .i64 s.rcd.sh]:=e1
 have f2':r2=[.int .i64 s.rcd.fr]:=e2
 have f3':r3=[.int .i64 s.rcd.to]:=e3
 have f4':r4=[.int .i64 s.rcd.sz]:=e4
 have e6':c6=[.int .i64 s.row]:=h6
 have e8':k1=[.int .i64 s.hsz]:=h8
 subst h1' e2' e3' h4' f1' f2' f3' f4' e5' e6' h7' e8' h9'
 have by1:=rdL_bytes.1 h1
 have by4:=rdL_blist.1 h4
 have by5:=rdL_bytes.1 e5
 have by7:=rdL_blist.1 h7
 have by9:=rdL_bytes.1 h9
 clear h1 h2 h3 h4 e1 e2 e3 e4 e5 h6 h7 h8 h9
 obtain ⟨AEy,cEy,rfl⟩:=by1.form
 obtain ⟨APy,cPy,rfl,_,_,_⟩:=by4.shape
 obtain ⟨ARy,cRy,rfl⟩:=by5.form
 obtain ⟨ABy,cBy,rfl,_,_,_⟩:=by7.shape
 obtain ⟨AHy,cHy,rfl⟩:=by9.form
 have hx1:=((Below.refl w.heap.size w).alloc (Nat.le_refl _) (.cells #[.slice AEx s.entry.length cEx,.int .i64 s.place,.int .i64 s.shard,.slice APx s.path.length cPx,.int .i64 s.rcd.sh,.int .i64 s.rcd.fr,.int .i64 s.rcd.to,.int .i64 s.rcd.sz,.slice ARx s.rcd.root.length cRx,.int .i64 s.row,.slice ABx s.bpath.length cBx,.int .i64 s.hsz,.slice AHx s.hroot.length cHx] 89)).alloc (by simp) (.cells #[.slice AEy s.entry.length cEy,.int .i64 s.place,.int .i64 s.shard,.slice APy s.path.length cPy,.int .i64 s.rcd.sh,.int .i64 s.rcd.fr,.int .i64 s.rcd.to,.int .i64 s.rcd.sz,.slice ARy s.rcd.root.length cRy,.int .i64 s.row,.slice ABy s.bpath.length cBy,.int .i64 s.hsz,.slice AHy s.hroot.length cHy] 89)
 have hbA:Blk ((w.alloc (.cells #[.slice AEx s.entry.length cEx,.int .i64 s.place,.int .i64 s.shard,.slice APx s.path.length cPx,.int .i64 s.rcd.sh,.int .i64 s.rcd.fr,.int .i64 s.rcd.to,.int .i64 s.rcd.sz,.slice ARx s.rcd.root.length cRx,.int .i64 s.row,.slice ABx s.bpath.length cBx,.int .i64 s.hsz,.slice AHx s.hroot.length cHx] 89)).alloc (.cells #[.slice AEy s.entry.length cEy,.int .i64 s.place,.int .i64 s.shard,.slice APy s.path.length cPy,.int .i64 s.rcd.sh,.int .i64 s.rcd.fr,.int .i64 s.rcd.to,.int .i64 s.rcd.sz,.slice ARy s.rcd.root.length cRy,.int .i64 s.row,.slice ABy s.bpath.length cBy,.int .i64 s.hsz,.slice AHy s.hroot.length cHy] 89)) w.heap.size 89 #[.slice AEx s.entry.length cEx,.int .i64 s.place,.int .i64 s.shard,.slice APx s.path.length cPx,.int .i64 s.rcd.sh,.int .i64 s.rcd.fr,.int .i64 s.rcd.to,.int .i64 s.rcd.sz,.slice ARx s.rcd.root.length cRx,.int .i64 s.row,.slice ABx s.bpath.length cBx,.int .i64 s.hsz,.slice AHx s.hroot.length cHx]:=Blk.alloc (heap_alloc_new w _) _
 have hbB:Blk ((w.alloc (.cells #[.slice AEx s.entry.length cEx,.int .i64 s.place,.int .i64 s.shard,.slice APx s.path.length cPx,.int .i64 s.rcd.sh,.int .i64 s.rcd.fr,.int .i64 s.rcd.to,.int .i64 s.rcd.sz,.slice ARx s.rcd.root.length cRx,.int .i64 s.row,.slice ABx s.bpath.length cBx,.int .i64 s.hsz,.slice AHx s.hroot.length cHx] 89)).alloc (.cells #[.slice AEy s.entry.length cEy,.int .i64 s.place,.int .i64 s.shard,.slice APy s.path.length cPy,.int .i64 s.rcd.sh,.int .i64 s.rcd.fr,.int .i64 s.rcd.to,.int .i64 s.rcd.sz,.slice ARy s.rcd.root.length cRy,.int .i64 s.row,.slice ABy s.bpath.length cBy,.int .i64 s.hsz,.slice AHy s.hroot.length cHy] 89)) (w.heap.size+1) 89 #[.slice AEy s.entry.length cEy,.int .i64 s.place,.int .i64 s.shard,.slice APy s.path.length cPy,.int .i64 s.rcd.sh,.int .i64 s.rcd.fr,.int .i64 s.rcd.to,.int .i64 s.rcd.sz,.slice ARy s.rcd.root.length cRy,.int .i64 s.row,.slice ABy s.bpath.length cBy,.int .i64 s.hsz,.slice AHy s.hroot.length cHy]:=by
  have:=heap_alloc_new (w.alloc (.cells #[.slice AEx s.entry.length cEx,.int .i64 s.place,.int .i64 s.shard,.slice APx s.path.length cPx,.int .i64 s.rcd.sh,.int .i64 s.rcd.fr,.int .i64 s.rcd.to,.int .i64 s.rcd.sz,.slice ARx s.rcd.root.length cRx,.int .i64 s.row,.slice ABx s.bpath.length cBx,.int .i64 s.hsz,.slice AHx s.hroot.length cHx] 89)) (.cells #[.slice AEy s.entry.length cEy,.int .i64 s.place,.int .i64 s.shard,.slice APy s.path.length cPy,.int .i64 s.rcd.sh,.int .i64 s.rcd.fr,.int .i64 s.rcd.to,.int .i64 s.rcd.sz,.slice ARy s.rcd.root.length cRy,.int .i64 s.row,.slice ABy s.bpath.length cBy,.int .i64 s.hsz,.slice AHy s.hroot.length cHy] 89)
  rw [World.size_alloc] at this
  exact this
 have HC:=Lib.hid (fun (z:World) (hz:Below ((w.alloc (.cells #[.slice AEx s.entry.length cEx,.int .i64 s.place,.int .i64 s.shard,.slice APx s.path.length cPx,.int .i64 s.rcd.sh,.int .i64 s.rcd.fr,.int .i64 s.rcd.to,.int .i64 s.rcd.sz,.slice ARx s.rcd.root.length cRx,.int .i64 s.row,.slice ABx s.bpath.length cBx,.int .i64 s.hsz,.slice AHx s.hroot.length cHx] 89)).alloc (.cells #[.slice AEy s.entry.length cEy,.int .i64 s.place,.int .i64 s.shard,.slice APy s.path.length cPy,.int .i64 s.rcd.sh,.int .i64 s.rcd.fr,.int .i64 s.rcd.to,.int .i64 s.rcd.sz,.slice ARy s.rcd.root.length cRy,.int .i64 s.row,.slice ABy s.bpath.length cBy,.int .i64 s.hsz,.slice AHy s.hroot.length cHy] 89)).heap.size ((w.alloc (.cells #[.slice AEx s.entry.length cEx,.int .i64 s.place,.int .i64 s.shard,.slice APx s.path.length cPx,.int .i64 s.rcd.sh,.int .i64 s.rcd.fr,.int .i64 s.rcd.to,.int .i64 s.rcd.sz,.slice ARx s.rcd.root.length cRx,.int .i64 s.row,.slice ABx s.bpath.length cBx,.int .i64 s.hsz,.slice AHx s.hroot.length cHx] 89)).alloc (.cells #[.slice AEy s.entry.length cEy,.int .i64 s.place,.int .i64 s.shard,.slice APy s.path.length cPy,.int .i64 s.rcd.sh,.int .i64 s.rcd.fr,.int .i64 s.rcd.to,.int .i64 s.rcd.sz,.slice ARy s.rcd.root.length cRy,.int .i64 s.row,.slice ABy s.bpath.length cBy,.int .i64 s.hsz,.slice AHy s.hroot.length cHy] 89)) z)=>(⟨(hbA.below hz hbA.lt).cell 0,(hbA.below hz hbA.lt).cell 1,(hbA.below hz hbA.lt).cell 2,(hbA.below hz hbA.lt).cell 3,(hbA.below hz hbA.lt).cell 4,(hbA.below hz hbA.lt).cell 5,(hbA.below hz hbA.lt).cell 6,(hbA.below hz hbA.lt).cell 7,(hbA.below hz hbA.lt).cell 8,(hbA.below hz hbA.lt).cell 9,(hbA.below hz hbA.lt).cell 10,(hbA.below hz hbA.lt).cell 11,(hbA.below hz hbA.lt).cell 12,(hbB.below hz hbB.lt).cell 0,(hbB.below hz hbB.lt).cell 1,(hbB.below hz hbB.lt).cell 2,(hbB.below hz hbB.lt).cell 3,(hbB.below hz hbB.lt).cell 4,(hbB.below hz hbB.lt).cell 5,(hbB.below hz hbB.lt).cell 6,(hbB.below hz hbB.lt).cell 7,(hbB.below hz hbB.lt).cell 8,(hbB.below hz hbB.lt).cell 9,(hbB.below hz hbB.lt).cell 10,(hbB.below hz hbB.lt).cell 11,(hbB.below hz hbB.lt).cell 12⟩:z.cell? ⟨w.heap.size,0,none⟩=some (.slice AEx s.entry.length cEx)/\z.cell? ⟨w.heap.size,1,none⟩=some (.int .i64 s.place)/\z.cell? ⟨w.heap.size,2,none⟩=some (.int .i64 s.shard)/\z.cell? ⟨w.heap.size,3,none⟩=some (.slice APx s.path.length cPx)/\z.cell? ⟨w.heap.size,4,none⟩=some (.int .i64 s.rcd.sh)/\z.cell? ⟨w.heap.size,5,none⟩=some (.int .i64 s.rcd.fr)/\z.cell? ⟨w.heap.size,6,none⟩=some (.int .i64 s.rcd.to)/\z.cell? ⟨w.heap.size,7,none⟩=some (.int .i64 s.rcd.sz)/\z.cell? ⟨w.heap.size,8,none⟩=some (.slice ARx s.rcd.root.length cRx)/\z.cell? ⟨w.heap.size,9,none⟩=some (.int .i64 s.row)/\z.cell? ⟨w.heap.size,10,none⟩=some (.slice ABx s.bpath.length cBx)/\z.cell? ⟨w.heap.size,11,none⟩=some (.int .i64 s.hsz)/\z.cell? ⟨w.heap.size,12,none⟩=some (.slice AHx s.hroot.length cHx)/\z.cell? ⟨w.heap.size+1,0,none⟩=some (.slice AEy s.entry.length cEy)/\z.cell? ⟨w.heap.size+1,1,none⟩=some (.int .i64 s.place)/\z.cell? ⟨w.heap.size+1,2,none⟩=some (.int .i64 s.shard)/\z.cell? ⟨w.heap.size+1,3,none⟩=some (.slice APy s.path.length cPy)/\z.cell? ⟨w.heap.size+1,4,none⟩=some (.int .i64 s.rcd.sh)/\z.cell? ⟨w.heap.size+1,5,none⟩=some (.int .i64 s.rcd.fr)/\z.cell? ⟨w.heap.size+1,6,none⟩=some (.int .i64 s.rcd.to)/\z.cell? ⟨w.heap.size+1,7,none⟩=some (.int .i64 s.rcd.sz)/\z.cell? ⟨w.heap.size+1,8,none⟩=some (.slice ARy s.rcd.root.length cRy)/\z.cell? ⟨w.heap.size+1,9,none⟩=some (.int .i64 s.row)/\z.cell? ⟨w.heap.size+1,10,none⟩=some (.slice ABy s.bpath.length cBy)/\z.cell? ⟨w.heap.size+1,11,none⟩=some (.int .i64 s.hsz)/\z.cell? ⟨w.heap.size+1,12,none⟩=some (.slice AHy s.hroot.length cHy)))
 clear hbA hbB
 go_enter Try.func71,Try.ntmps71
 go_upto_region 1 with (fail)
 replace bx1:=Bytes.below bx1 hx1
 replace by1:=Bytes.below by1 hx1
 replace bx5:=Bytes.below bx5 hx1
 replace by5:=Bytes.below by5 hx1
 replace bx9:=Bytes.below bx9 hx1
 replace by9:=Bytes.below by9 hx1
 replace bx4:=BList.below bx4 hx1
 replace by4:=BList.below by4 hx1
 replace bx7:=BList.below bx7 hx1
 replace by7:=BList.below by7 hx1
 generalize ((w.alloc (.cells #[.slice AEx s.entry.length cEx,.int .i64 s.place,.int .i64 s.shard,.slice APx s.path.length cPx,.int .i64 s.rcd.sh,.int .i64 s.rcd.fr,.int .i64 s.rcd.to,.int .i64 s.rcd.sz,.slice ARx s.rcd.root.length cRx,.int .i64 s.row,.slice ABx s.bpath.length cBx,.int .i64 s.hsz,.slice AHx s.hroot.length cHx] 89)).alloc (.cells #[.slice AEy s.entry.length cEy,.int .i64 s.place,.int .i64 s.shard,.slice APy s.path.length cPy,.int .i64 s.rcd.sh,.int .i64 s.rcd.fr,.int .i64 s.rcd.to,.int .i64 s.rcd.sz,.slice ARy s.rcd.root.length cRy,.int .i64 s.row,.slice ABy s.bpath.length cBy,.int .i64 s.hsz,.slice AHy s.hroot.length cHy] 89))=w1 at *
 obtain ⟨a0,a1,a2,a3,a4,a5,a6,a7,a8,a9,a10,a11,a12,d0,d1,d2,d3,d4,d5,d6,d7,d8,d9,d10,d11,d12⟩:=HC.out _ (Below.refl _ _)
 go_wp2_with fail
 clear a0 a1 a2 a3 a4 a5 a6 a7 a8 a9 a10 a11 a12 d0 d1 d2 d3 d4 d5 d6 d7 d8 d9 d10 d11 d12
 refine (same_any w1 _ _ _ _ s.entry s.entry bx1 by1).mono ?_
 rintro e w2 ⟨rfl,n2,hw2⟩
 rw [beq_self_eq_true]
 have hz2:=below_drewN (Below.refl w1.heap.size w1) n2
 rw [<-hw2] at hz2
 clear hw2
 obtain ⟨a0,a1,a2,a3,a4,a5,a6,a7,a8,a9,a10,a11,a12,d0,d1,d2,d3,d4,d5,d6,d7,d8,d9,d10,d11,d12⟩:=HC.out _ hz2
 go_wp2_with fail
 clear a0 a1 a2 a3 a4 a5 a6 a7 a8 a9 a10 a11 a12 d0 d1 d2 d3 d4 d5 d6 d7 d8 d9 d10 d11 d12
 refine (same2_yes w2 _ _ _ _ s.path (BList.below bx4 hz2) (BList.below by4 hz2)).mono ?_
 rintro e w3 ⟨rfl,n3,hw3⟩
 have hz3:=below_drewN hz2 n3
 rw [<-hw3] at hz3
 clear hw3
 obtain ⟨a0,a1,a2,a3,a4,a5,a6,a7,a8,a9,a10,a11,a12,d0,d1,d2,d3,d4,d5,d6,d7,d8,d9,d10,d11,d12⟩:=HC.out _ hz3
 go_wp2_with fail
 clear a0 a1 a2 a3 a4 a5 a6 a7 a8 a9 a10 a11 a12 d0 d1 d2 d3 d4 d5 d6 d7 d8 d9 d10 d11 d12
 refine (sameRec_yes w3 _ _ s.rcd.sh s.rcd.fr s.rcd.to s.rcd.sz _ _ s.rcd.root (Bytes.below bx5 hz3) (Bytes.below by5 hz3)).mono ?_
 rintro e w4 ⟨rfl,hy4⟩
 have hz4:=hz3.trans (hy4.mono hz3.size)
 obtain ⟨a0,a1,a2,a3,a4,a5,a6,a7,a8,a9,a10,a11,a12,d0,d1,d2,d3,d4,d5,d6,d7,d8,d9,d10,d11,d12⟩:=HC.out _ hz4
 go_wp2_with fail
 clear a0 a1 a2 a3 a4 a5 a6 a7 a8 a9 a10 a11 a12 d0 d1 d2 d3 d4 d5 d6 d7 d8 d9 d10 d11 d12
 refine (same2_yes w4 _ _ _ _ s.bpath (BList.below bx7 hz4) (BList.below by7 hz4)).mono ?_
 rintro e w5 ⟨rfl,n5,hw5⟩
 have hz5:=below_drewN hz4 n5
 rw [<-hw5] at hz5
 clear hw5
 obtain ⟨a0,a1,a2,a3,a4,a5,a6,a7,a8,a9,a10,a11,a12,d0,d1,d2,d3,d4,d5,d6,d7,d8,d9,d10,d11,d12⟩:=HC.out _ hz5
 go_wp2_with fail
 clear a0 a1 a2 a3 a4 a5 a6 a7 a8 a9 a10 a11 a12 d0 d1 d2 d3 d4 d5 d6 d7 d8 d9 d10 d11 d12
 refine (sameHead_yes w5 _ _ s.hsz _ _ s.hroot (Bytes.below bx9 hz5) (Bytes.below by9 hz5)).mono ?_
 rintro e w6 ⟨rfl,hy6⟩
 have hz6:=hz5.trans (hy6.mono hz5.size)
 go_wp2_with fail
 go_ret
 exact ⟨rfl,hx1.trans (hz6.mono hx1.size)⟩
end Go.Proofs.Ytfdibjgmbdkbcaa
