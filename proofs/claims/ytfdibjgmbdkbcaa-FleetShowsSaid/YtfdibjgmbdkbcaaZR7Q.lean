/-
  THE WALK of yearref5.Check. Conditions: what is read is what is shown, and a head.
-/
import Derived.Test.YtfdibjgmbdkbcaaZR5A
import Derived.Test.YtfdibjgmbdkbcaaZR2CD
import Derived.Test.YtfdibjgmbdkbcaaZR7P
namespace Go.Proofs.Ytfdibjgmbdkbcaa
open Go.RowKit Go.Lib
set_option maxRecDepth 100000 in
set_option maxHeartbeats 16000000 in
theorem rcheck_any (w:World) (F F':Nat->Prop) (cs:List Value) (s:Shw) (hsz:Int) (hroot:Bs) (hv:Value) (hrd:Rp.rd w F cs s) (hh:Bytes w F' hv hroot) :
 Calls Try.prog 73 #[.agg cs.toArray,.agg #[.int .i64 hsz,hv]] w fun e w'=>e = .returned (.bool (Fl.checkC s hsz hroot))/\Below w.heap.size w w':=by
 obtain ⟨c1,c1',rfl,⟨ev,h1',h1⟩,c2,c2',rfl,h2,c3,c3',rfl,h3,c4,c4',rfl,⟨pv,h4',h4⟩,c5,c5',rfl,⟨r1,r1',rfl,e1,r2,r2',rfl,e2,r3,r3',rfl,e3,r4,r5,rfl,e4,rv,e5',e5⟩,c6,c6',rfl,h6,c7,c8,rfl,⟨bpv,h7',h7⟩,k1,k2,rfl,h8,hv2,h9',h9⟩:=hrd
 have e2':c2=[.int .i64 s.place]:=h2
 have e3':c3=[.int .i64 s.shard]:=h3
 have f1':r1=[.int .i64 s.rcd.sh]:=e1
 have f2':r2=[.int .i64 s.rcd.fr]:=e2
 have f3':r3=[.int .i64 s.rcd.to]:=e3
 have f4':r4=[.int .i64 s.rcd.sz]:=e4
 have e6':c6=[.int .i64 s.row]:=h6
 have e8':k1=[.int .i64 s.hsz]:=h8
 subst h1' e2' e3' h4' f1' f2' f3' f4' e5' e6' h7' e8' h9'
 have bx1:=rdL_bytes.1 h1
 have bx4:=rdL_blist.1 h4
 have bx5:=rdL_bytes.1 e5
 have bx7:=rdL_blist.1 h7
 have bx9:=rdL_bytes.1 h9
 clear h1 h2 h3 h4 e1 e2 e3 e4 e5 h6 h7 h8 h9
 obtain ⟨AEx,cEx,rfl⟩:=bx1.form
 obtain ⟨APx,cPx,rfl,_,_,_⟩:=bx4.shape
 obtain ⟨ARx,cRx,rfl⟩:=bx5.form
 obtain ⟨ABx,cBx,rfl,_,_,_⟩:=bx7.shape
 obtain ⟨AHx,cHx,rfl⟩:=bx9.form
 obtain ⟨AK,cK,rfl⟩:=hh.form
 have hx1:=((Below.refl w.heap.size w).alloc (Nat.le_refl _) (.cells #[.slice AEx s.entry.length cEx,.int .i64 s.place,.int .i64 s.shard,.slice APx s.path.length cPx,.int .i64 s.rcd.sh,.int .i64 s.rcd.fr,.int .i64 s.rcd.to,.int .i64 s.rcd.sz,.slice ARx s.rcd.root.length cRx,.int .i64 s.row,.slice ABx s.bpath.length cBx,.int .i64 s.hsz,.slice AHx s.hroot.length cHx] 89)).alloc (by simp) (.cells #[.int .i64 hsz,.slice AK hroot.length cK] 39)
 have hbA:Blk ((w.alloc (.cells #[.slice AEx s.entry.length cEx,.int .i64 s.place,.int .i64 s.shard,.slice APx s.path.length cPx,.int .i64 s.rcd.sh,.int .i64 s.rcd.fr,.int .i64 s.rcd.to,.int .i64 s.rcd.sz,.slice ARx s.rcd.root.length cRx,.int .i64 s.row,.slice ABx s.bpath.length cBx,.int .i64 s.hsz,.slice AHx s.hroot.length cHx] 89)).alloc (.cells #[.int .i64 hsz,.slice AK hroot.length cK] 39)) w.heap.size 89 #[.slice AEx s.entry.length cEx,.int .i64 s.place,.int .i64 s.shard,.slice APx s.path.length cPx,.int .i64 s.rcd.sh,.int .i64 s.rcd.fr,.int .i64 s.rcd.to,.int .i64 s.rcd.sz,.slice ARx s.rcd.root.length cRx,.int .i64 s.row,.slice ABx s.bpath.length cBx,.int .i64 s.hsz,.slice AHx s.hroot.length cHx]:=Blk.alloc (heap_alloc_new w _) _
 have hbB:Blk ((w.alloc (.cells #[.slice AEx s.entry.length cEx,.int .i64 s.place,.int .i64 s.shard,.slice APx s.path.length cPx,.int .i64 s.rcd.sh,.int .i64 s.rcd.fr,.int .i64 s.rcd.to,.int .i64 s.rcd.sz,.slice ARx s.rcd.root.length cRx,.int .i64 s.row,.slice ABx s.bpath.length cBx,.int .i64 s.hsz,.slice AHx s.hroot.length cHx] 89)).alloc (.cells #[.int .i64 hsz,.slice AK hroot.length cK] 39)) (w.heap.size+1) 39 #[.int .i64 hsz,.slice AK hroot.length cK]:=by
  have:=heap_alloc_new (w.alloc (.cells #[.slice AEx s.entry.length cEx,.int .i64 s.place,.int .i64 s.shard,.slice APx s.path.length cPx,.int .i64 s.rcd.sh,.int .i64 s.rcd.fr,.int .i64 s.rcd.to,.int .i64 s.rcd.sz,.slice ARx s.rcd.root.length cRx,.int .i64 s.row,.slice ABx s.bpath.length cBx,.int .i64 s.hsz,.slice AHx s.hroot.length cHx] 89)) (.cells #[.int .i64 hsz,.slice AK hroot.length cK] 39)
  rw [World.size_alloc] at this
  exact this
 obtain ⟨w1,hw1⟩:∃ z,z=((w.alloc (.cells #[.slice AEx s.entry.length cEx,.int .i64 s.place,.int .i64 s.shard,.slice APx s.path.length cPx,.int .i64 s.rcd.sh,.int .i64 s.rcd.fr,.int .i64 s.rcd.to,.int .i64 s.rcd.sz,.slice ARx s.rcd.root.length cRx,.int .i64 s.row,.slice ABx s.bpath.length cBx,.int .i64 s.hsz,.slice AHx s.hroot.length cHx] 89)).alloc (.cells #[.int .i64 hsz,.slice AK hroot.length cK] 39)):=⟨_,rfl⟩
 have HW1:=Lib.hid hw1
 rw [<-hw1] at hx1 hbA hbB
 clear hw1
 have hC:=fun (z:World) (hz:Below w1.heap.size w1 z)=>(⟨(hbA.below hz hbA.lt).cell 0,(hbA.below hz hbA.lt).cell 1,(hbA.below hz hbA.lt).cell 2,(hbA.below hz hbA.lt).cell 3,(hbA.below hz hbA.lt).cell 4,(hbA.below hz hbA.lt).cell 5,(hbA.below hz hbA.lt).cell 6,(hbA.below hz hbA.lt).cell 7,(hbA.below hz hbA.lt).cell 8,(hbA.below hz hbA.lt).cell 9,(hbA.below hz hbA.lt).cell 10,(hbA.below hz hbA.lt).cell 11,(hbA.below hz hbA.lt).cell 12,(hbB.below hz hbB.lt).cell 0,(hbB.below hz hbB.lt).cell 1,hz⟩:z.cell? ⟨w.heap.size,0,none⟩=some (.slice AEx s.entry.length cEx)/\z.cell? ⟨w.heap.size,1,none⟩=some (.int .i64 s.place)/\z.cell? ⟨w.heap.size,2,none⟩=some (.int .i64 s.shard)/\z.cell? ⟨w.heap.size,3,none⟩=some (.slice APx s.path.length cPx)/\z.cell? ⟨w.heap.size,4,none⟩=some (.int .i64 s.rcd.sh)/\z.cell? ⟨w.heap.size,5,none⟩=some (.int .i64 s.rcd.fr)/\z.cell? ⟨w.heap.size,6,none⟩=some (.int .i64 s.rcd.to)/\z.cell? ⟨w.heap.size,7,none⟩=some (.int .i64 s.rcd.sz)/\z.cell? ⟨w.heap.size,8,none⟩=some (.slice ARx s.rcd.root.length cRx)/\z.cell? ⟨w.heap.size,9,none⟩=some (.int .i64 s.row)/\z.cell? ⟨w.heap.size,10,none⟩=some (.slice ABx s.bpath.length cBx)/\z.cell? ⟨w.heap.size,11,none⟩=some (.int .i64 s.hsz)/\z.cell? ⟨w.heap.size,12,none⟩=some (.slice AHx s.hroot.length cHx)/\z.cell? ⟨w.heap.size+1,0,none⟩=some (.int .i64 hsz)/\z.cell? ⟨w.heap.size+1,1,none⟩=some (.slice AK hroot.length cK)/\Below w1.heap.size w1 z)
 have HK:=Lib.hid (fun (z z':World) (h:z.cell? ⟨w.heap.size,0,none⟩=some (.slice AEx s.entry.length cEx)/\z.cell? ⟨w.heap.size,1,none⟩=some (.int .i64 s.place)/\z.cell? ⟨w.heap.size,2,none⟩=some (.int .i64 s.shard)/\z.cell? ⟨w.heap.size,3,none⟩=some (.slice APx s.path.length cPx)/\z.cell? ⟨w.heap.size,4,none⟩=some (.int .i64 s.rcd.sh)/\z.cell? ⟨w.heap.size,5,none⟩=some (.int .i64 s.rcd.fr)/\z.cell? ⟨w.heap.size,6,none⟩=some (.int .i64 s.rcd.to)/\z.cell? ⟨w.heap.size,7,none⟩=some (.int .i64 s.rcd.sz)/\z.cell? ⟨w.heap.size,8,none⟩=some (.slice ARx s.rcd.root.length cRx)/\z.cell? ⟨w.heap.size,9,none⟩=some (.int .i64 s.row)/\z.cell? ⟨w.heap.size,10,none⟩=some (.slice ABx s.bpath.length cBx)/\z.cell? ⟨w.heap.size,11,none⟩=some (.int .i64 s.hsz)/\z.cell? ⟨w.heap.size,12,none⟩=some (.slice AHx s.hroot.length cHx)/\z.cell? ⟨w.heap.size+1,0,none⟩=some (.int .i64 hsz)/\z.cell? ⟨w.heap.size+1,1,none⟩=some (.slice AK hroot.length cK)/\Below w1.heap.size w1 z) (hx:Below z.heap.size z z')=>hC z' (h.2.2.2.2.2.2.2.2.2.2.2.2.2.2.2.trans (hx.mono h.2.2.2.2.2.2.2.2.2.2.2.2.2.2.2.size)))
 have HC:=Lib.hid hC
 clear hC hbA hbB
 replace bx1:=Bytes.below bx1 hx1
 replace bx5:=Bytes.below bx5 hx1
 replace bx9:=Bytes.below bx9 hx1
 replace bx4:=BList.below bx4 hx1
 replace bx7:=BList.below bx7 hx1
 have bh:=Bytes.below hh hx1
 obtain ⟨R,HR⟩:∃ R,Hid (R=Fl.checkC s hsz hroot):=⟨_,Lib.hid rfl⟩
 rw [<-HR.out]
 obtain ⟨x,HX⟩:∃ x,Hid (x=Bk.wrongR ⟨s.rcd.sh,s.rcd.fr,s.rcd.to,s.rcd.sz,s.rcd.root⟩):=⟨_,Lib.hid rfl⟩
 have hB:=fun z:World=>rwrongR_any z s.rcd.sh s.rcd.fr s.rcd.to s.rcd.sz ARx cRx s.rcd.root
 rw [<-HX.out] at hB
 by_cases hw:x=0
 · subst hw
   have hw0:Bk.wrongR s.rcd=0:=HX.out.symm
   have HB:=Lib.hid hB
   clear hB
   have hxb:decide ((0:Int)=0)=true:=rfl
   by_cases hq1:s.rcd.sh=s.shard
   · have q1:(s.rcd.sh==s.shard)=true:=by rw [beq_iff_eq];exact hq1
     have HQ1:=Lib.hid hq1
     clear hq1
     have hH:=fun (z:World) (hz:Below w1.heap.size w1 z)=>rsameHead_any z _ _ s.hsz hsz (.slice AHx s.hroot.length cHx) (.slice AK hroot.length cK) s.hroot hroot (SlAt.below bx9 hz) (SlAt.below bh hz)
     obtain ⟨q,HQ⟩:∃ q,Hid (q=(decide (s.hsz=hsz)&&decide (s.hroot=hroot))):=⟨_,Lib.hid rfl⟩
     rw [<-HQ.out] at hH
     cases q with
     | false =>
       have HH:=Lib.hid hH
       have HS:Hid (R=false):=Lib.hid (by rw [HR.out];unfold Fl.checkC;have h:=HQ.out;simp at h;simp;intro _ _ h1 h2;exact absurd h2 (h h1))
       clear hH hw0
       go_enter Try.func73,Try.ntmps73
       go_upto_region 1 with (fail)
       rw [<-HW1.out]
       obtain ⟨c0,c1,c2,c3,c4,c5,c6,c7,c8,c9,c10,c11,c12,c13,c14,-⟩:=HC.out _ (Below.refl _ _)
       refine wp_region_held_drew (S:=(fun z:World=>z.cell? ⟨w.heap.size,0,none⟩=some (.slice AEx s.entry.length cEx)/\z.cell? ⟨w.heap.size,1,none⟩=some (.int .i64 s.place)/\z.cell? ⟨w.heap.size,2,none⟩=some (.int .i64 s.shard)/\z.cell? ⟨w.heap.size,3,none⟩=some (.slice APx s.path.length cPx)/\z.cell? ⟨w.heap.size,4,none⟩=some (.int .i64 s.rcd.sh)/\z.cell? ⟨w.heap.size,5,none⟩=some (.int .i64 s.rcd.fr)/\z.cell? ⟨w.heap.size,6,none⟩=some (.int .i64 s.rcd.to)/\z.cell? ⟨w.heap.size,7,none⟩=some (.int .i64 s.rcd.sz)/\z.cell? ⟨w.heap.size,8,none⟩=some (.slice ARx s.rcd.root.length cRx)/\z.cell? ⟨w.heap.size,9,none⟩=some (.int .i64 s.row)/\z.cell? ⟨w.heap.size,10,none⟩=some (.slice ABx s.bpath.length cBx)/\z.cell? ⟨w.heap.size,11,none⟩=some (.int .i64 s.hsz)/\z.cell? ⟨w.heap.size,12,none⟩=some (.slice AHx s.hroot.length cHx)/\z.cell? ⟨w.heap.size+1,0,none⟩=some (.int .i64 hsz)/\z.cell? ⟨w.heap.size+1,1,none⟩=some (.slice AK hroot.length cK)/\Below w1.heap.size w1 z)) (by kernel_rfl) ?_ (fun hHeld=>?_)
       · exact ⟨c0,c1,c2,c3,c4,c5,c6,c7,c8,c9,c10,c11,c12,c13,c14,(Below.refl _ _).drew⟩
       refine step_take (i:=0) (v:=?_) rfl (by kernel_rfl) (by kernel_rfl) (by kernel_rfl) (fun _ _ _ h=>h) (by rfl) ?yc1 (by assumption) ?_
       case yc1=>(intro w hSw;(try dsimp only at hSw);go_simp;(try with_reducible rfl))
       try simp only [Act.put,List.setIfInBounds_toArray,List.set_cons_zero,List.set_cons_succ]
       refine step_take (i:=1) (v:=?_) rfl (by kernel_rfl) (by kernel_rfl) (by kernel_rfl) (fun _ _ _ h=>h) (by rfl) ?yc2 (by assumption) ?_
       case yc2=>(intro w hSw;(try dsimp only at hSw);go_simp;(try with_reducible rfl))
       try simp only [Act.put,List.setIfInBounds_toArray,List.set_cons_zero,List.set_cons_succ]
       refine step_alone 2 rfl (by kernel_rfl) (by rfl) (fun K hK=>?_)
       go_simp
       refine (HB.out _).mono ?_
       rintro e y1 ⟨rfl,hy1⟩
       have hS1:=HK.out _ _ hHeld hy1
       go_simp
       refine hK.out _ _ ?_ (fun hHeld=>?_)
       · exact hS1
       clear hK K
       try simp only [Act.put,List.setIfInBounds_toArray,List.set_cons_zero,List.set_cons_succ]
       refine step_take (i:=3) (v:=?_) rfl (by kernel_rfl) (by kernel_rfl) (by kernel_rfl) (fun _ _ _ h=>h) (by rfl) ?yc4 (by assumption) ?_
       case yc4=>(intro w hSw;(try dsimp only at hSw);go_simp;(try with_reducible rfl))
       try simp only [Act.put,List.setIfInBounds_toArray,List.set_cons_zero,List.set_cons_succ]
       refine step_take (i:=4) (v:=?_) rfl (by kernel_rfl) (by kernel_rfl) (by kernel_rfl) (fun _ _ _ h=>h) (by rfl) ?yc5 (by assumption) ?_
       case yc5=>(intro w hSw;(try dsimp only at hSw);go_simp;(try with_reducible rfl))
       try simp only [Act.put,List.setIfInBounds_toArray,List.set_cons_zero,List.set_cons_succ]
       refine step_take (i:=5) (v:=?_) rfl (by kernel_rfl) (by kernel_rfl) (by kernel_rfl) (fun _ _ _ h=>h) (by rfl) ?yc6 (by assumption) ?_
       case yc6=>(intro w hSw;(try dsimp only at hSw);go_simp;(try with_reducible rfl))
       try simp only [Act.put,List.setIfInBounds_toArray,List.set_cons_zero,List.set_cons_succ]
       refine step_take (i:=6) (v:=?_) rfl (by kernel_rfl) (by kernel_rfl) (by kernel_rfl) (fun _ _ _ h=>h) (by rfl) ?yc7 (by assumption) ?_
       case yc7=>(intro w hSw;(try dsimp only at hSw);go_simp;(try with_reducible rfl))
       try simp only [Act.put,List.setIfInBounds_toArray,List.set_cons_zero,List.set_cons_succ]
       refine step_take (i:=7) (v:=?_) rfl (by kernel_rfl) (by kernel_rfl) (by kernel_rfl) (fun _ _ _ h=>h) (by rfl) ?yc8 (by assumption) ?_
       case yc8=>(intro w hSw;(try dsimp only at hSw);go_simp;(try with_reducible rfl))
       try simp only [Act.put,List.setIfInBounds_toArray,List.set_cons_zero,List.set_cons_succ]
       refine step_take (i:=8) (v:=?_) rfl (by kernel_rfl) (by kernel_rfl) (by kernel_rfl) (fun _ _ _ h=>h) (by rfl) ?yc9 (by assumption) ?_
       case yc9=>(intro w hSw;(try dsimp only at hSw);go_simp;(try with_reducible rfl))
       try simp only [Act.put,List.setIfInBounds_toArray,List.set_cons_zero,List.set_cons_succ]
       refine step_take (i:=9) (v:=?_) rfl (by kernel_rfl) (by kernel_rfl) (by kernel_rfl) (fun _ _ _ h=>h) (by rfl) ?yc10 (by assumption) ?_
       case yc10=>(intro w hSw;(try dsimp only at hSw);go_simp;(try with_reducible rfl))
       try simp only [Act.put,List.setIfInBounds_toArray,List.set_cons_zero,List.set_cons_succ]
       refine step_take (i:=10) (v:=?_) rfl (by kernel_rfl) (by kernel_rfl) (by kernel_rfl) (fun _ _ _ h=>h) (by rfl) ?yc11 (by assumption) ?_
       case yc11=>(intro w hSw;(try dsimp only at hSw);go_simp;(try with_reducible rfl))
       try simp only [Act.put,List.setIfInBounds_toArray,List.set_cons_zero,List.set_cons_succ]
       refine step_take (i:=11) (v:=?_) rfl (by kernel_rfl) (by kernel_rfl) (by kernel_rfl) (fun _ _ _ h=>h) (by rfl) ?yc12 (by assumption) ?_
       case yc12=>(intro w hSw;(try dsimp only at hSw);go_simp;(try with_reducible rfl))
       try simp only [Act.put,List.setIfInBounds_toArray,List.set_cons_zero,List.set_cons_succ]
       refine step_take (i:=12) (v:=?_) rfl (by kernel_rfl) (by kernel_rfl) (by kernel_rfl) (fun _ _ _ h=>h) (by rfl) ?yc13 (by assumption) ?_
       case yc13=>(intro w hSw;(try dsimp only at hSw);go_simp;(try with_reducible rfl))
       try simp only [Act.put,List.setIfInBounds_toArray,List.set_cons_zero,List.set_cons_succ]
       refine step_take (i:=13) (v:=?_) rfl (by kernel_rfl) (by kernel_rfl) (by kernel_rfl) (fun _ _ _ h=>h) (by rfl) ?yc14 (by assumption) ?_
       case yc14=>(intro w hSw;(try dsimp only at hSw);go_simp;(try with_reducible rfl))
       try simp only [Act.put,List.setIfInBounds_toArray,List.set_cons_zero,List.set_cons_succ]
       refine step_take (i:=14) (v:=?_) rfl (by kernel_rfl) (by kernel_rfl) (by kernel_rfl) (fun _ _ _ h=>h) (by rfl) ?yc15 (by assumption) ?_
       case yc15=>(intro w hSw;(try dsimp only at hSw);go_simp;(try with_reducible rfl))
       try simp only [Act.put,List.setIfInBounds_toArray,List.set_cons_zero,List.set_cons_succ]
       refine step_take (i:=15) (v:=?_) rfl (by kernel_rfl) (by kernel_rfl) (by kernel_rfl) (fun _ _ _ h=>h) (by rfl) ?yc16 (by assumption) ?_
       case yc16=>(intro w hSw;(try dsimp only at hSw);go_simp;(try with_reducible rfl))
       try simp only [Act.put,List.setIfInBounds_toArray,List.set_cons_zero,List.set_cons_succ]
       refine step_alone 16 rfl (by kernel_rfl) (by rfl) (fun K hK=>?_)
       go_simp
       refine (HH.out _ hS1.2.2.2.2.2.2.2.2.2.2.2.2.2.2.2).mono ?_
       rintro e y2 ⟨rfl,hy2⟩
       have hS2:=HK.out _ _ hS1 hy2
       go_simp
       refine hK.out _ _ ?_ (fun hHeld=>?_)
       · exact hS2
       clear hK K
       try simp only [Act.put,List.setIfInBounds_toArray,List.set_cons_zero,List.set_cons_succ]
       refine step_take (i:=17) (v:=?_) rfl (by kernel_rfl) (by kernel_rfl) (by kernel_rfl) (fun _ _ _ h=>h) (by rfl) ?yc18 (by assumption) ?_
       case yc18=>(intro w hSw;(try dsimp only at hSw);go_simp;(try with_reducible rfl))
       try simp only [Act.put,List.setIfInBounds_toArray,List.set_cons_zero,List.set_cons_succ]
       refine step_take (i:=18) (v:=?_) rfl (by kernel_rfl) (by kernel_rfl) (by kernel_rfl) (fun _ _ _ h=>h) (by rfl) ?yc19 (by assumption) ?_
       case yc19=>(intro w hSw;(try dsimp only at hSw);go_simp;(try with_reducible rfl))
       try simp only [Act.put,List.setIfInBounds_toArray,List.set_cons_zero,List.set_cons_succ]
       refine step_skip (i:=19) rfl (by kernel_rfl) (by kernel_rfl) (by kernel_rfl) (fun _ _ _ h=>h) (by rfl) (by assumption) ?_
       try simp only [Act.put,List.setIfInBounds_toArray,List.set_cons_zero,List.set_cons_succ]
       refine step_skip (i:=20) rfl (by kernel_rfl) (by kernel_rfl) (by kernel_rfl) (fun _ _ _ h=>h) (by rfl) (by assumption) ?_
       try simp only [Act.put,List.setIfInBounds_toArray,List.set_cons_zero,List.set_cons_succ]
       refine step_skip (i:=21) rfl (by kernel_rfl) (by kernel_rfl) (by kernel_rfl) (fun _ _ _ h=>h) (by rfl) (by assumption) ?_
       try simp only [Act.put,List.setIfInBounds_toArray,List.set_cons_zero,List.set_cons_succ]
       refine step_skip (i:=22) rfl (by kernel_rfl) (by kernel_rfl) (by kernel_rfl) (fun _ _ _ h=>h) (by rfl) (by assumption) ?_
       try simp only [Act.put,List.setIfInBounds_toArray,List.set_cons_zero,List.set_cons_succ]
       refine step_skip (i:=23) rfl (by kernel_rfl) (by kernel_rfl) (by kernel_rfl) (fun _ _ _ h=>h) (by rfl) (by assumption) ?_
       try simp only [Act.put,List.setIfInBounds_toArray,List.set_cons_zero,List.set_cons_succ]
       refine step_skip (i:=24) rfl (by kernel_rfl) (by kernel_rfl) (by kernel_rfl) (fun _ _ _ h=>h) (by rfl) (by assumption) ?_
       try simp only [Act.put,List.setIfInBounds_toArray,List.set_cons_zero,List.set_cons_succ]
       refine step_skip (i:=25) rfl (by kernel_rfl) (by kernel_rfl) (by kernel_rfl) (fun _ _ _ h=>h) (by rfl) (by assumption) ?_
       try simp only [Act.put,List.setIfInBounds_toArray,List.set_cons_zero,List.set_cons_succ]
       refine step_skip (i:=26) rfl (by kernel_rfl) (by kernel_rfl) (by kernel_rfl) (fun _ _ _ h=>h) (by rfl) (by assumption) ?_
       try simp only [Act.put,List.setIfInBounds_toArray,List.set_cons_zero,List.set_cons_succ]
       refine step_skip (i:=27) rfl (by kernel_rfl) (by kernel_rfl) (by kernel_rfl) (fun _ _ _ h=>h) (by rfl) (by assumption) ?_
       try simp only [Act.put,List.setIfInBounds_toArray,List.set_cons_zero,List.set_cons_succ]
       refine step_skip (i:=28) rfl (by kernel_rfl) (by kernel_rfl) (by kernel_rfl) (fun _ _ _ h=>h) (by rfl) (by assumption) ?_
       try simp only [Act.put,List.setIfInBounds_toArray,List.set_cons_zero,List.set_cons_succ]
       refine step_take (i:=29) (v:=?_) rfl (by kernel_rfl) (by kernel_rfl) (by kernel_rfl) (fun _ _ _ h=>h) (by rfl) ?yc30 (by assumption) ?_
       case yc30=>(intro w hSw;(try dsimp only at hSw);go_simp;(try with_reducible rfl))
       try simp only [Act.put,List.setIfInBounds_toArray,List.set_cons_zero,List.set_cons_succ]
       refine step_take (i:=30) (v:=?_) rfl (by kernel_rfl) (by kernel_rfl) (by kernel_rfl) (fun _ _ _ h=>h) (by rfl) ?yc31 (by assumption) ?_
       case yc31=>(intro w hSw;(try dsimp only at hSw);go_simp;(try with_reducible rfl))
       try simp only [Act.put,List.setIfInBounds_toArray,List.set_cons_zero,List.set_cons_succ]
       refine step_skip (i:=31) rfl (by kernel_rfl) (by kernel_rfl) (by kernel_rfl) (fun _ _ _ h=>h) (by rfl) (by assumption) ?_
       try simp only [Act.put,List.setIfInBounds_toArray,List.set_cons_zero,List.set_cons_succ]
       refine step_skip (i:=32) rfl (by kernel_rfl) (by kernel_rfl) (by kernel_rfl) (fun _ _ _ h=>h) (by rfl) (by assumption) ?_
       try simp only [Act.put,List.setIfInBounds_toArray,List.set_cons_zero,List.set_cons_succ]
       refine step_skip (i:=33) rfl (by kernel_rfl) (by kernel_rfl) (by kernel_rfl) (fun _ _ _ h=>h) (by rfl) (by assumption) ?_
       try simp only [Act.put,List.setIfInBounds_toArray,List.set_cons_zero,List.set_cons_succ]
       refine step_skip (i:=34) rfl (by kernel_rfl) (by kernel_rfl) (by kernel_rfl) (fun _ _ _ h=>h) (by rfl) (by assumption) ?_
       try simp only [Act.put,List.setIfInBounds_toArray,List.set_cons_zero,List.set_cons_succ]
       refine step_skip (i:=35) rfl (by kernel_rfl) (by kernel_rfl) (by kernel_rfl) (fun _ _ _ h=>h) (by rfl) (by assumption) ?_
       try simp only [Act.put,List.setIfInBounds_toArray,List.set_cons_zero,List.set_cons_succ]
       refine step_skip (i:=36) rfl (by kernel_rfl) (by kernel_rfl) (by kernel_rfl) (fun _ _ _ h=>h) (by rfl) (by assumption) ?_
       try simp only [Act.put,List.setIfInBounds_toArray,List.set_cons_zero,List.set_cons_succ]
       refine step_skip (i:=37) rfl (by kernel_rfl) (by kernel_rfl) (by kernel_rfl) (fun _ _ _ h=>h) (by rfl) (by assumption) ?_
       try simp only [Act.put,List.setIfInBounds_toArray,List.set_cons_zero,List.set_cons_succ]
       refine step_skip (i:=38) rfl (by kernel_rfl) (by kernel_rfl) (by kernel_rfl) (fun _ _ _ h=>h) (by rfl) (by assumption) ?_
       try simp only [Act.put,List.setIfInBounds_toArray,List.set_cons_zero,List.set_cons_succ]
       refine step_skip (i:=39) rfl (by kernel_rfl) (by kernel_rfl) (by kernel_rfl) (fun _ _ _ h=>h) (by rfl) (by assumption) ?_
       try simp only [Act.put,List.setIfInBounds_toArray,List.set_cons_zero,List.set_cons_succ]
       refine step_take (i:=40) (v:=?_) rfl (by kernel_rfl) (by kernel_rfl) (by kernel_rfl) (fun _ _ _ h=>h) (by rfl) ?yc41 (by assumption) ?_
       case yc41=>(intro w hSw;(try dsimp only at hSw);go_simp;(try with_reducible rfl))
       try simp only [Act.put,List.setIfInBounds_toArray,List.set_cons_zero,List.set_cons_succ]
       refine step_take (i:=41) (v:=?_) rfl (by kernel_rfl) (by kernel_rfl) (by kernel_rfl) (fun _ _ _ h=>h) (by rfl) ?yc42 (by assumption) ?_
       case yc42=>(intro w hSw;(try dsimp only at hSw);go_simp;(try with_reducible rfl))
       try simp only [Act.put,List.setIfInBounds_toArray,List.set_cons_zero,List.set_cons_succ]
       refine wpAnyH_done (by kernel_rfl) ?_ _
       go_wp2_with fail
       go_ret
       exact ⟨by rw [HS.out];rfl,hx1.trans (hS2.2.2.2.2.2.2.2.2.2.2.2.2.2.2.2.mono hx1.size)⟩
     | true =>
       have HH:=Lib.hid hH
       have hT:=fun (z:World) (hz:Below w1.heap.size w1 z)=>rstands_any z _ _ _ (.slice ARx s.rcd.root.length cRx) (.slice AEx s.entry.length cEx) (.slice APx s.path.length cPx) s.rcd.sz s.rcd.root s.entry s.place s.path (SlAt.below bx5 hz) (SlAt.below bx1 hz) (bx4.below hz)
       have hS1:R=(standsS s.rcd.sz s.rcd.root s.entry s.place s.path&&standsS hsz hroot (Bk.rowR s.rcd) s.row s.bpath):=by
        rw [HR.out];unfold Fl.checkC;have h:=HQ.out;simp at h;rw [hw0,HQ1.out,h.1,h.2];simp
       clear hH
       generalize standsS s.rcd.sz s.rcd.root s.entry s.place s.path=t1 at *
       cases t1 with
       | false =>
         have HS:Hid (R=false):=Lib.hid (by rw [hS1];simp)
         have HT:=Lib.hid hT
         clear hT hS1 hw0
         go_enter Try.func73,Try.ntmps73
         go_upto_region 1 with (fail)
         rw [<-HW1.out]
         obtain ⟨c0,c1,c2,c3,c4,c5,c6,c7,c8,c9,c10,c11,c12,c13,c14,-⟩:=HC.out _ (Below.refl _ _)
         refine wp_region_held_drew (S:=(fun z:World=>z.cell? ⟨w.heap.size,0,none⟩=some (.slice AEx s.entry.length cEx)/\z.cell? ⟨w.heap.size,1,none⟩=some (.int .i64 s.place)/\z.cell? ⟨w.heap.size,2,none⟩=some (.int .i64 s.shard)/\z.cell? ⟨w.heap.size,3,none⟩=some (.slice APx s.path.length cPx)/\z.cell? ⟨w.heap.size,4,none⟩=some (.int .i64 s.rcd.sh)/\z.cell? ⟨w.heap.size,5,none⟩=some (.int .i64 s.rcd.fr)/\z.cell? ⟨w.heap.size,6,none⟩=some (.int .i64 s.rcd.to)/\z.cell? ⟨w.heap.size,7,none⟩=some (.int .i64 s.rcd.sz)/\z.cell? ⟨w.heap.size,8,none⟩=some (.slice ARx s.rcd.root.length cRx)/\z.cell? ⟨w.heap.size,9,none⟩=some (.int .i64 s.row)/\z.cell? ⟨w.heap.size,10,none⟩=some (.slice ABx s.bpath.length cBx)/\z.cell? ⟨w.heap.size,11,none⟩=some (.int .i64 s.hsz)/\z.cell? ⟨w.heap.size,12,none⟩=some (.slice AHx s.hroot.length cHx)/\z.cell? ⟨w.heap.size+1,0,none⟩=some (.int .i64 hsz)/\z.cell? ⟨w.heap.size+1,1,none⟩=some (.slice AK hroot.length cK)/\Below w1.heap.size w1 z)) (by kernel_rfl) ?_ (fun hHeld=>?_)
         · exact ⟨c0,c1,c2,c3,c4,c5,c6,c7,c8,c9,c10,c11,c12,c13,c14,(Below.refl _ _).drew⟩
         refine step_take (i:=0) (v:=?_) rfl (by kernel_rfl) (by kernel_rfl) (by kernel_rfl) (fun _ _ _ h=>h) (by rfl) ?yc1 (by assumption) ?_
         case yc1=>(intro w hSw;(try dsimp only at hSw);go_simp;(try with_reducible rfl))
         try simp only [Act.put,List.setIfInBounds_toArray,List.set_cons_zero,List.set_cons_succ]
         refine step_take (i:=1) (v:=?_) rfl (by kernel_rfl) (by kernel_rfl) (by kernel_rfl) (fun _ _ _ h=>h) (by rfl) ?yc2 (by assumption) ?_
         case yc2=>(intro w hSw;(try dsimp only at hSw);go_simp;(try with_reducible rfl))
         try simp only [Act.put,List.setIfInBounds_toArray,List.set_cons_zero,List.set_cons_succ]
         refine step_alone 2 rfl (by kernel_rfl) (by rfl) (fun K hK=>?_)
         go_simp
         refine (HB.out _).mono ?_
         rintro e y1 ⟨rfl,hy1⟩
         have hS1:=HK.out _ _ hHeld hy1
         go_simp
         refine hK.out _ _ ?_ (fun hHeld=>?_)
         · exact hS1
         clear hK K
         try simp only [Act.put,List.setIfInBounds_toArray,List.set_cons_zero,List.set_cons_succ]
         refine step_take (i:=3) (v:=?_) rfl (by kernel_rfl) (by kernel_rfl) (by kernel_rfl) (fun _ _ _ h=>h) (by rfl) ?yc4 (by assumption) ?_
         case yc4=>(intro w hSw;(try dsimp only at hSw);go_simp;(try with_reducible rfl))
         try simp only [Act.put,List.setIfInBounds_toArray,List.set_cons_zero,List.set_cons_succ]
         refine step_take (i:=4) (v:=?_) rfl (by kernel_rfl) (by kernel_rfl) (by kernel_rfl) (fun _ _ _ h=>h) (by rfl) ?yc5 (by assumption) ?_
         case yc5=>(intro w hSw;(try dsimp only at hSw);go_simp;(try with_reducible rfl))
         try simp only [Act.put,List.setIfInBounds_toArray,List.set_cons_zero,List.set_cons_succ]
         refine step_take (i:=5) (v:=?_) rfl (by kernel_rfl) (by kernel_rfl) (by kernel_rfl) (fun _ _ _ h=>h) (by rfl) ?yc6 (by assumption) ?_
         case yc6=>(intro w hSw;(try dsimp only at hSw);go_simp;(try with_reducible rfl))
         try simp only [Act.put,List.setIfInBounds_toArray,List.set_cons_zero,List.set_cons_succ]
         refine step_take (i:=6) (v:=?_) rfl (by kernel_rfl) (by kernel_rfl) (by kernel_rfl) (fun _ _ _ h=>h) (by rfl) ?yc7 (by assumption) ?_
         case yc7=>(intro w hSw;(try dsimp only at hSw);go_simp;(try with_reducible rfl))
         try simp only [Act.put,List.setIfInBounds_toArray,List.set_cons_zero,List.set_cons_succ]
         refine step_take (i:=7) (v:=?_) rfl (by kernel_rfl) (by kernel_rfl) (by kernel_rfl) (fun _ _ _ h=>h) (by rfl) ?yc8 (by assumption) ?_
         case yc8=>(intro w hSw;(try dsimp only at hSw);go_simp;(try with_reducible rfl))
         try simp only [Act.put,List.setIfInBounds_toArray,List.set_cons_zero,List.set_cons_succ]
         refine step_take (i:=8) (v:=?_) rfl (by kernel_rfl) (by kernel_rfl) (by kernel_rfl) (fun _ _ _ h=>h) (by rfl) ?yc9 (by assumption) ?_
         case yc9=>(intro w hSw;(try dsimp only at hSw);go_simp;(try with_reducible rfl))
         try simp only [Act.put,List.setIfInBounds_toArray,List.set_cons_zero,List.set_cons_succ]
         refine step_take (i:=9) (v:=?_) rfl (by kernel_rfl) (by kernel_rfl) (by kernel_rfl) (fun _ _ _ h=>h) (by rfl) ?yc10 (by assumption) ?_
         case yc10=>(intro w hSw;(try dsimp only at hSw);go_simp;(try with_reducible rfl))
         try simp only [Act.put,List.setIfInBounds_toArray,List.set_cons_zero,List.set_cons_succ]
         refine step_take (i:=10) (v:=?_) rfl (by kernel_rfl) (by kernel_rfl) (by kernel_rfl) (fun _ _ _ h=>h) (by rfl) ?yc11 (by assumption) ?_
         case yc11=>(intro w hSw;(try dsimp only at hSw);go_simp;(try with_reducible rfl))
         try simp only [Act.put,List.setIfInBounds_toArray,List.set_cons_zero,List.set_cons_succ]
         refine step_take (i:=11) (v:=?_) rfl (by kernel_rfl) (by kernel_rfl) (by kernel_rfl) (fun _ _ _ h=>h) (by rfl) ?yc12 (by assumption) ?_
         case yc12=>(intro w hSw;(try dsimp only at hSw);go_simp;(try with_reducible rfl))
         try simp only [Act.put,List.setIfInBounds_toArray,List.set_cons_zero,List.set_cons_succ]
         refine step_take (i:=12) (v:=?_) rfl (by kernel_rfl) (by kernel_rfl) (by kernel_rfl) (fun _ _ _ h=>h) (by rfl) ?yc13 (by assumption) ?_
         case yc13=>(intro w hSw;(try dsimp only at hSw);go_simp;(try with_reducible rfl))
         try simp only [Act.put,List.setIfInBounds_toArray,List.set_cons_zero,List.set_cons_succ]
         refine step_take (i:=13) (v:=?_) rfl (by kernel_rfl) (by kernel_rfl) (by kernel_rfl) (fun _ _ _ h=>h) (by rfl) ?yc14 (by assumption) ?_
         case yc14=>(intro w hSw;(try dsimp only at hSw);go_simp;(try with_reducible rfl))
         try simp only [Act.put,List.setIfInBounds_toArray,List.set_cons_zero,List.set_cons_succ]
         refine step_take (i:=14) (v:=?_) rfl (by kernel_rfl) (by kernel_rfl) (by kernel_rfl) (fun _ _ _ h=>h) (by rfl) ?yc15 (by assumption) ?_
         case yc15=>(intro w hSw;(try dsimp only at hSw);go_simp;(try with_reducible rfl))
         try simp only [Act.put,List.setIfInBounds_toArray,List.set_cons_zero,List.set_cons_succ]
         refine step_take (i:=15) (v:=?_) rfl (by kernel_rfl) (by kernel_rfl) (by kernel_rfl) (fun _ _ _ h=>h) (by rfl) ?yc16 (by assumption) ?_
         case yc16=>(intro w hSw;(try dsimp only at hSw);go_simp;(try with_reducible rfl))
         try simp only [Act.put,List.setIfInBounds_toArray,List.set_cons_zero,List.set_cons_succ]
         refine step_alone 16 rfl (by kernel_rfl) (by rfl) (fun K hK=>?_)
         go_simp
         refine (HH.out _ hS1.2.2.2.2.2.2.2.2.2.2.2.2.2.2.2).mono ?_
         rintro e y2 ⟨rfl,hy2⟩
         have hS2:=HK.out _ _ hS1 hy2
         go_simp
         refine hK.out _ _ ?_ (fun hHeld=>?_)
         · exact hS2
         clear hK K
         try simp only [Act.put,List.setIfInBounds_toArray,List.set_cons_zero,List.set_cons_succ]
         refine step_take (i:=17) (v:=?_) rfl (by kernel_rfl) (by kernel_rfl) (by kernel_rfl) (fun _ _ _ h=>h) (by rfl) ?yc18 (by assumption) ?_
         case yc18=>(intro w hSw;(try dsimp only at hSw);go_simp;(try with_reducible rfl))
         try simp only [Act.put,List.setIfInBounds_toArray,List.set_cons_zero,List.set_cons_succ]
         refine step_take (i:=18) (v:=?_) rfl (by kernel_rfl) (by kernel_rfl) (by kernel_rfl) (fun _ _ _ h=>h) (by rfl) ?yc19 (by assumption) ?_
         case yc19=>(intro w hSw;(try dsimp only at hSw);go_simp;(try with_reducible rfl))
         try simp only [Act.put,List.setIfInBounds_toArray,List.set_cons_zero,List.set_cons_succ]
         refine step_take (i:=19) (v:=?_) rfl (by kernel_rfl) (by kernel_rfl) (by kernel_rfl) (fun _ _ _ h=>h) (by rfl) ?yc20 (by assumption) ?_
         case yc20=>(intro w hSw;(try dsimp only at hSw);go_simp;(try with_reducible rfl))
         try simp only [Act.put,List.setIfInBounds_toArray,List.set_cons_zero,List.set_cons_succ]
         refine step_take (i:=20) (v:=?_) rfl (by kernel_rfl) (by kernel_rfl) (by kernel_rfl) (fun _ _ _ h=>h) (by rfl) ?yc21 (by assumption) ?_
         case yc21=>(intro w hSw;(try dsimp only at hSw);go_simp;(try with_reducible rfl))
         try simp only [Act.put,List.setIfInBounds_toArray,List.set_cons_zero,List.set_cons_succ]
         refine step_take (i:=21) (v:=?_) rfl (by kernel_rfl) (by kernel_rfl) (by kernel_rfl) (fun _ _ _ h=>h) (by rfl) ?yc22 (by assumption) ?_
         case yc22=>(intro w hSw;(try dsimp only at hSw);go_simp;(try with_reducible rfl))
         try simp only [Act.put,List.setIfInBounds_toArray,List.set_cons_zero,List.set_cons_succ]
         refine step_take (i:=22) (v:=?_) rfl (by kernel_rfl) (by kernel_rfl) (by kernel_rfl) (fun _ _ _ h=>h) (by rfl) ?yc23 (by assumption) ?_
         case yc23=>(intro w hSw;(try dsimp only at hSw);go_simp;(try with_reducible rfl))
         try simp only [Act.put,List.setIfInBounds_toArray,List.set_cons_zero,List.set_cons_succ]
         refine step_take (i:=23) (v:=?_) rfl (by kernel_rfl) (by kernel_rfl) (by kernel_rfl) (fun _ _ _ h=>h) (by rfl) ?yc24 (by assumption) ?_
         case yc24=>(intro w hSw;(try dsimp only at hSw);go_simp;(try with_reducible rfl))
         try simp only [Act.put,List.setIfInBounds_toArray,List.set_cons_zero,List.set_cons_succ]
         refine step_take (i:=24) (v:=?_) rfl (by kernel_rfl) (by kernel_rfl) (by kernel_rfl) (fun _ _ _ h=>h) (by rfl) ?yc25 (by assumption) ?_
         case yc25=>(intro w hSw;(try dsimp only at hSw);go_simp;(try with_reducible rfl))
         try simp only [Act.put,List.setIfInBounds_toArray,List.set_cons_zero,List.set_cons_succ]
         refine step_take (i:=25) (v:=?_) rfl (by kernel_rfl) (by kernel_rfl) (by kernel_rfl) (fun _ _ _ h=>h) (by rfl) ?yc26 (by assumption) ?_
         case yc26=>(intro w hSw;(try dsimp only at hSw);go_simp;(try with_reducible rfl))
         try simp only [Act.put,List.setIfInBounds_toArray,List.set_cons_zero,List.set_cons_succ]
         refine step_take (i:=26) (v:=?_) rfl (by kernel_rfl) (by kernel_rfl) (by kernel_rfl) (fun _ _ _ h=>h) (by rfl) ?yc27 (by assumption) ?_
         case yc27=>(intro w hSw;(try dsimp only at hSw);go_simp;(try with_reducible rfl))
         try simp only [Act.put,List.setIfInBounds_toArray,List.set_cons_zero,List.set_cons_succ]
         refine step_take (i:=27) (v:=?_) rfl (by kernel_rfl) (by kernel_rfl) (by kernel_rfl) (fun _ _ _ h=>h) (by rfl) ?yc28 (by assumption) ?_
         case yc28=>(intro w hSw;(try dsimp only at hSw);go_simp;(try with_reducible rfl))
         try simp only [Act.put,List.setIfInBounds_toArray,List.set_cons_zero,List.set_cons_succ]
         refine step_alone 28 rfl (by kernel_rfl) (by rfl) (fun K hK=>?_)
         go_simp
         refine (HT.out _ hS2.2.2.2.2.2.2.2.2.2.2.2.2.2.2.2).mono ?_
         rintro e y3 ⟨rfl,hy3⟩
         have hS3:=HK.out _ _ hS2 hy3
         go_simp
         refine hK.out _ _ ?_ (fun hHeld=>?_)
         · exact hS3
         clear hK K
         try simp only [Act.put,List.setIfInBounds_toArray,List.set_cons_zero,List.set_cons_succ]
         refine step_take (i:=29) (v:=?_) rfl (by kernel_rfl) (by kernel_rfl) (by kernel_rfl) (fun _ _ _ h=>h) (by rfl) ?yc30 (by assumption) ?_
         case yc30=>(intro w hSw;(try dsimp only at hSw);go_simp;(try with_reducible rfl))
         try simp only [Act.put,List.setIfInBounds_toArray,List.set_cons_zero,List.set_cons_succ]
         refine step_take (i:=30) (v:=?_) rfl (by kernel_rfl) (by kernel_rfl) (by kernel_rfl) (fun _ _ _ h=>h) (by rfl) ?yc31 (by assumption) ?_
         case yc31=>(intro w hSw;(try dsimp only at hSw);go_simp;(try with_reducible rfl))
         try simp only [Act.put,List.setIfInBounds_toArray,List.set_cons_zero,List.set_cons_succ]
         refine step_skip (i:=31) rfl (by kernel_rfl) (by kernel_rfl) (by kernel_rfl) (fun _ _ _ h=>h) (by rfl) (by assumption) ?_
         try simp only [Act.put,List.setIfInBounds_toArray,List.set_cons_zero,List.set_cons_succ]
         refine step_skip (i:=32) rfl (by kernel_rfl) (by kernel_rfl) (by kernel_rfl) (fun _ _ _ h=>h) (by rfl) (by assumption) ?_
         try simp only [Act.put,List.setIfInBounds_toArray,List.set_cons_zero,List.set_cons_succ]
         refine step_skip (i:=33) rfl (by kernel_rfl) (by kernel_rfl) (by kernel_rfl) (fun _ _ _ h=>h) (by rfl) (by assumption) ?_
         try simp only [Act.put,List.setIfInBounds_toArray,List.set_cons_zero,List.set_cons_succ]
         refine step_skip (i:=34) rfl (by kernel_rfl) (by kernel_rfl) (by kernel_rfl) (fun _ _ _ h=>h) (by rfl) (by assumption) ?_
         try simp only [Act.put,List.setIfInBounds_toArray,List.set_cons_zero,List.set_cons_succ]
         refine step_skip (i:=35) rfl (by kernel_rfl) (by kernel_rfl) (by kernel_rfl) (fun _ _ _ h=>h) (by rfl) (by assumption) ?_
         try simp only [Act.put,List.setIfInBounds_toArray,List.set_cons_zero,List.set_cons_succ]
         refine step_skip (i:=36) rfl (by kernel_rfl) (by kernel_rfl) (by kernel_rfl) (fun _ _ _ h=>h) (by rfl) (by assumption) ?_
         try simp only [Act.put,List.setIfInBounds_toArray,List.set_cons_zero,List.set_cons_succ]
         refine step_skip (i:=37) rfl (by kernel_rfl) (by kernel_rfl) (by kernel_rfl) (fun _ _ _ h=>h) (by rfl) (by assumption) ?_
         try simp only [Act.put,List.setIfInBounds_toArray,List.set_cons_zero,List.set_cons_succ]
         refine step_skip (i:=38) rfl (by kernel_rfl) (by kernel_rfl) (by kernel_rfl) (fun _ _ _ h=>h) (by rfl) (by assumption) ?_
         try simp only [Act.put,List.setIfInBounds_toArray,List.set_cons_zero,List.set_cons_succ]
         refine step_skip (i:=39) rfl (by kernel_rfl) (by kernel_rfl) (by kernel_rfl) (fun _ _ _ h=>h) (by rfl) (by assumption) ?_
         try simp only [Act.put,List.setIfInBounds_toArray,List.set_cons_zero,List.set_cons_succ]
         refine step_take (i:=40) (v:=?_) rfl (by kernel_rfl) (by kernel_rfl) (by kernel_rfl) (fun _ _ _ h=>h) (by rfl) ?yc41 (by assumption) ?_
         case yc41=>(intro w hSw;(try dsimp only at hSw);go_simp;(try with_reducible rfl))
         try simp only [Act.put,List.setIfInBounds_toArray,List.set_cons_zero,List.set_cons_succ]
         refine step_take (i:=41) (v:=?_) rfl (by kernel_rfl) (by kernel_rfl) (by kernel_rfl) (fun _ _ _ h=>h) (by rfl) ?yc42 (by assumption) ?_
         case yc42=>(intro w hSw;(try dsimp only at hSw);go_simp;(try with_reducible rfl))
         try simp only [Act.put,List.setIfInBounds_toArray,List.set_cons_zero,List.set_cons_succ]
         refine wpAnyH_done (by kernel_rfl) ?_ _
         go_wp2_with fail
         go_ret
         exact ⟨by rw [HS.out];rfl,hx1.trans (hS3.2.2.2.2.2.2.2.2.2.2.2.2.2.2.2.mono hx1.size)⟩
       | true =>
         have HS:Hid (R=standsS hsz hroot (Bk.rowR s.rcd) s.row s.bpath):=Lib.hid (by rw [hS1];simp)
         have HT:=Lib.hid hT
         have HW:=Lib.hid (fun (z:World) (hz:Below w1.heap.size w1 z)=>rrow_any z _ s.rcd.sh s.rcd.fr s.rcd.to s.rcd.sz ARx cRx s.rcd.root (SlAt.below bx5 hz) hw0)
         have HU:=Lib.hid (fun (z:World) (G:Nat->Prop) (v:Value) (hz:Below w1.heap.size w1 z) (hv:Bytes z G v (Bk.rowR ⟨s.rcd.sh,s.rcd.fr,s.rcd.to,s.rcd.sz,s.rcd.root⟩))=>rstands_any z _ _ _ (.slice AK hroot.length cK) v (.slice ABx s.bpath.length cBx) hsz hroot (Bk.rowR ⟨s.rcd.sh,s.rcd.fr,s.rcd.to,s.rcd.sz,s.rcd.root⟩) s.row s.bpath (SlAt.below bh hz) hv (bx7.below hz))
         clear hT hS1 hw0
         go_enter Try.func73,Try.ntmps73
         go_upto_region 1 with (fail)
         rw [<-HW1.out]
         obtain ⟨c0,c1,c2,c3,c4,c5,c6,c7,c8,c9,c10,c11,c12,c13,c14,-⟩:=HC.out _ (Below.refl _ _)
         go_region_held3 (fun z:World=>z.cell? ⟨w.heap.size,0,none⟩=some (.slice AEx s.entry.length cEx)/\z.cell? ⟨w.heap.size,1,none⟩=some (.int .i64 s.place)/\z.cell? ⟨w.heap.size,2,none⟩=some (.int .i64 s.shard)/\z.cell? ⟨w.heap.size,3,none⟩=some (.slice APx s.path.length cPx)/\z.cell? ⟨w.heap.size,4,none⟩=some (.int .i64 s.rcd.sh)/\z.cell? ⟨w.heap.size,5,none⟩=some (.int .i64 s.rcd.fr)/\z.cell? ⟨w.heap.size,6,none⟩=some (.int .i64 s.rcd.to)/\z.cell? ⟨w.heap.size,7,none⟩=some (.int .i64 s.rcd.sz)/\z.cell? ⟨w.heap.size,8,none⟩=some (.slice ARx s.rcd.root.length cRx)/\z.cell? ⟨w.heap.size,9,none⟩=some (.int .i64 s.row)/\z.cell? ⟨w.heap.size,10,none⟩=some (.slice ABx s.bpath.length cBx)/\z.cell? ⟨w.heap.size,11,none⟩=some (.int .i64 s.hsz)/\z.cell? ⟨w.heap.size,12,none⟩=some (.slice AHx s.hroot.length cHx)/\z.cell? ⟨w.heap.size+1,0,none⟩=some (.int .i64 hsz)/\z.cell? ⟨w.heap.size+1,1,none⟩=some (.slice AK hroot.length cK)/\Below w1.heap.size w1 z) (first | assumption | exact ⟨c0,c1,c2,c3,c4,c5,c6,c7,c8,c9,c10,c11,c12,c13,c14,(Below.refl _ _).drew⟩)
          (first
            | ((with_reducible refine (HB.out _).mono ?_)
               rintro e y1 ⟨rfl,hy1⟩
               have hS1:=HK.out _ _ (by assumption) hy1)
            | ((with_reducible refine (HH.out _ (by exact hS1.2.2.2.2.2.2.2.2.2.2.2.2.2.2.2)).mono ?_)
               rintro e y2 ⟨rfl,hy2⟩
               have hS2:=HK.out _ _ hS1 hy2)
            | ((with_reducible refine (HT.out _ (by exact hS2.2.2.2.2.2.2.2.2.2.2.2.2.2.2.2)).mono ?_)
               rintro e y3 ⟨rfl,hy3⟩
               have hS3:=HK.out _ _ hS2 hy3)
            | ((with_reducible refine (HW.out _ (by exact hS3.2.2.2.2.2.2.2.2.2.2.2.2.2.2.2)).mono ?_)
               rintro e y4 ⟨v4,rfl,ho4,hy4⟩
               have hS4:=HK.out _ _ hS3 hy4
               have hb4:=OwnB.bytes ho4)
            | ((with_reducible refine (HU.out _ _ _ (by exact hS4.2.2.2.2.2.2.2.2.2.2.2.2.2.2.2) hb4).mono ?_)
               rintro e y5 ⟨rfl,hy5⟩
               have hS5:=HK.out _ _ hS4 hy5))
         go_wp2_with fail
         go_ret
         exact ⟨by rw [HS.out];rfl,hx1.trans (hS5.2.2.2.2.2.2.2.2.2.2.2.2.2.2.2.mono hx1.size)⟩
   · have q1:(s.rcd.sh==s.shard)=false:=by rw [beq_eq_false_iff_ne];exact hq1
     have HS:Hid (R=false):=Lib.hid (by rw [HR.out];unfold Fl.checkC;simp [hq1])
     clear hq1 hw0
     go_enter Try.func73,Try.ntmps73
     go_upto_region 1 with (fail)
     rw [<-HW1.out]
     obtain ⟨c0,c1,c2,c3,c4,c5,c6,c7,c8,c9,c10,c11,c12,c13,c14,-⟩:=HC.out _ (Below.refl _ _)
     refine wp_region_held_drew (S:=(fun z:World=>z.cell? ⟨w.heap.size,0,none⟩=some (.slice AEx s.entry.length cEx)/\z.cell? ⟨w.heap.size,1,none⟩=some (.int .i64 s.place)/\z.cell? ⟨w.heap.size,2,none⟩=some (.int .i64 s.shard)/\z.cell? ⟨w.heap.size,3,none⟩=some (.slice APx s.path.length cPx)/\z.cell? ⟨w.heap.size,4,none⟩=some (.int .i64 s.rcd.sh)/\z.cell? ⟨w.heap.size,5,none⟩=some (.int .i64 s.rcd.fr)/\z.cell? ⟨w.heap.size,6,none⟩=some (.int .i64 s.rcd.to)/\z.cell? ⟨w.heap.size,7,none⟩=some (.int .i64 s.rcd.sz)/\z.cell? ⟨w.heap.size,8,none⟩=some (.slice ARx s.rcd.root.length cRx)/\z.cell? ⟨w.heap.size,9,none⟩=some (.int .i64 s.row)/\z.cell? ⟨w.heap.size,10,none⟩=some (.slice ABx s.bpath.length cBx)/\z.cell? ⟨w.heap.size,11,none⟩=some (.int .i64 s.hsz)/\z.cell? ⟨w.heap.size,12,none⟩=some (.slice AHx s.hroot.length cHx)/\z.cell? ⟨w.heap.size+1,0,none⟩=some (.int .i64 hsz)/\z.cell? ⟨w.heap.size+1,1,none⟩=some (.slice AK hroot.length cK)/\Below w1.heap.size w1 z)) (by kernel_rfl) ?_ (fun hHeld=>?_)
     · exact ⟨c0,c1,c2,c3,c4,c5,c6,c7,c8,c9,c10,c11,c12,c13,c14,(Below.refl _ _).drew⟩
     refine step_take (i:=0) (v:=?_) rfl (by kernel_rfl) (by kernel_rfl) (by kernel_rfl) (fun _ _ _ h=>h) (by rfl) ?yc1 (by assumption) ?_
     case yc1=>(intro w hSw;(try dsimp only at hSw);go_simp;(try with_reducible rfl))
     try simp only [Act.put,List.setIfInBounds_toArray,List.set_cons_zero,List.set_cons_succ]
     refine step_take (i:=1) (v:=?_) rfl (by kernel_rfl) (by kernel_rfl) (by kernel_rfl) (fun _ _ _ h=>h) (by rfl) ?yc2 (by assumption) ?_
     case yc2=>(intro w hSw;(try dsimp only at hSw);go_simp;(try with_reducible rfl))
     try simp only [Act.put,List.setIfInBounds_toArray,List.set_cons_zero,List.set_cons_succ]
     refine step_alone 2 rfl (by kernel_rfl) (by rfl) (fun K hK=>?_)
     go_simp
     refine (HB.out _).mono ?_
     rintro e y1 ⟨rfl,hy1⟩
     have hS1:=HK.out _ _ hHeld hy1
     go_simp
     refine hK.out _ _ ?_ (fun hHeld=>?_)
     · exact hS1
     clear hK K
     try simp only [Act.put,List.setIfInBounds_toArray,List.set_cons_zero,List.set_cons_succ]
     refine step_take (i:=3) (v:=?_) rfl (by kernel_rfl) (by kernel_rfl) (by kernel_rfl) (fun _ _ _ h=>h) (by rfl) ?yc4 (by assumption) ?_
     case yc4=>(intro w hSw;(try dsimp only at hSw);go_simp;(try with_reducible rfl))
     try simp only [Act.put,List.setIfInBounds_toArray,List.set_cons_zero,List.set_cons_succ]
     refine step_take (i:=4) (v:=?_) rfl (by kernel_rfl) (by kernel_rfl) (by kernel_rfl) (fun _ _ _ h=>h) (by rfl) ?yc5 (by assumption) ?_
     case yc5=>(intro w hSw;(try dsimp only at hSw);go_simp;(try with_reducible rfl))
     try simp only [Act.put,List.setIfInBounds_toArray,List.set_cons_zero,List.set_cons_succ]
     refine step_take (i:=5) (v:=?_) rfl (by kernel_rfl) (by kernel_rfl) (by kernel_rfl) (fun _ _ _ h=>h) (by rfl) ?yc6 (by assumption) ?_
     case yc6=>(intro w hSw;(try dsimp only at hSw);go_simp;(try with_reducible rfl))
     try simp only [Act.put,List.setIfInBounds_toArray,List.set_cons_zero,List.set_cons_succ]
     refine step_take (i:=6) (v:=?_) rfl (by kernel_rfl) (by kernel_rfl) (by kernel_rfl) (fun _ _ _ h=>h) (by rfl) ?yc7 (by assumption) ?_
     case yc7=>(intro w hSw;(try dsimp only at hSw);go_simp;(try with_reducible rfl))
     try simp only [Act.put,List.setIfInBounds_toArray,List.set_cons_zero,List.set_cons_succ]
     refine step_take (i:=7) (v:=?_) rfl (by kernel_rfl) (by kernel_rfl) (by kernel_rfl) (fun _ _ _ h=>h) (by rfl) ?yc8 (by assumption) ?_
     case yc8=>(intro w hSw;(try dsimp only at hSw);go_simp;(try with_reducible rfl))
     try simp only [Act.put,List.setIfInBounds_toArray,List.set_cons_zero,List.set_cons_succ]
     refine step_take (i:=8) (v:=?_) rfl (by kernel_rfl) (by kernel_rfl) (by kernel_rfl) (fun _ _ _ h=>h) (by rfl) ?yc9 (by assumption) ?_
     case yc9=>(intro w hSw;(try dsimp only at hSw);go_simp;(try with_reducible rfl))
     try simp only [Act.put,List.setIfInBounds_toArray,List.set_cons_zero,List.set_cons_succ]
     refine step_take (i:=9) (v:=?_) rfl (by kernel_rfl) (by kernel_rfl) (by kernel_rfl) (fun _ _ _ h=>h) (by rfl) ?yc10 (by assumption) ?_
     case yc10=>(intro w hSw;(try dsimp only at hSw);go_simp;(try with_reducible rfl))
     try simp only [Act.put,List.setIfInBounds_toArray,List.set_cons_zero,List.set_cons_succ]
     refine step_take (i:=10) (v:=?_) rfl (by kernel_rfl) (by kernel_rfl) (by kernel_rfl) (fun _ _ _ h=>h) (by rfl) ?yc11 (by assumption) ?_
     case yc11=>(intro w hSw;(try dsimp only at hSw);go_simp;(try with_reducible rfl))
     try simp only [Act.put,List.setIfInBounds_toArray,List.set_cons_zero,List.set_cons_succ]
     refine step_take (i:=11) (v:=?_) rfl (by kernel_rfl) (by kernel_rfl) (by kernel_rfl) (fun _ _ _ h=>h) (by rfl) ?yc12 (by assumption) ?_
     case yc12=>(intro w hSw;(try dsimp only at hSw);go_simp;(try with_reducible rfl))
     try simp only [Act.put,List.setIfInBounds_toArray,List.set_cons_zero,List.set_cons_succ]
     refine step_take (i:=12) (v:=?_) rfl (by kernel_rfl) (by kernel_rfl) (by kernel_rfl) (fun _ _ _ h=>h) (by rfl) ?yc13 (by assumption) ?_
     case yc13=>(intro w hSw;(try dsimp only at hSw);go_simp;(try with_reducible rfl))
     try simp only [Act.put,List.setIfInBounds_toArray,List.set_cons_zero,List.set_cons_succ]
     refine step_skip (i:=13) rfl (by kernel_rfl) (by kernel_rfl) (by kernel_rfl) (fun _ _ _ h=>h) (by rfl) (by assumption) ?_
     try simp only [Act.put,List.setIfInBounds_toArray,List.set_cons_zero,List.set_cons_succ]
     refine step_skip (i:=14) rfl (by kernel_rfl) (by kernel_rfl) (by kernel_rfl) (fun _ _ _ h=>h) (by rfl) (by assumption) ?_
     try simp only [Act.put,List.setIfInBounds_toArray,List.set_cons_zero,List.set_cons_succ]
     refine step_skip (i:=15) rfl (by kernel_rfl) (by kernel_rfl) (by kernel_rfl) (fun _ _ _ h=>h) (by rfl) (by assumption) ?_
     try simp only [Act.put,List.setIfInBounds_toArray,List.set_cons_zero,List.set_cons_succ]
     refine step_skip (i:=16) rfl (by kernel_rfl) (by kernel_rfl) (by kernel_rfl) (fun _ _ _ h=>h) (by rfl) (by assumption) ?_
     try simp only [Act.put,List.setIfInBounds_toArray,List.set_cons_zero,List.set_cons_succ]
     refine step_take (i:=17) (v:=?_) rfl (by kernel_rfl) (by kernel_rfl) (by kernel_rfl) (fun _ _ _ h=>h) (by rfl) ?yc18 (by assumption) ?_
     case yc18=>(intro w hSw;(try dsimp only at hSw);go_simp;(try with_reducible rfl))
     try simp only [Act.put,List.setIfInBounds_toArray,List.set_cons_zero,List.set_cons_succ]
     refine step_take (i:=18) (v:=?_) rfl (by kernel_rfl) (by kernel_rfl) (by kernel_rfl) (fun _ _ _ h=>h) (by rfl) ?yc19 (by assumption) ?_
     case yc19=>(intro w hSw;(try dsimp only at hSw);go_simp;(try with_reducible rfl))
     try simp only [Act.put,List.setIfInBounds_toArray,List.set_cons_zero,List.set_cons_succ]
     refine step_skip (i:=19) rfl (by kernel_rfl) (by kernel_rfl) (by kernel_rfl) (fun _ _ _ h=>h) (by rfl) (by assumption) ?_
     try simp only [Act.put,List.setIfInBounds_toArray,List.set_cons_zero,List.set_cons_succ]
     refine step_skip (i:=20) rfl (by kernel_rfl) (by kernel_rfl) (by kernel_rfl) (fun _ _ _ h=>h) (by rfl) (by assumption) ?_
     try simp only [Act.put,List.setIfInBounds_toArray,List.set_cons_zero,List.set_cons_succ]
     refine step_skip (i:=21) rfl (by kernel_rfl) (by kernel_rfl) (by kernel_rfl) (fun _ _ _ h=>h) (by rfl) (by assumption) ?_
     try simp only [Act.put,List.setIfInBounds_toArray,List.set_cons_zero,List.set_cons_succ]
     refine step_skip (i:=22) rfl (by kernel_rfl) (by kernel_rfl) (by kernel_rfl) (fun _ _ _ h=>h) (by rfl) (by assumption) ?_
     try simp only [Act.put,List.setIfInBounds_toArray,List.set_cons_zero,List.set_cons_succ]
     refine step_skip (i:=23) rfl (by kernel_rfl) (by kernel_rfl) (by kernel_rfl) (fun _ _ _ h=>h) (by rfl) (by assumption) ?_
     try simp only [Act.put,List.setIfInBounds_toArray,List.set_cons_zero,List.set_cons_succ]
     refine step_skip (i:=24) rfl (by kernel_rfl) (by kernel_rfl) (by kernel_rfl) (fun _ _ _ h=>h) (by rfl) (by assumption) ?_
     try simp only [Act.put,List.setIfInBounds_toArray,List.set_cons_zero,List.set_cons_succ]
     refine step_skip (i:=25) rfl (by kernel_rfl) (by kernel_rfl) (by kernel_rfl) (fun _ _ _ h=>h) (by rfl) (by assumption) ?_
     try simp only [Act.put,List.setIfInBounds_toArray,List.set_cons_zero,List.set_cons_succ]
     refine step_skip (i:=26) rfl (by kernel_rfl) (by kernel_rfl) (by kernel_rfl) (fun _ _ _ h=>h) (by rfl) (by assumption) ?_
     try simp only [Act.put,List.setIfInBounds_toArray,List.set_cons_zero,List.set_cons_succ]
     refine step_skip (i:=27) rfl (by kernel_rfl) (by kernel_rfl) (by kernel_rfl) (fun _ _ _ h=>h) (by rfl) (by assumption) ?_
     try simp only [Act.put,List.setIfInBounds_toArray,List.set_cons_zero,List.set_cons_succ]
     refine step_skip (i:=28) rfl (by kernel_rfl) (by kernel_rfl) (by kernel_rfl) (fun _ _ _ h=>h) (by rfl) (by assumption) ?_
     try simp only [Act.put,List.setIfInBounds_toArray,List.set_cons_zero,List.set_cons_succ]
     refine step_take (i:=29) (v:=?_) rfl (by kernel_rfl) (by kernel_rfl) (by kernel_rfl) (fun _ _ _ h=>h) (by rfl) ?yc30 (by assumption) ?_
     case yc30=>(intro w hSw;(try dsimp only at hSw);go_simp;(try with_reducible rfl))
     try simp only [Act.put,List.setIfInBounds_toArray,List.set_cons_zero,List.set_cons_succ]
     refine step_take (i:=30) (v:=?_) rfl (by kernel_rfl) (by kernel_rfl) (by kernel_rfl) (fun _ _ _ h=>h) (by rfl) ?yc31 (by assumption) ?_
     case yc31=>(intro w hSw;(try dsimp only at hSw);go_simp;(try with_reducible rfl))
     try simp only [Act.put,List.setIfInBounds_toArray,List.set_cons_zero,List.set_cons_succ]
     refine step_skip (i:=31) rfl (by kernel_rfl) (by kernel_rfl) (by kernel_rfl) (fun _ _ _ h=>h) (by rfl) (by assumption) ?_
     try simp only [Act.put,List.setIfInBounds_toArray,List.set_cons_zero,List.set_cons_succ]
     refine step_skip (i:=32) rfl (by kernel_rfl) (by kernel_rfl) (by kernel_rfl) (fun _ _ _ h=>h) (by rfl) (by assumption) ?_
     try simp only [Act.put,List.setIfInBounds_toArray,List.set_cons_zero,List.set_cons_succ]
     refine step_skip (i:=33) rfl (by kernel_rfl) (by kernel_rfl) (by kernel_rfl) (fun _ _ _ h=>h) (by rfl) (by assumption) ?_
     try simp only [Act.put,List.setIfInBounds_toArray,List.set_cons_zero,List.set_cons_succ]
     refine step_skip (i:=34) rfl (by kernel_rfl) (by kernel_rfl) (by kernel_rfl) (fun _ _ _ h=>h) (by rfl) (by assumption) ?_
     try simp only [Act.put,List.setIfInBounds_toArray,List.set_cons_zero,List.set_cons_succ]
     refine step_skip (i:=35) rfl (by kernel_rfl) (by kernel_rfl) (by kernel_rfl) (fun _ _ _ h=>h) (by rfl) (by assumption) ?_
     try simp only [Act.put,List.setIfInBounds_toArray,List.set_cons_zero,List.set_cons_succ]
     refine step_skip (i:=36) rfl (by kernel_rfl) (by kernel_rfl) (by kernel_rfl) (fun _ _ _ h=>h) (by rfl) (by assumption) ?_
     try simp only [Act.put,List.setIfInBounds_toArray,List.set_cons_zero,List.set_cons_succ]
     refine step_skip (i:=37) rfl (by kernel_rfl) (by kernel_rfl) (by kernel_rfl) (fun _ _ _ h=>h) (by rfl) (by assumption) ?_
     try simp only [Act.put,List.setIfInBounds_toArray,List.set_cons_zero,List.set_cons_succ]
     refine step_skip (i:=38) rfl (by kernel_rfl) (by kernel_rfl) (by kernel_rfl) (fun _ _ _ h=>h) (by rfl) (by assumption) ?_
     try simp only [Act.put,List.setIfInBounds_toArray,List.set_cons_zero,List.set_cons_succ]
     refine step_skip (i:=39) rfl (by kernel_rfl) (by kernel_rfl) (by kernel_rfl) (fun _ _ _ h=>h) (by rfl) (by assumption) ?_
     try simp only [Act.put,List.setIfInBounds_toArray,List.set_cons_zero,List.set_cons_succ]
     refine step_take (i:=40) (v:=?_) rfl (by kernel_rfl) (by kernel_rfl) (by kernel_rfl) (fun _ _ _ h=>h) (by rfl) ?yc41 (by assumption) ?_
     case yc41=>(intro w hSw;(try dsimp only at hSw);go_simp;(try with_reducible rfl))
     try simp only [Act.put,List.setIfInBounds_toArray,List.set_cons_zero,List.set_cons_succ]
     refine step_take (i:=41) (v:=?_) rfl (by kernel_rfl) (by kernel_rfl) (by kernel_rfl) (fun _ _ _ h=>h) (by rfl) ?yc42 (by assumption) ?_
     case yc42=>(intro w hSw;(try dsimp only at hSw);go_simp;(try with_reducible rfl))
     try simp only [Act.put,List.setIfInBounds_toArray,List.set_cons_zero,List.set_cons_succ]
     refine wpAnyH_done (by kernel_rfl) ?_ _
     go_wp2_with fail
     go_ret
     exact ⟨by rw [HS.out];rfl,hx1.trans (hS1.2.2.2.2.2.2.2.2.2.2.2.2.2.2.2.mono hx1.size)⟩
 · have hxb:((x:Int)==0)=false:=by rw [beq_eq_false_iff_ne];omega
   have HS:Hid (R=false):=Lib.hid (by rw [HR.out];unfold Fl.checkC;have h:Bk.wrongR s.rcd=x:=HX.out.symm;rw [h];simp [hw])
   have HB:=Lib.hid hB
   clear hB hw
   go_enter Try.func73,Try.ntmps73
   go_upto_region 1 with (fail)
   rw [<-HW1.out]
   obtain ⟨c0,c1,c2,c3,c4,c5,c6,c7,c8,c9,c10,c11,c12,c13,c14,-⟩:=HC.out _ (Below.refl _ _)
   refine wp_region_held_drew (S:=(fun z:World=>z.cell? ⟨w.heap.size,0,none⟩=some (.slice AEx s.entry.length cEx)/\z.cell? ⟨w.heap.size,1,none⟩=some (.int .i64 s.place)/\z.cell? ⟨w.heap.size,2,none⟩=some (.int .i64 s.shard)/\z.cell? ⟨w.heap.size,3,none⟩=some (.slice APx s.path.length cPx)/\z.cell? ⟨w.heap.size,4,none⟩=some (.int .i64 s.rcd.sh)/\z.cell? ⟨w.heap.size,5,none⟩=some (.int .i64 s.rcd.fr)/\z.cell? ⟨w.heap.size,6,none⟩=some (.int .i64 s.rcd.to)/\z.cell? ⟨w.heap.size,7,none⟩=some (.int .i64 s.rcd.sz)/\z.cell? ⟨w.heap.size,8,none⟩=some (.slice ARx s.rcd.root.length cRx)/\z.cell? ⟨w.heap.size,9,none⟩=some (.int .i64 s.row)/\z.cell? ⟨w.heap.size,10,none⟩=some (.slice ABx s.bpath.length cBx)/\z.cell? ⟨w.heap.size,11,none⟩=some (.int .i64 s.hsz)/\z.cell? ⟨w.heap.size,12,none⟩=some (.slice AHx s.hroot.length cHx)/\z.cell? ⟨w.heap.size+1,0,none⟩=some (.int .i64 hsz)/\z.cell? ⟨w.heap.size+1,1,none⟩=some (.slice AK hroot.length cK)/\Below w1.heap.size w1 z)) (by kernel_rfl) ?_ (fun hHeld=>?_)
   · exact ⟨c0,c1,c2,c3,c4,c5,c6,c7,c8,c9,c10,c11,c12,c13,c14,(Below.refl _ _).drew⟩
   refine step_take (i:=0) (v:=?_) rfl (by kernel_rfl) (by kernel_rfl) (by kernel_rfl) (fun _ _ _ h=>h) (by rfl) ?yc1 (by assumption) ?_
   case yc1=>(intro w hSw;(try dsimp only at hSw);go_simp;(try with_reducible rfl))
   try simp only [Act.put,List.setIfInBounds_toArray,List.set_cons_zero,List.set_cons_succ]
   refine step_take (i:=1) (v:=?_) rfl (by kernel_rfl) (by kernel_rfl) (by kernel_rfl) (fun _ _ _ h=>h) (by rfl) ?yc2 (by assumption) ?_
   case yc2=>(intro w hSw;(try dsimp only at hSw);go_simp;(try with_reducible rfl))
   try simp only [Act.put,List.setIfInBounds_toArray,List.set_cons_zero,List.set_cons_succ]
   refine step_alone 2 rfl (by kernel_rfl) (by rfl) (fun K hK=>?_)
   go_simp
   refine (HB.out _).mono ?_
   rintro e y1 ⟨rfl,hy1⟩
   have hS1:=HK.out _ _ hHeld hy1
   go_simp
   refine hK.out _ _ ?_ (fun hHeld=>?_)
   · exact hS1
   clear hK K
   try simp only [Act.put,List.setIfInBounds_toArray,List.set_cons_zero,List.set_cons_succ]
   refine step_take (i:=3) (v:=?_) rfl (by kernel_rfl) (by kernel_rfl) (by kernel_rfl) (fun _ _ _ h=>h) (by rfl) ?yc4 (by assumption) ?_
   case yc4=>(intro w hSw;(try dsimp only at hSw);go_simp;(try with_reducible rfl))
   try simp only [Act.put,List.setIfInBounds_toArray,List.set_cons_zero,List.set_cons_succ]
   refine step_take (i:=4) (v:=?_) rfl (by kernel_rfl) (by kernel_rfl) (by kernel_rfl) (fun _ _ _ h=>h) (by rfl) ?yc5 (by assumption) ?_
   case yc5=>(intro w hSw;(try dsimp only at hSw);go_simp;(try with_reducible rfl))
   try simp only [Act.put,List.setIfInBounds_toArray,List.set_cons_zero,List.set_cons_succ]
   refine step_skip (i:=5) rfl (by kernel_rfl) (by kernel_rfl) (by kernel_rfl) (fun _ _ _ h=>h) (by rfl) (by assumption) ?_
   try simp only [Act.put,List.setIfInBounds_toArray,List.set_cons_zero,List.set_cons_succ]
   refine step_skip (i:=6) rfl (by kernel_rfl) (by kernel_rfl) (by kernel_rfl) (fun _ _ _ h=>h) (by rfl) (by assumption) ?_
   try simp only [Act.put,List.setIfInBounds_toArray,List.set_cons_zero,List.set_cons_succ]
   refine step_skip (i:=7) rfl (by kernel_rfl) (by kernel_rfl) (by kernel_rfl) (fun _ _ _ h=>h) (by rfl) (by assumption) ?_
   try simp only [Act.put,List.setIfInBounds_toArray,List.set_cons_zero,List.set_cons_succ]
   refine step_skip (i:=8) rfl (by kernel_rfl) (by kernel_rfl) (by kernel_rfl) (fun _ _ _ h=>h) (by rfl) (by assumption) ?_
   try simp only [Act.put,List.setIfInBounds_toArray,List.set_cons_zero,List.set_cons_succ]
   refine step_skip (i:=9) rfl (by kernel_rfl) (by kernel_rfl) (by kernel_rfl) (fun _ _ _ h=>h) (by rfl) (by assumption) ?_
   try simp only [Act.put,List.setIfInBounds_toArray,List.set_cons_zero,List.set_cons_succ]
   refine step_skip (i:=10) rfl (by kernel_rfl) (by kernel_rfl) (by kernel_rfl) (fun _ _ _ h=>h) (by rfl) (by assumption) ?_
   try simp only [Act.put,List.setIfInBounds_toArray,List.set_cons_zero,List.set_cons_succ]
   refine step_take (i:=11) (v:=?_) rfl (by kernel_rfl) (by kernel_rfl) (by kernel_rfl) (fun _ _ _ h=>h) (by rfl) ?yc12 (by assumption) ?_
   case yc12=>(intro w hSw;(try dsimp only at hSw);go_simp;(try with_reducible rfl))
   try simp only [Act.put,List.setIfInBounds_toArray,List.set_cons_zero,List.set_cons_succ]
   refine step_take (i:=12) (v:=?_) rfl (by kernel_rfl) (by kernel_rfl) (by kernel_rfl) (fun _ _ _ h=>h) (by rfl) ?yc13 (by assumption) ?_
   case yc13=>(intro w hSw;(try dsimp only at hSw);go_simp;(try with_reducible rfl))
   try simp only [Act.put,List.setIfInBounds_toArray,List.set_cons_zero,List.set_cons_succ]
   refine step_skip (i:=13) rfl (by kernel_rfl) (by kernel_rfl) (by kernel_rfl) (fun _ _ _ h=>h) (by rfl) (by assumption) ?_
   try simp only [Act.put,List.setIfInBounds_toArray,List.set_cons_zero,List.set_cons_succ]
   refine step_skip (i:=14) rfl (by kernel_rfl) (by kernel_rfl) (by kernel_rfl) (fun _ _ _ h=>h) (by rfl) (by assumption) ?_
   try simp only [Act.put,List.setIfInBounds_toArray,List.set_cons_zero,List.set_cons_succ]
   refine step_skip (i:=15) rfl (by kernel_rfl) (by kernel_rfl) (by kernel_rfl) (fun _ _ _ h=>h) (by rfl) (by assumption) ?_
   try simp only [Act.put,List.setIfInBounds_toArray,List.set_cons_zero,List.set_cons_succ]
   refine step_skip (i:=16) rfl (by kernel_rfl) (by kernel_rfl) (by kernel_rfl) (fun _ _ _ h=>h) (by rfl) (by assumption) ?_
   try simp only [Act.put,List.setIfInBounds_toArray,List.set_cons_zero,List.set_cons_succ]
   refine step_take (i:=17) (v:=?_) rfl (by kernel_rfl) (by kernel_rfl) (by kernel_rfl) (fun _ _ _ h=>h) (by rfl) ?yc18 (by assumption) ?_
   case yc18=>(intro w hSw;(try dsimp only at hSw);go_simp;(try with_reducible rfl))
   try simp only [Act.put,List.setIfInBounds_toArray,List.set_cons_zero,List.set_cons_succ]
   refine step_take (i:=18) (v:=?_) rfl (by kernel_rfl) (by kernel_rfl) (by kernel_rfl) (fun _ _ _ h=>h) (by rfl) ?yc19 (by assumption) ?_
   case yc19=>(intro w hSw;(try dsimp only at hSw);go_simp;(try with_reducible rfl))
   try simp only [Act.put,List.setIfInBounds_toArray,List.set_cons_zero,List.set_cons_succ]
   refine step_skip (i:=19) rfl (by kernel_rfl) (by kernel_rfl) (by kernel_rfl) (fun _ _ _ h=>h) (by rfl) (by assumption) ?_
   try simp only [Act.put,List.setIfInBounds_toArray,List.set_cons_zero,List.set_cons_succ]
   refine step_skip (i:=20) rfl (by kernel_rfl) (by kernel_rfl) (by kernel_rfl) (fun _ _ _ h=>h) (by rfl) (by assumption) ?_
   try simp only [Act.put,List.setIfInBounds_toArray,List.set_cons_zero,List.set_cons_succ]
   refine step_skip (i:=21) rfl (by kernel_rfl) (by kernel_rfl) (by kernel_rfl) (fun _ _ _ h=>h) (by rfl) (by assumption) ?_
   try simp only [Act.put,List.setIfInBounds_toArray,List.set_cons_zero,List.set_cons_succ]
   refine step_skip (i:=22) rfl (by kernel_rfl) (by kernel_rfl) (by kernel_rfl) (fun _ _ _ h=>h) (by rfl) (by assumption) ?_
   try simp only [Act.put,List.setIfInBounds_toArray,List.set_cons_zero,List.set_cons_succ]
   refine step_skip (i:=23) rfl (by kernel_rfl) (by kernel_rfl) (by kernel_rfl) (fun _ _ _ h=>h) (by rfl) (by assumption) ?_
   try simp only [Act.put,List.setIfInBounds_toArray,List.set_cons_zero,List.set_cons_succ]
   refine step_skip (i:=24) rfl (by kernel_rfl) (by kernel_rfl) (by kernel_rfl) (fun _ _ _ h=>h) (by rfl) (by assumption) ?_
   try simp only [Act.put,List.setIfInBounds_toArray,List.set_cons_zero,List.set_cons_succ]
   refine step_skip (i:=25) rfl (by kernel_rfl) (by kernel_rfl) (by kernel_rfl) (fun _ _ _ h=>h) (by rfl) (by assumption) ?_
   try simp only [Act.put,List.setIfInBounds_toArray,List.set_cons_zero,List.set_cons_succ]
   refine step_skip (i:=26) rfl (by kernel_rfl) (by kernel_rfl) (by kernel_rfl) (fun _ _ _ h=>h) (by rfl) (by assumption) ?_
   try simp only [Act.put,List.setIfInBounds_toArray,List.set_cons_zero,List.set_cons_succ]
   refine step_skip (i:=27) rfl (by kernel_rfl) (by kernel_rfl) (by kernel_rfl) (fun _ _ _ h=>h) (by rfl) (by assumption) ?_
   try simp only [Act.put,List.setIfInBounds_toArray,List.set_cons_zero,List.set_cons_succ]
   refine step_skip (i:=28) rfl (by kernel_rfl) (by kernel_rfl) (by kernel_rfl) (fun _ _ _ h=>h) (by rfl) (by assumption) ?_
   try simp only [Act.put,List.setIfInBounds_toArray,List.set_cons_zero,List.set_cons_succ]
   refine step_take (i:=29) (v:=?_) rfl (by kernel_rfl) (by kernel_rfl) (by kernel_rfl) (fun _ _ _ h=>h) (by rfl) ?yc30 (by assumption) ?_
   case yc30=>(intro w hSw;(try dsimp only at hSw);go_simp;(try with_reducible rfl))
   try simp only [Act.put,List.setIfInBounds_toArray,List.set_cons_zero,List.set_cons_succ]
   refine step_take (i:=30) (v:=?_) rfl (by kernel_rfl) (by kernel_rfl) (by kernel_rfl) (fun _ _ _ h=>h) (by rfl) ?yc31 (by assumption) ?_
   case yc31=>(intro w hSw;(try dsimp only at hSw);go_simp;(try with_reducible rfl))
   try simp only [Act.put,List.setIfInBounds_toArray,List.set_cons_zero,List.set_cons_succ]
   refine step_skip (i:=31) rfl (by kernel_rfl) (by kernel_rfl) (by kernel_rfl) (fun _ _ _ h=>h) (by rfl) (by assumption) ?_
   try simp only [Act.put,List.setIfInBounds_toArray,List.set_cons_zero,List.set_cons_succ]
   refine step_skip (i:=32) rfl (by kernel_rfl) (by kernel_rfl) (by kernel_rfl) (fun _ _ _ h=>h) (by rfl) (by assumption) ?_
   try simp only [Act.put,List.setIfInBounds_toArray,List.set_cons_zero,List.set_cons_succ]
   refine step_skip (i:=33) rfl (by kernel_rfl) (by kernel_rfl) (by kernel_rfl) (fun _ _ _ h=>h) (by rfl) (by assumption) ?_
   try simp only [Act.put,List.setIfInBounds_toArray,List.set_cons_zero,List.set_cons_succ]
   refine step_skip (i:=34) rfl (by kernel_rfl) (by kernel_rfl) (by kernel_rfl) (fun _ _ _ h=>h) (by rfl) (by assumption) ?_
   try simp only [Act.put,List.setIfInBounds_toArray,List.set_cons_zero,List.set_cons_succ]
   refine step_skip (i:=35) rfl (by kernel_rfl) (by kernel_rfl) (by kernel_rfl) (fun _ _ _ h=>h) (by rfl) (by assumption) ?_
   try simp only [Act.put,List.setIfInBounds_toArray,List.set_cons_zero,List.set_cons_succ]
   refine step_skip (i:=36) rfl (by kernel_rfl) (by kernel_rfl) (by kernel_rfl) (fun _ _ _ h=>h) (by rfl) (by assumption) ?_
   try simp only [Act.put,List.setIfInBounds_toArray,List.set_cons_zero,List.set_cons_succ]
   refine step_skip (i:=37) rfl (by kernel_rfl) (by kernel_rfl) (by kernel_rfl) (fun _ _ _ h=>h) (by rfl) (by assumption) ?_
   try simp only [Act.put,List.setIfInBounds_toArray,List.set_cons_zero,List.set_cons_succ]
   refine step_skip (i:=38) rfl (by kernel_rfl) (by kernel_rfl) (by kernel_rfl) (fun _ _ _ h=>h) (by rfl) (by assumption) ?_
   try simp only [Act.put,List.setIfInBounds_toArray,List.set_cons_zero,List.set_cons_succ]
   refine step_skip (i:=39) rfl (by kernel_rfl) (by kernel_rfl) (by kernel_rfl) (fun _ _ _ h=>h) (by rfl) (by assumption) ?_
   try simp only [Act.put,List.setIfInBounds_toArray,List.set_cons_zero,List.set_cons_succ]
   refine step_take (i:=40) (v:=?_) rfl (by kernel_rfl) (by kernel_rfl) (by kernel_rfl) (fun _ _ _ h=>h) (by rfl) ?yc41 (by assumption) ?_
   case yc41=>(intro w hSw;(try dsimp only at hSw);go_simp;(try with_reducible rfl))
   try simp only [Act.put,List.setIfInBounds_toArray,List.set_cons_zero,List.set_cons_succ]
   refine step_take (i:=41) (v:=?_) rfl (by kernel_rfl) (by kernel_rfl) (by kernel_rfl) (fun _ _ _ h=>h) (by rfl) ?yc42 (by assumption) ?_
   case yc42=>(intro w hSw;(try dsimp only at hSw);go_simp;(try with_reducible rfl))
   try simp only [Act.put,List.setIfInBounds_toArray,List.set_cons_zero,List.set_cons_succ]
   refine wpAnyH_done (by kernel_rfl) ?_ _
   go_wp2_with fail
   go_ret
   exact ⟨by rw [HS.out];rfl,hx1.trans (hS1.2.2.2.2.2.2.2.2.2.2.2.2.2.2.2.mono hx1.size)⟩
end Go.Proofs.Ytfdibjgmbdkbcaa
