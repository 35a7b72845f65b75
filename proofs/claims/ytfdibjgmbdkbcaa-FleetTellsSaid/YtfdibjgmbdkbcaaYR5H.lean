/-
  THE WALK of yearref5.Verify. Conditions: what is read is a manifest.
-/
import Derived.Test.YtfdibjgmbdkbcaaYGh
import Derived.Test.YtfdibjgmbdkbcaaYGv
import Derived.Test.YtfdibjgmbdkbcaaYR2B
import Derived.Test.YtfdibjgmbdkbcaaYR5F
namespace Go.Proofs.Ytfdibjgmbdkbcaa
open Go.RowKit Go.Lib
def RVerPost (w:World) (r:(Nat × Nat) × List Bs) (e:Ending) (w':World):Prop :=
 ∃ v,e = .returned (.tuple #[v,fv r.1])/\OwnQ w' w.heap.size w.heap.size v r.2/\Below w.heap.size w w'
theorem verS {W z:World} {g:Nat} {a0 a1 a2:Value} (hk:Blk W g 77 #[a0,a1,a2]) (hx:Below W.heap.size W z):z.cell? ⟨g,1,none⟩=some a1/\Below W.heap.size W z:=⟨(hk.below hx hk.lt).cell 1,hx⟩
theorem PcB.setFar {w:World} {B g:Nat} {v:Value} {l:Bs} {t:TypeId} {cs:Array Value} (h:PcB w B v l) (hg:Blk w g t cs) (ht:5≠t) (i:Nat) (u:Value):PcB (w.setCell ⟨g,i,none⟩ u) B v l :=
 h.keep (by simp) fun k _ hk=>Below.heap_setCell w ⟨g,i,none⟩ u k (fun e=>by
  obtain ⟨_,cs',hk⟩:=hk
  subst e
  unfold Blk at hg
  rw [hg] at hk
  injection hk with hk
  injection hk with _ hk
  exact ht hk.symm)
set_option maxRecDepth 100000 in
set_option maxHeartbeats 4000000 in
theorem rverify_out (w:World) (size:Int) (vr:Value) (A:Option Addr) (n c:Nat) (h:¬ (0<=size/\size<=100/\(n:Int)=(size+7) / 8)) :
 Calls Try.prog 67 #[.agg #[.int .i64 size,vr,.slice A n c]] w (RVerPost w ((5,0),[])):=by
 have hk1:Blk ((w.alloc (.cells #[.int .i64 size,vr,.slice A n c] 77)).alloc (.cells #[.int .i64 0,.int .i64 0] 32)) (w.heap.size+1) 32 #[.int .i64 0,.int .i64 0]:=by
  have:=heap_alloc_new (w.alloc (.cells #[.int .i64 size,vr,.slice A n c] 77)) (.cells #[.int .i64 0,.int .i64 0] 32)
  rw [World.size_alloc] at this
  exact this
 have hx1:=((Below.refl w.heap.size w).alloc (Nat.le_refl _) (.cells #[.int .i64 size,vr,.slice A n c] 77)).alloc (by simp) (.cells #[.int .i64 0,.int .i64 0] 32)
 go_enter Try.func67,Try.ntmps67
 go_wp2_with fail
 all_goals first
  | (exfalso
     refine h ⟨by omega,by omega,?_⟩
     have hne:((n:Int) != size / 8+min (size % 8) 1)=false:=by simp_all
     have he:(n:Int)=size / 8+min (size % 8) 1:=by simpa using hne
     omega)
  | (refine bodyPost_ret (v:=.tuple #[.slice none 0 0,.agg #[.int .i64 5,.int .i64 0]]) (by simp [results,Try.results67,go_sem]) rfl ⟨_,rfl,OwnQ.nil_ _ _ _,?_⟩
     exact ((Below.refl _ _).alloc (Nat.le_refl _) _).alloc (by simp) _)
set_option maxRecDepth 100000 in
set_option maxHeartbeats 4000000 in
theorem rverify_in (w:World) (F F':Nat->Prop) (vr vs:Value) (m:Man) (hr:Bytes w F' vr m.root) (hs:RdL w F vs m.segs) (hm:Shf.shape m) :
 Calls Try.prog 67 #[.agg #[.int .i64 m.size,vr,vs]] w (RVerPost w (Shf.verC m)):=by
 obtain ⟨i0,hi,hz0,hz1,hz2⟩:=info_parts info_bytes
 have HV:=Lib.hid (verC_in hm)
 obtain ⟨A,c,hv,hnc,hcm⟩:=hs.form
 obtain ⟨Ar,cr,hvr⟩:=hr.form
 unfold maxLen at hcm
 subst hvr
 have hm':=hm
 obtain ⟨h0,h1,h2⟩:=hm'
 have d0:decide (m.size<0)=false:=decide_eq_false (by omega)
 have d1:decide (100<m.size)=false:=decide_eq_false (by omega)
 have d2:((m.segs.length:Int) != m.size / 8+min (m.size % 8) 1)=false:=by rw [bne_eq_false_iff_eq];omega
 have hn13:m.segs.length<=13:=by omega
 have HM:=Lib.hid hm
 have hx0:=((Below.refl w.heap.size w).alloc (Nat.le_refl _) (.cells #[.int .i64 m.size,.slice Ar m.root.length cr,vs] 77)).alloc (by simp) (.cells #[.int .i64 0,.int .i64 0] 32)
 have hkm:Blk ((w.alloc (.cells #[.int .i64 m.size,.slice Ar m.root.length cr,vs] 77)).alloc (.cells #[.int .i64 0,.int .i64 0] 32)) w.heap.size 77 #[.int .i64 m.size,.slice Ar m.root.length cr,vs]:=Blk.alloc (heap_alloc_new w _) _
 have hkf:Blk ((w.alloc (.cells #[.int .i64 m.size,.slice Ar m.root.length cr,vs] 77)).alloc (.cells #[.int .i64 0,.int .i64 0] 32)) (w.heap.size+1) 32 #[.int .i64 0,.int .i64 0]:=by
  have:=heap_alloc_new (w.alloc (.cells #[.int .i64 m.size,.slice Ar m.root.length cr,vs] 77)) (.cells #[.int .i64 0,.int .i64 0] 32)
  rw [World.size_alloc] at this
  exact this
 have hsz:=hx0.size
 clear h2 hm
 subst hv
 go_enter Try.func67,Try.ntmps67
 go_wp2_with fail
 generalize ((w.alloc (.cells #[.int .i64 m.size,.slice Ar m.root.length cr,.slice A m.segs.length c] 77)).alloc (.cells #[.int .i64 0,.int .i64 0] 32))=w0 at *
 go_loopg [5,34] m.segs.length (fun k vo i wr=>∃ (j:Nat) (acc:List Bs),j+k=m.segs.length/\i = .int .i64 (j:Int)/\Hid (Shf.allC m k j acc=Shf.allC m m.segs.length 0 [])/\acc.length<=8*j/\OwnQ wr w.heap.size w.heap.size vo acc ∧
  Blk wr w.heap.size 77 #[.int .i64 m.size,.slice Ar m.root.length cr,.slice A m.segs.length c]/\Blk wr (w.heap.size+1) 32 #[.int .i64 0,.int .i64 0]/\Below w.heap.size w wr)
 case atStart=>exact ⟨0,[],by omega,rfl,Lib.hid rfl,Nat.le_refl _,OwnQ.nil_ _ _ _,hkm,hkf,hx0⟩
 case round =>
  obtain ⟨j,acc,hj,rfl,HA,hal,hown,hkm2,hkf2,hx⟩:=hrel
  have hlt1:=hkf2.lt
  have e0:wr.cell? ⟨w.heap.size,0,none⟩=some (.int .i64 m.size):=hkm2.cell 0
  have e1:wr.cell? ⟨w.heap.size,1,none⟩=some (.slice Ar m.root.length cr):=hkm2.cell 1
  have e2:wr.cell? ⟨w.heap.size,2,none⟩=some (.slice A m.segs.length c):=hkm2.cell 2
  have f0:wr.cell? ⟨w.heap.size+1,0,none⟩=some (.int .i64 0):=hkf2.cell 0
  have f1:wr.cell? ⟨w.heap.size+1,1,none⟩=some (.int .i64 0):=hkf2.cell 1
  have g0:=hkf2.frozen 0
  have g1:=hkf2.frozen 1
  by_cases hlt:j<m.segs.length
  · have hltB:(j:Int)<(m.segs.length:Int):=by omega
    obtain ⟨k,rfl⟩:∃ k,gk=k+1:=⟨gk-1,by omega⟩
    obtain ⟨r,HR⟩:∃ r,Hid (r=Shf.segC m (j:Int)):=⟨_,Lib.hid rfl⟩
    have hst:r.1≠0->Shf.allC m (k+1) j acc=((r.1,j),[]):=by rw [HR.out];exact allC_stop
    have hsn:r.1=0->Shf.allC m (k+1) j acc=Shf.allC m k (j+1) (acc++r.2):=by rw [HR.out];exact allC_snoc
    have hlen:r.1=0->r.2.length<=8:=by
     rw [HR.out]
     intro hz
     obtain ⟨hk,hf,_,hl,_⟩:=Shf.segC_ok hz
     obtain ⟨f0,f1,f2,f3,f4,f5⟩:=hf
     omega
    go_wp2_with fail
    with_reducible refine (rsegment_any wr F _ _ m (j:Int) (hs.below hx)).mono ?_
    rw [<-HR.out]
    rintro e w2 ⟨v2,rfl,ho2,hx2⟩
    obtain ⟨ec,el⟩:=r
    simp only at hst hsn hlen ho2
    have hkm3:=hkm2.below hx2 hkm2.lt
    have hkf3:=hkf2.below hx2 hkf2.lt
    have hx3:=hx.trans (hx2.mono hx.size)
    by_cases hz:ec=0
    · have HS:=Lib.hid (hsn hz)
      have hl8:=hlen hz
      subst hz
      obtain ⟨vs1,hO,hin⟩:=hown.below hx2
      obtain ⟨us,hO2,hin2⟩:=ho2.mono hx.size hx.size
      obtain ⟨A3,c3,hv3,hlc3,hcm3⟩:=Own.shape hO
      subst hv3
      obtain ⟨A4,c4,hv4,hlc4,hcm4⟩:=Own.shape hO2
      subst hv4
      clear hst hsn hlen
      have hsrc:SlAt w2 (fun _=>True) 1 (.slice A4 el.length c4) el.length us:=hO2.slAt (fun _ _=>trivial)
      have hone:∀ u ∈ us,u.oneCell'=true:=fun u hu=>by
       obtain ⟨q,hq,hqe⟩:=List.getElem_of_mem hu
       obtain ⟨u',hu',hb'⟩:=hin2 q (el[q]'(by have:=hO2.1;omega)) (List.getElem?_eq_getElem _)
       rw [List.getElem?_eq_getElem hq] at hu'
       injection hu' with hu'
       subst hu'
       obtain ⟨A',c',hv'⟩:=Bytes.form hb'
       rw [<-hqe,hv']
       rfl
      go_wp2_with (at_builtin
                   refine wpList_append_Own _ (by rfl) (.tmp 48) (.tmp 49) 40 (by rfl) w.heap.size 22 i0 _ 1 24 Try.underlying40 hi hz0 hz1 hz2 (by rfl) (by omega) (.slice A3 acc.length c3) acc.length vs1 (by rfl) hO _ _ el.length us (by rfl) hsrc hone (by simp only [maxLen];omega) (by omega) (by have:=hx3.size;omega) ?_
                   intro v4 w4 hown4 hgr4 hat4
                   have hL:=OwnQ.join hin (by have:=hO.1;omega) hin2 hO hgr4 hown4
                   have hx4:Below w.heap.size w w4:=hx3.grown hgr4 hx3.size (fun k hk=>(Own.lt hO k hk).1)
                   have hkm4:=hkm3.keep (hgr4.block _ hkm3.lt (fun e=>Own.ne_blk hO hkm3 (by decide) e.symm))
                   have hkf4:=hkf3.keep (hgr4.block _ hkf3.lt (fun e=>Own.ne_blk hO hkf3 (by decide) e.symm)))
      go_roundg k
      case measure=>omega
      case rel=>exact ⟨j+1,acc++el,by omega,by go_num,Lib.hid (HS.out.symm.trans HA.out),by rw [List.length_append];omega,hL,hkm4,hkf4,hx4⟩
    · have HS:=Lib.hid (HA.out.symm.trans (hst hz))
      have heB:((ec:Int) != 0)=true:=by simp;omega
      have HZ:=Lib.hid hz
      have b0:w2.cell? ⟨w.heap.size+1,0,none⟩=some (.int .i64 0):=hkf3.cell 0
      have b1:w2.cell? ⟨w.heap.size+1,1,none⟩=some (.int .i64 0):=hkf3.cell 1
      have b2:=hkf3.frozen 0
      have b3:=hkf3.frozen 1
      clear hst hsn hlen hz
      go_wp2_with fail
      obtain ⟨W,hW⟩:∃ z:World,z=((w2.setCell ⟨w.heap.size+1,0,none⟩ (.int .i64 (ec:Int))).setCell ⟨w.heap.size+1,1,none⟩ (.int .i64 (j:Int))):=⟨_,rfl⟩
      rw [<-hW]
      have sB:Blk W (w.heap.size+1) 32 #[.int .i64 (ec:Int),.int .i64 (j:Int)]:=by rw [hW];exact hkf3.set2 _ _
      have sX:Below w.heap.size w W:=by rw [hW];exact below_set2 hx3 (by omega) _ _
      have HW:=Lib.hid hW
      clear hW
      have sc0:W.cell? ⟨w.heap.size+1,0,none⟩=some (.int .i64 (ec:Int)):=sB.cell 0
      have sc1:W.cell? ⟨w.heap.size+1,1,none⟩=some (.int .i64 (j:Int)):=sB.cell 1
      have hV:Shf.verC m=((ec,j),[]):=by rw [HV.out,HS.out];exact if_neg HZ.out
      have HV2:=Lib.hid hV
      clear hV
      refine bodyPost_ret (v:=.tuple #[.slice none 0 0,.agg #[.int .i64 (ec:Int),.int .i64 (j:Int)]]) (by simp [results,Try.results67,go_sem,sc0,sc1]) rfl ⟨.slice none 0 0,?_,?_,sX⟩
      · rw [HV2.out];rfl
      · rw [HV2.out];exact OwnQ.nil_ _ _ _
  · have hltB:decide ((j:Int)<(m.segs.length:Int))=false:=decide_eq_false (by omega)
    have hk0:gk=0:=by omega
    subst hk0
    have hA0:Shf.allC m m.segs.length 0 []=((0,0),acc):=by rw [<-HA.out];rfl
    have hfine:Fine acc:=by
     have:=(Shf.allC_fine HM.out (by rw [hA0])).2
     rw [hA0] at this
     exact this
    have hV:Shf.verC m=if Tr.rootL acc=m.root then ((0,0),acc) else ((9,0),[]):=by rw [HV.out,hA0];rfl
    have HV2:=Lib.hid hV
    clear hA0 hV
    obtain ⟨A3,c3,hv3,_,_⟩:=hown.blist.shape
    subst hv3
    have hsh:=hfine.short
    have hl100:acc.length<=100:=hfine.1
    obtain ⟨R,hR⟩:∃ R,Tr.rootL acc=R:=⟨_,rfl⟩
    have hR2:Tr.root (acc.map Tr.leafH)=R:=hR
    have HR:=Lib.hid hR2
    rw [hR] at HV2
    have hs0:=verS hkm2 (Below.refl wr.heap.size wr).drew
    clear hR hR2
    obtain ⟨qb,HQB⟩:∃ qb:Bool,Hid ((R==m.root)=qb):=⟨_,Lib.hid rfl⟩
    go_upto_region 13 with (fail)
    go_region_held3 (fun z:World=>z.cell? ⟨w.heap.size,1,none⟩=some (.slice Ar m.root.length cr)/\Below wr.heap.size wr z) (first | assumption | exact hs0)
     (first
       | ((with_reducible refine (root_ref acc.length wr.drew _ _ acc (hown.blist.below (Below.refl wr.heap.size wr).drew) rfl (by omega) hsh).mono ?_)
          rintro e y1 ⟨mv,rfl,hmo,hy1⟩
          have hz1:=(Below.refl wr.heap.size wr).drew.trans hy1
          rw [HR.out] at hmo
          have hmb:=OwnB.bytes hmo
          have hra:Bytes y1 F' (.slice Ar m.root.length cr) m.root:=SlAt.below hr (hx.trans (hz1.mono hx.size))
          have hs1:=verS hkm2 hz1)
       | ((with_reducible refine Calls.mono (by have hsa:=same_any y1 _ _ _ _ R m.root hmb hra;rw [HQB.out] at hsa;exact hsa) ?_)
          rintro e y2 ⟨rfl,n2,rfl⟩
          have hz2:Below wr.heap.size wr (y1.drewN n2):=below_drewN hz1 n2
          have hs2:=verS hkm2 hz2))
    have hx3':=hx.trans (hz2.mono hx.size)
    have hkf3:=hkf2.below hz2 hkf2.lt
    have hown3:=hown.below hz2
    clear hs0 hs1 hs2 hz1 hy1 hmo hmb hra e0 e1 e2 f0 f1 g0 g1
    generalize y1.drewN n2=y2 at *
    have q2:y2.cell? ⟨w.heap.size+1,0,none⟩=some (.int .i64 0):=hkf3.cell 0
    have q3:y2.cell? ⟨w.heap.size+1,1,none⟩=some (.int .i64 0):=hkf3.cell 1
    have q4:=hkf3.frozen 0
    have q5:=hkf3.frozen 1
    by_cases hq:R=m.root
    · have hV:=HV2.out.trans (if_pos hq)
      have HV3:=Lib.hid hV
      have HQ:=Lib.hid hq
      have hqt:qb=true:=by rw [<-HQB.out];exact beq_iff_eq.2 hq
      subst hqt
      clear hV hq
      go_wp2_with fail
      obtain ⟨W,hW⟩:∃ z:World,z=((y2.setCell ⟨w.heap.size+1,0,none⟩ (.int .i64 0)).setCell ⟨w.heap.size+1,1,none⟩ (.int .i64 0)):=⟨_,rfl⟩
      rw [<-hW]
      have sB:Blk W (w.heap.size+1) 32 #[.int .i64 0,.int .i64 0]:=by rw [hW];exact hkf3.set2 _ _
      have sX:Below w.heap.size w W:=by rw [hW];exact below_set2 hx3' (by omega) _ _
      have sL:OwnQ W w.heap.size w.heap.size (.slice A3 acc.length c3) acc:=by
       obtain ⟨vs,ho,hin⟩:=hown3
       rw [hW]
       exact ⟨vs,Own.set2 ho (Own.ne_blk ho hkf3 (by decide)) _ _,fun i b hb=>by
        obtain ⟨u,hu,hu2⟩:=hin i b hb
        exact ⟨u,hu,(hu2.setFar hkf3 (by decide) 0 _).setFar (hkf3.set_ 0 _) (by decide) 1 _⟩⟩
      have HW:=Lib.hid hW
      clear hW
      have sc0:W.cell? ⟨w.heap.size+1,0,none⟩=some (.int .i64 0):=sB.cell 0
      have sc1:W.cell? ⟨w.heap.size+1,1,none⟩=some (.int .i64 0):=sB.cell 1
      refine bodyPost_ret (v:=.tuple #[.slice A3 acc.length c3,.agg #[.int .i64 0,.int .i64 0]]) (by simp [results,Try.results67,go_sem,sc0,sc1]) rfl ⟨.slice A3 acc.length c3,?_,?_,sX⟩
      · rw [HV3.out];rfl
      · rw [HV3.out];exact sL
    · have hV:=HV2.out.trans (if_neg hq)
      have HV3:=Lib.hid hV
      have hqf:qb=false:=by rw [<-HQB.out];exact beq_eq_false_iff_ne.2 hq
      subst hqf
      clear hV hq
      go_wp2_with fail
      obtain ⟨W,hW⟩:∃ z:World,z=((y2.setCell ⟨w.heap.size+1,0,none⟩ (.int .i64 9)).setCell ⟨w.heap.size+1,1,none⟩ (.int .i64 0)):=⟨_,rfl⟩
      rw [<-hW]
      have sB:Blk W (w.heap.size+1) 32 #[.int .i64 9,.int .i64 0]:=by rw [hW];exact hkf3.set2 _ _
      have sX:Below w.heap.size w W:=by rw [hW];exact below_set2 hx3' (by omega) _ _
      have HW:=Lib.hid hW
      clear hW
      have sc0:W.cell? ⟨w.heap.size+1,0,none⟩=some (.int .i64 9):=sB.cell 0
      have sc1:W.cell? ⟨w.heap.size+1,1,none⟩=some (.int .i64 0):=sB.cell 1
      refine bodyPost_ret (v:=.tuple #[.slice none 0 0,.agg #[.int .i64 9,.int .i64 0]]) (by simp [results,Try.results67,go_sem,sc0,sc1]) rfl ⟨.slice none 0 0,?_,?_,sX⟩
      · rw [HV3.out];rfl
      · rw [HV3.out];exact OwnQ.nil_ _ _ _
theorem rverify_any (w:World) (F F':Nat->Prop) (vr vs:Value) (m:Man) (hr:Bytes w F' vr m.root) (hs:RdL w F vs m.segs) :
 Calls Try.prog 67 #[.agg #[.int .i64 m.size,vr,vs]] w (RVerPost w (Shf.verC m)):=by
 by_cases hm:Shf.shape m
 · exact rverify_in w F F' vr vs m hr hs hm
 · rw [verC_out hm]
   obtain ⟨A,c,hv,_⟩:=hs.form
   subst hv
   exact rverify_out w m.size vr A _ c hm
end Go.Proofs.Ytfdibjgmbdkbcaa
