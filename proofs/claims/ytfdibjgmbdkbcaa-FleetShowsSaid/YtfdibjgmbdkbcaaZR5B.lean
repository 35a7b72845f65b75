/-
  THE WALK of yearref5.Rows. Conditions: what is read is records.
-/
import Derived.Test.YtfdibjgmbdkbcaaZBD
import Derived.Test.YtfdibjgmbdkbcaaZR5A
namespace Go.Proofs.Ytfdibjgmbdkbcaa
open Go.RowKit Go.Lib
set_option maxRecDepth 100000 in
set_option maxHeartbeats 2000000 in
theorem rrows_any (w:World) (F:Nat->Prop) (v:Value) (l:List Rec) (hl:RdL w F v l) :
 Calls Try.prog 54 #[v] w (LeavesPost w l):=by
 obtain ⟨i0,hi,hz0,hz1,hz2⟩:=info_parts info_bytes
 obtain ⟨A,c,hv,hlc,hcm⟩:=hl.form
 subst hv
 unfold maxLen at hcm
 have hx0:=(Below.refl w.heap.size w).alloc (Nat.le_refl _) (.cells #[.int .i64 0,.int .i64 0] 32)
 have hk0:Blk (w.alloc (.cells #[.int .i64 0,.int .i64 0] 32)) w.heap.size 32 #[.int .i64 0,.int .i64 0]:=heap_alloc_new w _
 by_cases hmany:8<l.length
 · have hS:Bk.wrongB l=(5,0):=by unfold Bk.wrongB;rw [if_pos hmany]
   unfold LeavesPost
   rw [hS]
   have hB:(8:Int)<(l.length:Int):=by omega
   clear hS
   go_enter Try.func54,Try.ntmps54
   go_wp2_with fail
   refine bodyPost_ret (v:=.tuple #[.slice none 0 0,.agg #[.int .i64 5,.int .i64 0]]) (by simp [results,Try.results54,go_sem]) rfl ⟨_,rfl,OwnL.nil_ _ _,?_⟩
   exact (Below.refl _ _).alloc (Nat.le_refl _) _
 · have hB:decide ((8:Int)<(l.length:Int))=false:=by simp;omega
   have hS:Hid (Bk.wrongB l=Bk.rowsF l 0):=Lib.hid (by unfold Bk.wrongB;rw [if_neg hmany])
   go_enter Try.func54,Try.ntmps54
   go_wp2_with fail
   generalize w.alloc (.cells #[.int .i64 0,.int .i64 0] 32)=w0 at *
   go_loopg [4,14] l.length (fun k v i wr=>∃ j:Nat,j+k=l.length/\i = .int .i64 (j:Int)/\Hid (Bk.rowsF (l.drop j) j=Bk.rowsF l 0)/\OwnL wr w.heap.size v (Bk.rows (l.take j))/\Blk wr w.heap.size 32 #[.int .i64 0,.int .i64 0]/\Below w.heap.size w wr)
   case atStart=>exact ⟨0,by omega,rfl,Lib.hid (by simp),OwnL.nil_ _ _,hk0,hx0⟩
   case round =>
    obtain ⟨j,hj,rfl,HP,⟨vs,hown,hin⟩,hk,hx⟩:=hrel
    have hlj:(Bk.rows (l.take j)).length=j:=by unfold Bk.rows;rw [List.length_map,List.length_take];omega
    rw [hlj] at hown
    obtain ⟨A1,c1,hv1,hac1,hcm1⟩:=hown.shape
    subst hv1
    by_cases hlt:j<l.length
    · obtain ⟨b,off,c',A2,k2,hA,_,hb,q0,q1,q2,q3,q4,hub⟩:=rec_at hl hlt
      injection hA with hA _ hA'
      subst hA hA'
      have hltB:(j:Int)<(l.length:Int):=by omega
      have p0:=(hx.cell (p:=⟨b,off+j*5,none⟩) hb).trans q0
      have p1:=(hx.cell (p:=⟨b,off+j*5+1,none⟩) hb).trans q1
      have p2:=(hx.cell (p:=⟨b,off+j*5+2,none⟩) hb).trans q2
      have p3:=(hx.cell (p:=⟨b,off+j*5+3,none⟩) hb).trans q3
      have p4:=(hx.cell (p:=⟨b,off+j*5+4,none⟩) hb).trans q4
      have hub':=hub.below hx
      have hnx:l.drop j=l[j]::l.drop (j+1):=List.drop_eq_getElem_cons hlt
      have hnt:Bk.rows (l.take (j+1))=Bk.rows (l.take j)++[Bk.rowR l[j]]:=by
       unfold Bk.rows
       rw [List.take_succ_eq_append_getElem hlt,List.map_append];rfl
      generalize l[j]=r at *
      obtain ⟨sh,fr,tt,sz,root⟩:=r
      simp only at q0 q1 q2 q3 q4 p0 p1 p2 p3 p4 hub hub'
      have HN:=Lib.hid hnx
      have HT:=Lib.hid hnt
      have HL:=Lib.hid hlj
      clear hnx hnt hlj q0 q1 q2 q3 q4
      have hxA:=hx.alloc hx.size (.cells #[.int .i64 sh,.int .i64 fr,.int .i64 tt,.int .i64 sz,.slice A2 root.length k2] 61)
      have hkA:=hk.alloc (.cells #[.int .i64 sh,.int .i64 fr,.int .i64 tt,.int .i64 sz,.slice A2 root.length k2] 61)
      have hownA:=hown.alloc (.cells #[.int .i64 sh,.int .i64 fr,.int .i64 tt,.int .i64 sz,.slice A2 root.length k2] 61)
      have hinA:∀ (i:Nat) (b:Bs),(Bk.rows (l.take j))[i]? = some b->∃ u:Value,vs[i]? = some u/\OwnB (wr.alloc (.cells #[.int .i64 sh,.int .i64 fr,.int .i64 tt,.int .i64 sz,.slice A2 root.length k2] 61)) w.heap.size u b:=fun i b hb=>by
       obtain ⟨u,hu,ho⟩:=hin i b hb
       exact ⟨u,hu,Own.alloc ho _⟩
      have hubA:=hub'.alloc (.cells #[.int .i64 sh,.int .i64 fr,.int .i64 tt,.int .i64 sz,.slice A2 root.length k2] 61)
      have hgA:Blk (wr.alloc (.cells #[.int .i64 sh,.int .i64 fr,.int .i64 tt,.int .i64 sz,.slice A2 root.length k2] 61)) wr.heap.size 61 #[.int .i64 sh,.int .i64 fr,.int .i64 tt,.int .i64 sz,.slice A2 root.length k2]:=heap_alloc_new wr _
      have hgl:wr.heap.size<(wr.alloc (.cells #[.int .i64 sh,.int .i64 fr,.int .i64 tt,.int .i64 sz,.slice A2 root.length k2] 61)).heap.size:=by simp
      by_cases hw:Bk.wrongR ⟨sh,fr,tt,sz,root⟩=0
      · have HF:Hid (Bk.rowsF (l.drop (j+1)) (j+1)=Bk.rowsF l 0):=Lib.hid (by rw [<-HP.out,HN.out,Bk.rowsF,if_neg (by rw [hw];simp)])
        have hl40:=Bk.length_rowR hw
        go_wp2_with fail
        generalize wr.alloc (.cells #[.int .i64 sh,.int .i64 fr,.int .i64 tt,.int .i64 sz,.slice A2 root.length k2] 61)=w2 at *
        generalize wr.heap.size=gr at *
        refine (rwrongR_any w2 sh fr tt sz A2 k2 root).mono ?_
        rintro e w2b ⟨rfl,hxb⟩
        rw [hw]
        have hgb:=hgA.below hxb hgl
        have r0:w2b.cell? ⟨gr,0,none⟩=some (.int .i64 sh):=hgb.cell 0
        have r1:w2b.cell? ⟨gr,1,none⟩=some (.int .i64 fr):=hgb.cell 1
        have r2:w2b.cell? ⟨gr,2,none⟩=some (.int .i64 tt):=hgb.cell 2
        have r3:w2b.cell? ⟨gr,3,none⟩=some (.int .i64 sz):=hgb.cell 3
        have r4:w2b.cell? ⟨gr,4,none⟩=some (.slice A2 root.length k2):=hgb.cell 4
        have HWW:=Lib.hid hw
        clear hw
        go_wp2_with fail
        have hw:=HWW.out
        refine (rrow_any w2b _ sh fr tt sz A2 k2 root (SlAt.below hubA hxb) hw).mono ?_
        rintro e w3 ⟨v3,rfl,hown3',hx3'⟩
        have hx3:=hxb.trans (hx3'.mono hxb.size)
        have hown3:=Own.mono hown3' hxb.size
        clear r0 r1 r2 r3 r4 hown3' hx3' hgb hgA hgl
        generalize Bk.rowR ⟨sh,fr,tt,sz,root⟩=row at *
        obtain ⟨A3,c3,hv3,_,_⟩:=Own.shape hown3
        subst hv3
        have hx4:=hxA.trans (hx3.mono hxA.size)
        have hk4:=hkA.below hx3 hkA.lt
        have hown4:=hownA.below hx3
        have hownB:=hown4.alloc (.cells #[.slice A3 row.length c3] 22)
        have hkB:=hk4.alloc (.cells #[.slice A3 row.length c3] 22)
        have hxB:=hx4.alloc hx4.size (.cells #[.slice A3 row.length c3] 22)
        have hsrc:=SlAt.new w3 22 [.slice A3 row.length c3] 1 rfl (by decide)
        have hvo:OwnB (w3.alloc (.cells #[.slice A3 row.length c3] 22)) w.heap.size (.slice A3 row.length c3) row:=(Own.mono hown3 hxA.size).alloc _
        have hin4:∀ (i:Nat) (b:Bs),(Bk.rows (l.take j))[i]? = some b->∃ u:Value,vs[i]? = some u/\OwnB (w3.alloc (.cells #[.slice A3 row.length c3] 22)) w.heap.size u b:=fun i b hb=>by
         obtain ⟨u,hu,ho⟩:=hinA i b hb
         exact ⟨u,hu,Own.alloc (Own.below ho hx3) _⟩
        have HW:=Lib.hid hw
        have H40:=Lib.hid hl40
        clear hw hl40 p0 p1 p2 p3 p4 hin hinA
        go_wp2_with (at_builtin
                     refine wpList_append_Own _ rfl (.tmp 26) (.tmp 29) 40 rfl w.heap.size 22 i0 _ 1 24 Try.underlying40 hi hz0 hz1 hz2 rfl (by omega) _ _ _ rfl hownB _ _ _ _ rfl hsrc (by simp [Value.oneCell']) (by simp only [maxLen];omega) (by omega) (by simp;have:=hx4.size;omega) ?_
                     intro v2 w5 hown5 hgr5 hat5
                     have hx5:Below w.heap.size w w5:=hxB.grown hgr5 hxB.size (fun k hk=>(hownB.lt k hk).1)
                     have hk5:Blk w5 w.heap.size 32 #[.int .i64 0,.int .i64 0]:=hkB.keep (hgr5.block _ hkB.lt (fun e=>Own.ne_blk hownB hkB (by decide) e.symm))
                     have hL:=OwnL.snoc hin4 (by rw [hown.1,HL.out];omega) hvo (by rw [HL.out];exact hownB) hgr5 (by rw [HL.out];exact hown5))
        go_roundg (gk-1)
        case measure=>omega
        case rel=>exact ⟨j+1,by omega,by go_num,HF,by rw [HT.out];exact hL,hk5,hx5⟩
      · have HF:Hid (Bk.wrongB l=(Bk.wrongR ⟨sh,fr,tt,sz,root⟩,j)):=Lib.hid (by rw [hS.out,<-HP.out,HN.out,Bk.rowsF,if_pos hw])
        obtain ⟨x,HX⟩:∃ x,Hid (x=Bk.wrongR ⟨sh,fr,tt,sz,root⟩):=⟨_,Lib.hid rfl⟩
        have hB:=rwrongR_any (wr.alloc (.cells #[.int .i64 sh,.int .i64 fr,.int .i64 tt,.int .i64 sz,.slice A2 root.length k2] 61)) sh fr tt sz A2 k2 root
        rw [<-HX.out] at hB hw HF
        have hb:((x:Int) != 0)=true:=by rw [bne_iff_ne];omega
        have hx1:¬ x=0:=hw
        have HX1:=Lib.hid hx1
        clear hw hx1
        go_wp2_with fail
        generalize wr.alloc (.cells #[.int .i64 sh,.int .i64 fr,.int .i64 tt,.int .i64 sz,.slice A2 root.length k2] 61)=w2 at *
        refine hB.mono ?_
        rintro e w4 ⟨rfl,hx3⟩
        have hx4:=hxA.trans (hx3.mono hxA.size)
        have hk4:=hkA.below hx3 hkA.lt
        have e0:w4.cell? ⟨w.heap.size,0,none⟩=some (.int .i64 0):=hk4.cell 0
        have e1:w4.cell? ⟨w.heap.size,1,none⟩=some (.int .i64 0):=hk4.cell 1
        have f0:=hk4.frozen 0
        have f1:=hk4.frozen 1
        go_wp2_with fail
        obtain ⟨W,hW⟩:∃ z:World,z=((w4.setCell ⟨w.heap.size,0,none⟩ (.int .i64 (x:Int))).setCell ⟨w.heap.size,1,none⟩ (.int .i64 (j:Int))):=⟨_,rfl⟩
        rw [<-hW]
        have sB:Blk W w.heap.size 32 #[.int .i64 (x:Int),.int .i64 (j:Int)]:=by rw [hW];exact ((hk4.set_ 0 (.int .i64 (x:Int))).set_ 1 (.int .i64 (j:Int)))
        have sX:Below w.heap.size w W:=by rw [hW];exact ((hx4.setCell (p:=⟨w.heap.size,0,none⟩) (Nat.le_refl _) (.int .i64 (x:Int))).setCell (p:=⟨w.heap.size,1,none⟩) (Nat.le_refl _) (.int .i64 (j:Int)))
        have HW:=Lib.hid hW
        clear hW
        have sc0:W.cell? ⟨w.heap.size,0,none⟩=some (.int .i64 (x:Int)):=sB.cell 0
        have sc1:W.cell? ⟨w.heap.size,1,none⟩=some (.int .i64 (j:Int)):=sB.cell 1
        refine bodyPost_ret (v:=.tuple #[.slice none 0 0,.agg #[.int .i64 (x:Int),.int .i64 (j:Int)]]) (by simp [results,Try.results54,go_sem,sc0,sc1]) rfl ⟨.slice none 0 0,?_,?_,sX⟩
        · rw [HF.out];rfl
        · rw [HF.out,if_neg HX1.out];exact OwnL.nil_ _ _
    · have hltB:decide ((j:Int)<(l.length:Int))=false:=by simp;omega
      have hjl:l.take j=l:=List.take_of_length_le (by omega)
      have HF:Hid (Bk.wrongB l=(0,0)):=Lib.hid (by rw [hS.out,<-HP.out,List.drop_of_length_le (by omega)];rfl)
      rw [hjl] at hin hlj
      have HL:=Lib.hid hlj
      have e0:wr.cell? ⟨w.heap.size,0,none⟩=some (.int .i64 0):=hk.cell 0
      have e1:wr.cell? ⟨w.heap.size,1,none⟩=some (.int .i64 0):=hk.cell 1
      have f0:=hk.frozen 0
      have f1:=hk.frozen 1
      have hnb:=Own.ne_blk hown hk (by decide)
      clear hjl hlj
      go_wp2_with fail
      obtain ⟨W,hW⟩:∃ z:World,z=((wr.setCell ⟨w.heap.size,0,none⟩ (.int .i64 0)).setCell ⟨w.heap.size,1,none⟩ (.int .i64 0)):=⟨_,rfl⟩
      rw [<-hW]
      have sB:Blk W w.heap.size 32 #[.int .i64 0,.int .i64 0]:=by rw [hW];exact ((hk.set_ 0 (.int .i64 0)).set_ 1 (.int .i64 0))
      have sX:Below w.heap.size w W:=by rw [hW];exact ((hx.setCell (p:=⟨w.heap.size,0,none⟩) (Nat.le_refl _) (.int .i64 0)).setCell (p:=⟨w.heap.size,1,none⟩) (Nat.le_refl _) (.int .i64 0))
      have HW:=Lib.hid hW
      clear hW
      have sc0:W.cell? ⟨w.heap.size,0,none⟩=some (.int .i64 0):=sB.cell 0
      have sc1:W.cell? ⟨w.heap.size,1,none⟩=some (.int .i64 0):=sB.cell 1
      have hoL:OwnL W w.heap.size (.slice A1 j c1) (Bk.rows l):=by
       refine ⟨vs,by rw [HL.out,HW.out];exact (Own.setCell (p:=⟨w.heap.size,1,none⟩) (Own.setCell (p:=⟨w.heap.size,0,none⟩) hown hnb _) hnb _),fun i b hb=>?_⟩
       obtain ⟨u,hu,ho⟩:=hin i b hb
       have hnu:=Own.ne_blk ho hk (by decide)
       exact ⟨u,hu,by rw [HW.out];exact (Own.setCell (p:=⟨w.heap.size,1,none⟩) (Own.setCell (p:=⟨w.heap.size,0,none⟩) ho hnu _) hnu _)⟩
      refine bodyPost_ret (v:=.tuple #[.slice A1 j c1,.agg #[.int .i64 0,.int .i64 0]]) (by simp [results,Try.results54,go_sem,sc0,sc1]) rfl ⟨.slice A1 j c1,?_,?_,sX⟩
      · rw [HF.out];rfl
      · rw [HF.out,if_pos rfl];exact hoL
end Go.Proofs.Ytfdibjgmbdkbcaa
