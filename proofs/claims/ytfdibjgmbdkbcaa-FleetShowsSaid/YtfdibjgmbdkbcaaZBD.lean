/-
  THE WALK of book.leaves. Conditions: what is read is records. THE WALKS of book.Head, Path, Grows. Conditions: what is read is records.
-/
import Derived.Deep.Cut
import Derived.Test.YtfdibjgmbdkbcaaZGc
import Derived.Test.YtfdibjgmbdkbcaaZRepr
import Derived.Test.YtfdibjgmbdkbcaaZBk
import Derived.Test.YtfdibjgmbdkbcaaZGf
namespace Go.Proofs.Ytfdibjgmbdkbcaa
open Go.RowKit Go.Lib
theorem rd_rec {w:World} {F:Nat->Prop} {cs:List Value} {r:Rec} (h:Rp.rd w F cs r):∃ A c,cs=[.int .i64 r.sh,.int .i64 r.fr,.int .i64 r.to,.int .i64 r.sz,.slice A r.root.length c]/\Bytes w F (.slice A r.root.length c) r.root:=by
 obtain ⟨c1,c1',rfl,h1,c2,c2',rfl,h2,c3,c3',rfl,h3,c4,c4',rfl,h4,u,rfl,h5⟩:=h
 have e1:c1=[.int .i64 r.sh]:=h1
 have e2:c2=[.int .i64 r.fr]:=h2
 have e3:c3=[.int .i64 r.to]:=h3
 have e4:c4=[.int .i64 r.sz]:=h4
 have hb:Bytes w F u r.root:=rdL_bytes.1 h5
 obtain ⟨A,c,hu⟩:=hb.form
 subst e1 e2 e3 e4 hu
 exact ⟨A,c,rfl,hb⟩
theorem rec_at {w:World} {F:Nat->Prop} {v:Value} {l:List Rec} (h:RdL w F v l) {j:Nat} (hj:j<l.length):∃ b off c A k,v = .slice (some ⟨b,off,none⟩) l.length c/\F b/\b<w.heap.size ∧
 w.cell? ⟨b,off+j*5,none⟩=some (.int .i64 l[j].sh)/\w.cell? ⟨b,off+j*5+1,none⟩=some (.int .i64 l[j].fr)/\w.cell? ⟨b,off+j*5+2,none⟩=some (.int .i64 l[j].to)/\w.cell? ⟨b,off+j*5+3,none⟩=some (.int .i64 l[j].sz) ∧
 w.cell? ⟨b,off+j*5+4,none⟩=some (.slice A l[j].root.length k)/\Bytes w F (.slice A l[j].root.length k) l[j].root:=by
 obtain ⟨b,off,c,hv,hF,hb,ecs,hr,hc⟩:=h.at_ hj
 obtain ⟨A,k,he,hbt⟩:=rd_rec hr
 subst he
 exact ⟨b,off,c,A,k,hv,hF,hb,hc 0 _ rfl,hc 1 _ rfl,hc 2 _ rfl,hc 3 _ rfl,hc 4 _ rfl,hbt⟩
def LeavesPost (w:World) (l:List Rec) (e:Ending) (w':World):Prop :=
 ∃ v,e = .returned (.tuple #[v,fv (Bk.wrongB l)])/\OwnL w' w.heap.size v (if (Bk.wrongB l).1=0 then Bk.rows l else [])/\Below w.heap.size w w'
set_option maxRecDepth 100000 in
set_option maxHeartbeats 2000000 in
theorem leavesB_any (w:World) (F:Nat->Prop) (v:Value) (l:List Rec) (hl:RdL w F v l) :
 Calls Try.prog 107 #[v] w (LeavesPost w l):=by
 obtain ⟨i0,hi,hz0,hz1,hz2⟩:=info_parts info_bytes
 obtain ⟨A,c,hv,hlc,hcm⟩:=hl.form
 subst hv
 unfold maxLen at hcm
 have hx0:=(Below.refl w.heap.size w).alloc (Nat.le_refl _) (.cells #[.int .i64 0,.int .i64 0] 32)
 have hk0:Blk (w.alloc (.cells #[.int .i64 0,.int .i64 0] 32)) w.heap.size 32 #[.int .i64 0,.int .i64 0]:=heap_alloc_new w _
 by_cases hmany:8<l.length
 · have hS:Bk.wrongB l=(5,0):=by unfold Bk.wrongB;rw [if_pos hmany]
   unfold LeavesPost
   rw [hS]
   have hB:(8:Int)<(l.length:Int):=by omega
   clear hS
   go_enter Try.func107,Try.ntmps107
   go_wp2_with fail
   refine bodyPost_ret (v:=.tuple #[.slice none 0 0,.agg #[.int .i64 5,.int .i64 0]]) (by simp [results,Try.results107,go_sem]) rfl ⟨_,rfl,OwnL.nil_ _ _,?_⟩
   exact (Below.refl _ _).alloc (Nat.le_refl _) _
 · have hB:decide ((8:Int)<(l.length:Int))=false:=by simp;omega
   have hS:Hid (Bk.wrongB l=Bk.rowsF l 0):=Lib.hid (by unfold Bk.wrongB;rw [if_neg hmany])
   go_enter Try.func107,Try.ntmps107
   go_wp2_with fail
   generalize w.alloc (.cells #[.int .i64 0,.int .i64 0] 32)=w0 at *
   go_loopg [4,15] l.length (fun k v i wr=>∃ j:Nat,j+k=l.length/\i = .int .i64 (j:Int)/\Hid (Bk.rowsF (l.drop j) j=Bk.rowsF l 0)/\OwnL wr w.heap.size v (Bk.rows (l.take j))/\Blk wr w.heap.size 32 #[.int .i64 0,.int .i64 0]/\Below w.heap.size w wr)
   case atStart=>exact ⟨0,by omega,rfl,Lib.hid (by simp),OwnL.nil_ _ _,hk0,hx0⟩
   case round =>
    obtain ⟨j,hj,rfl,HP,⟨vs,hown,hin⟩,hk,hx⟩:=hrel
    have hlj:(Bk.rows (l.take j)).length=j:=by unfold Bk.rows;rw [List.length_map,List.length_take];omega
    rw [hlj] at hown
    obtain ⟨A1,c1,hv1,hac1,hcm1⟩:=hown.shape
    subst hv1
    by_cases hlt:j<l.length
    · obtain ⟨b,off,c',A2,k2,hA,_,hb,q0,q1,q2,q3,q4,hub⟩:=rec_at hl hlt
      injection hA with hA _ hA'
      subst hA hA'
      have hltB:(j:Int)<(l.length:Int):=by omega
      have p0:=(hx.cell (p:=⟨b,off+j*5,none⟩) hb).trans q0
      have p1:=(hx.cell (p:=⟨b,off+j*5+1,none⟩) hb).trans q1
      have p2:=(hx.cell (p:=⟨b,off+j*5+2,none⟩) hb).trans q2
      have p3:=(hx.cell (p:=⟨b,off+j*5+3,none⟩) hb).trans q3
      have p4:=(hx.cell (p:=⟨b,off+j*5+4,none⟩) hb).trans q4
      have hub':=hub.below hx
      have hnx:l.drop j=l[j]::l.drop (j+1):=List.drop_eq_getElem_cons hlt
      have hnt:Bk.rows (l.take (j+1))=Bk.rows (l.take j)++[Bk.rowR l[j]]:=by
       unfold Bk.rows
       rw [List.take_succ_eq_append_getElem hlt,List.map_append];rfl
      generalize l[j]=r at *
      obtain ⟨sh,fr,tt,sz,root⟩:=r
      simp only at q0 q1 q2 q3 q4 p0 p1 p2 p3 p4 hub hub'
      have HN:=Lib.hid hnx
      have HT:=Lib.hid hnt
      have HL:=Lib.hid hlj
      clear hnx hnt hlj q0 q1 q2 q3 q4
      have hxA:=hx.alloc hx.size (.cells #[.int .i64 sh,.int .i64 fr,.int .i64 tt,.int .i64 sz,.slice A2 root.length k2] 61)
      have hkA:=hk.alloc (.cells #[.int .i64 sh,.int .i64 fr,.int .i64 tt,.int .i64 sz,.slice A2 root.length k2] 61)
      have hownA:=hown.alloc (.cells #[.int .i64 sh,.int .i64 fr,.int .i64 tt,.int .i64 sz,.slice A2 root.length k2] 61)
      have hinA:∀ (i:Nat) (b:Bs),(Bk.rows (l.take j))[i]? = some b->∃ u:Value,vs[i]? = some u/\OwnB (wr.alloc (.cells #[.int .i64 sh,.int .i64 fr,.int .i64 tt,.int .i64 sz,.slice A2 root.length k2] 61)) w.heap.size u b:=fun i b hb=>by
       obtain ⟨u,hu,ho⟩:=hin i b hb
       exact ⟨u,hu,Own.alloc ho _⟩
      have hubA:=hub'.alloc (.cells #[.int .i64 sh,.int .i64 fr,.int .i64 tt,.int .i64 sz,.slice A2 root.length k2] 61)
      by_cases hw:Bk.wrongR ⟨sh,fr,tt,sz,root⟩=0
      · have HF:Hid (Bk.rowsF (l.drop (j+1)) (j+1)=Bk.rowsF l 0):=Lib.hid (by rw [<-HP.out,HN.out,Bk.rowsF,if_neg (by rw [hw];simp)])
        have hl40:=Bk.length_rowR hw
        go_wp2_with fail
        generalize wr.alloc (.cells #[.int .i64 sh,.int .i64 fr,.int .i64 tt,.int .i64 sz,.slice A2 root.length k2] 61)=w2 at *
        refine (bytesR_ok w2 _ sh fr tt sz A2 k2 root hubA hw).mono ?_
        rintro e w3 ⟨v3,rfl,hown3,hx3⟩
        generalize Bk.rowR ⟨sh,fr,tt,sz,root⟩=row at *
        obtain ⟨A3,c3,hv3,_,_⟩:=Own.shape hown3
        subst hv3
        have hx4:=hxA.trans (hx3.mono hxA.size)
        have hk4:=hkA.below hx3 hkA.lt
        have hown4:=hownA.below hx3
        have hownB:=hown4.alloc (.cells #[.slice A3 row.length c3] 22)
        have hkB:=hk4.alloc (.cells #[.slice A3 row.length c3] 22)
        have hxB:=hx4.alloc hx4.size (.cells #[.slice A3 row.length c3] 22)
        have hsrc:=SlAt.new w3 22 [.slice A3 row.length c3] 1 rfl (by decide)
        have hvo:OwnB (w3.alloc (.cells #[.slice A3 row.length c3] 22)) w.heap.size (.slice A3 row.length c3) row:=(Own.mono hown3 hxA.size).alloc _
        have hin4:∀ (i:Nat) (b:Bs),(Bk.rows (l.take j))[i]? = some b->∃ u:Value,vs[i]? = some u/\OwnB (w3.alloc (.cells #[.slice A3 row.length c3] 22)) w.heap.size u b:=fun i b hb=>by
         obtain ⟨u,hu,ho⟩:=hinA i b hb
         exact ⟨u,hu,Own.alloc (Own.below ho hx3) _⟩
        have HW:=Lib.hid hw
        have H40:=Lib.hid hl40
        clear hw hl40 p0 p1 p2 p3 p4 hin hinA
        go_wp2_with (at_builtin
                     refine wpList_append_Own _ rfl (.tmp 30) (.tmp 32) 40 rfl w.heap.size 22 i0 _ 1 24 Try.underlying40 hi hz0 hz1 hz2 rfl (by omega) _ _ _ rfl hownB _ _ _ _ rfl hsrc (by simp [Value.oneCell']) (by simp only [maxLen];omega) (by omega) (by simp;have:=hx4.size;omega) ?_
                     intro v2 w5 hown5 hgr5 hat5
                     have hx5:Below w.heap.size w w5:=hxB.grown hgr5 hxB.size (fun k hk=>(hownB.lt k hk).1)
                     have hk5:Blk w5 w.heap.size 32 #[.int .i64 0,.int .i64 0]:=hkB.keep (hgr5.block _ hkB.lt (fun e=>Own.ne_blk hownB hkB (by decide) e.symm))
                     have hL:=OwnL.snoc hin4 (by rw [hown.1,HL.out];omega) hvo (by rw [HL.out];exact hownB) hgr5 (by rw [HL.out];exact hown5))
        go_roundg (gk-1)
        case measure=>omega
        case rel=>exact ⟨j+1,by omega,by go_num,HF,by rw [HT.out];exact hL,hk5,hx5⟩
      · have HF:Hid (Bk.wrongB l=(Bk.wrongR ⟨sh,fr,tt,sz,root⟩,j)):=Lib.hid (by rw [hS.out,<-HP.out,HN.out,Bk.rowsF,if_pos hw])
        obtain ⟨x,HX⟩:∃ x,Hid (x=Bk.wrongR ⟨sh,fr,tt,sz,root⟩):=⟨_,Lib.hid rfl⟩
        have hB:=bytesR_bad (wr.alloc (.cells #[.int .i64 sh,.int .i64 fr,.int .i64 tt,.int .i64 sz,.slice A2 root.length k2] 61)) sh fr tt sz A2 k2 root hw
        rw [<-HX.out] at hB hw HF
        have hb:((x:Int) != 0)=true:=by rw [bne_iff_ne];omega
        have hx1:¬ x=0:=hw
        have HX1:=Lib.hid hx1
        clear hw hx1
        go_wp2_with fail
        generalize wr.alloc (.cells #[.int .i64 sh,.int .i64 fr,.int .i64 tt,.int .i64 sz,.slice A2 root.length k2] 61)=w2 at *
        refine hB.mono ?_
        rintro e w4 ⟨rfl,hx3⟩
        have hx4:=hxA.trans (hx3.mono hxA.size)
        have hk4:=hkA.below hx3 hkA.lt
        have e0:w4.cell? ⟨w.heap.size,0,none⟩=some (.int .i64 0):=hk4.cell 0
        have e1:w4.cell? ⟨w.heap.size,1,none⟩=some (.int .i64 0):=hk4.cell 1
        have f0:=hk4.frozen 0
        have f1:=hk4.frozen 1
        go_wp2_with fail
        obtain ⟨W,hW⟩:∃ z:World,z=((w4.setCell ⟨w.heap.size,0,none⟩ (.int .i64 (x:Int))).setCell ⟨w.heap.size,1,none⟩ (.int .i64 (j:Int))):=⟨_,rfl⟩
        rw [<-hW]
        have sB:Blk W w.heap.size 32 #[.int .i64 (x:Int),.int .i64 (j:Int)]:=by rw [hW];exact ((hk4.set_ 0 (.int .i64 (x:Int))).set_ 1 (.int .i64 (j:Int)))
        have sX:Below w.heap.size w W:=by rw [hW];exact ((hx4.setCell (p:=⟨w.heap.size,0,none⟩) (Nat.le_refl _) (.int .i64 (x:Int))).setCell (p:=⟨w.heap.size,1,none⟩) (Nat.le_refl _) (.int .i64 (j:Int)))
        have HW:=Lib.hid hW
        clear hW
        have sc0:W.cell? ⟨w.heap.size,0,none⟩=some (.int .i64 (x:Int)):=sB.cell 0
        have sc1:W.cell? ⟨w.heap.size,1,none⟩=some (.int .i64 (j:Int)):=sB.cell 1
        refine bodyPost_ret (v:=.tuple #[.slice none 0 0,.agg #[.int .i64 (x:Int),.int .i64 (j:Int)]]) (by simp [results,Try.results107,go_sem,sc0,sc1]) rfl ⟨.slice none 0 0,?_,?_,sX⟩
        · rw [HF.out];rfl
        · rw [HF.out,if_neg HX1.out];exact OwnL.nil_ _ _
    · have hltB:decide ((j:Int)<(l.length:Int))=false:=by simp;omega
      have hjl:l.take j=l:=List.take_of_length_le (by omega)
      have HF:Hid (Bk.wrongB l=(0,0)):=Lib.hid (by rw [hS.out,<-HP.out,List.drop_of_length_le (by omega)];rfl)
      rw [hjl] at hin hlj
      have HL:=Lib.hid hlj
      have e0:wr.cell? ⟨w.heap.size,0,none⟩=some (.int .i64 0):=hk.cell 0
      have e1:wr.cell? ⟨w.heap.size,1,none⟩=some (.int .i64 0):=hk.cell 1
      have f0:=hk.frozen 0
      have f1:=hk.frozen 1
      have hnb:=Own.ne_blk hown hk (by decide)
      clear hjl hlj
      go_wp2_with fail
      obtain ⟨W,hW⟩:∃ z:World,z=((wr.setCell ⟨w.heap.size,0,none⟩ (.int .i64 0)).setCell ⟨w.heap.size,1,none⟩ (.int .i64 0)):=⟨_,rfl⟩
      rw [<-hW]
      have sB:Blk W w.heap.size 32 #[.int .i64 0,.int .i64 0]:=by rw [hW];exact ((hk.set_ 0 (.int .i64 0)).set_ 1 (.int .i64 0))
      have sX:Below w.heap.size w W:=by rw [hW];exact ((hx.setCell (p:=⟨w.heap.size,0,none⟩) (Nat.le_refl _) (.int .i64 0)).setCell (p:=⟨w.heap.size,1,none⟩) (Nat.le_refl _) (.int .i64 0))
      have HW:=Lib.hid hW
      clear hW
      have sc0:W.cell? ⟨w.heap.size,0,none⟩=some (.int .i64 0):=sB.cell 0
      have sc1:W.cell? ⟨w.heap.size,1,none⟩=some (.int .i64 0):=sB.cell 1
      have hoL:OwnL W w.heap.size (.slice A1 j c1) (Bk.rows l):=by
       refine ⟨vs,by rw [HL.out,HW.out];exact (Own.setCell (p:=⟨w.heap.size,1,none⟩) (Own.setCell (p:=⟨w.heap.size,0,none⟩) hown hnb _) hnb _),fun i b hb=>?_⟩
       obtain ⟨u,hu,ho⟩:=hin i b hb
       have hnu:=Own.ne_blk ho hk (by decide)
       exact ⟨u,hu,by rw [HW.out];exact (Own.setCell (p:=⟨w.heap.size,1,none⟩) (Own.setCell (p:=⟨w.heap.size,0,none⟩) ho hnu _) hnu _)⟩
      refine bodyPost_ret (v:=.tuple #[.slice A1 j c1,.agg #[.int .i64 0,.int .i64 0]]) (by simp [results,Try.results107,go_sem,sc0,sc1]) rfl ⟨.slice A1 j c1,?_,?_,sX⟩
      · rw [HF.out];rfl
      · rw [HF.out,if_pos rfl];exact hoL
end Go.Proofs.Ytfdibjgmbdkbcaa
namespace Go.Proofs.Ytfdibjgmbdkbcaa
open Go.RowKit Go.Lib
attribute [local go_sem ↓] Go.wp_at_zero Go.wp_at_succ
theorem leavesB_fine (w:World) (F:Nat->Prop) (v:Value) (l:List Rec) (hl:RdL w F v l) (hf:Bk.FineB l) :
 Calls Try.prog 107 #[v] w fun e w'=>∃ v,e = .returned (.tuple #[v,.agg #[.int .i64 0,.int .i64 0]])/\OwnL w' w.heap.size v (Bk.rows l)/\Below w.heap.size w w':=by
 have h0:=Bk.wrongB_zero l ((Bk.wrongB_ok l).2 hf)
 refine (leavesB_any w F v l hl).mono ?_
 rintro e w' ⟨rv,rfl,h1,hx⟩
 rw [h0,if_pos rfl] at h1
 exact ⟨rv,by rw [h0];rfl,h1,hx⟩
theorem fine_rows {l:List Rec} (h:Bk.FineB l):Fine (Bk.rows l):=Bk.rows_short h
set_option maxRecDepth 100000 in
set_option maxHeartbeats 2000000 in
theorem Head_fine (w:World) (F:Nat->Prop) (v:Value) (l:List Rec) (hl:RdL w F v l) (hf:Bk.FineB l) :
 Calls Try.prog 55 #[v] w fun e w'=>∃ v,e = .returned (.tuple #[.agg #[.int .i64 (l.length:Int),v],.agg #[.int .i64 0,.int .i64 0]])/\OwnB w' w.heap.size v (Tr.root ((Bk.rows l).map Tr.leafH))/\Below w.heap.size w w':=by
 obtain ⟨A,c,hv,hlc,hcm⟩:=hl.form
 subst hv
 unfold maxLen at hcm
 obtain ⟨R,HR⟩:∃ R,Hid (R=Tr.root ((Bk.rows l).map Tr.leafH)):=⟨_,Lib.hid rfl⟩
 rw [<-HR.out]
 have hx0:=((Below.refl w.heap.size w).alloc (Nat.le_refl _) (.cells #[.int .i64 0,.slice none 0 0] 39)).alloc (by simp) (.cells #[.int .i64 0,.int .i64 0] 32)
 have hh0:Blk ((w.alloc (.cells #[.int .i64 0,.slice none 0 0] 39)).alloc (.cells #[.int .i64 0,.int .i64 0] 32)) w.heap.size 39 #[.int .i64 0,.slice none 0 0]:=Blk.alloc (heap_alloc_new w _) _
 have hf0:Blk ((w.alloc (.cells #[.int .i64 0,.slice none 0 0] 39)).alloc (.cells #[.int .i64 0,.int .i64 0] 32)) (w.heap.size+1) 32 #[.int .i64 0,.int .i64 0]:=by
  have h:=heap_alloc_new (w.alloc (.cells #[.int .i64 0,.slice none 0 0] 39)) (.cells #[.int .i64 0,.int .i64 0] 32)
  rw [World.size_alloc] at h
  exact h
 go_enter Try.func55,Try.ntmps55
 go_wp2_with fail
 generalize (w.alloc (.cells #[.int .i64 0,.slice none 0 0] 39)).alloc (.cells #[.int .i64 0,.int .i64 0] 32)=w0 at *
 refine (leavesB_fine w0 F _ l (hl.below hx0) hf).mono ?_
 rintro e w1 ⟨v1,rfl,hown1,hx1⟩
 have hx2:=hx0.trans (hx1.mono hx0.size)
 have hx3:=hx2.alloc hx2.size (.cells #[.int .i64 0,.int .i64 0] 32)
 have hh3:=(hh0.below hx1 hh0.lt).alloc (.cells #[.int .i64 0,.int .i64 0] 32)
 have hf3:=(hf0.below hx1 hf0.lt).alloc (.cells #[.int .i64 0,.int .i64 0] 32)
 have hb3:=hown1.blist.alloc (.cells #[.int .i64 0,.int .i64 0] 32)
 obtain ⟨A1,c1,hv1,_⟩:=hb3.shape
 subst hv1
 have HF:=Lib.hid (fine_rows hf)
 clear hf hown1
 go_wp2_with fail
 generalize w1.alloc (.cells #[.int .i64 0,.int .i64 0] 32)=w3 at *
 refine (Root_fine w3 _ _ _ hb3 HF.out).mono ?_
 rw [<-HR.out]
 rintro e w4 ⟨v4,rfl,hown4,hx4⟩
 obtain ⟨A3,c3,hv4,_,_⟩:=Own.shape hown4
 subst hv4
 have hx5':=hx3.trans (hx4.mono hx3.size)
 have hx5:=hx5'.alloc hx5'.size (.cells #[.int .i64 0,.int .i64 0] 32)
 have hh5:=(hh3.below hx4 hh3.lt).alloc (.cells #[.int .i64 0,.int .i64 0] 32)
 have hf5:=(hf3.below hx4 hf3.lt).alloc (.cells #[.int .i64 0,.int .i64 0] 32)
 have ho5:=(OwnB.mono hown4 hx3.size).alloc (.cells #[.int .i64 0,.int .i64 0] 32)
 go_upto_region 5 with (fail)
 generalize w4.alloc (.cells #[.int .i64 0,.int .i64 0] 32)=w5 at *
 have a0:w5.cell? ⟨w.heap.size,0,none⟩=some (.int .i64 0):=hh5.cell 0
 have a1:w5.cell? ⟨w.heap.size,1,none⟩=some (.slice none 0 0):=hh5.cell 1
 have b0:w5.cell? ⟨w.heap.size+1,0,none⟩=some (.int .i64 0):=hf5.cell 0
 have b1:w5.cell? ⟨w.heap.size+1,1,none⟩=some (.int .i64 0):=hf5.cell 1
 have f0:=hh5.frozen 0
 have f1:=hh5.frozen 1
 have f2:=hf5.frozen 0
 have f3:=hf5.frozen 1
 have hnb:=Own.ne_blk ho5 hh5 (by decide)
 go_wp2_with fail
 have hh6:=hh5.set2 (.int .i64 (l.length:Int)) (.slice A3 R.length c3)
 have hf6:=hf5.far2 (g:=w.heap.size) (by omega) (.int .i64 (l.length:Int)) (.slice A3 R.length c3)
 have hx6:=below_set2 (g:=w.heap.size) hx5 (Nat.le_refl _) (.int .i64 (l.length:Int)) (.slice A3 R.length c3)
 have ho6:OwnB _ _ (.slice A3 R.length c3) R:=Own.set2 ho5 hnb (.int .i64 (l.length:Int)) (.slice A3 R.length c3)
 generalize ((w5.setCell ⟨w.heap.size,0,none⟩ (.int .i64 (l.length:Int))).setCell ⟨w.heap.size,1,none⟩ (.slice A3 R.length c3))=w6 at *
 have hn2:=Own.ne_blk ho6 hf6 (by decide)
 have hh7:=hh6.far2 (g:=w.heap.size+1) (by omega) (.int .i64 0) (.int .i64 0)
 have hf7:=hf6.set2 (.int .i64 0) (.int .i64 0)
 have hx7:=below_set2 (g:=w.heap.size+1) hx6 (by omega) (.int .i64 0) (.int .i64 0)
 have ho7:OwnB _ _ (.slice A3 R.length c3) R:=Own.set2 ho6 hn2 (.int .i64 0) (.int .i64 0)
 generalize ((w6.setCell ⟨w.heap.size+1,0,none⟩ (.int .i64 0)).setCell ⟨w.heap.size+1,1,none⟩ (.int .i64 0))=w7 at *
 have d0:w7.cell? ⟨w.heap.size,0,none⟩=some (.int .i64 (l.length:Int)):=hh7.cell 0
 have d1:w7.cell? ⟨w.heap.size,1,none⟩=some (.slice A3 R.length c3):=hh7.cell 1
 have d2:w7.cell? ⟨w.heap.size+1,0,none⟩=some (.int .i64 0):=hf7.cell 0
 have d3:w7.cell? ⟨w.heap.size+1,1,none⟩=some (.int .i64 0):=hf7.cell 1
 exact bodyPost_ret (v:=.tuple #[.agg #[.int .i64 (l.length:Int),.slice A3 R.length c3],.agg #[.int .i64 0,.int .i64 0]]) (by simp [results,Try.results55,go_sem,d0,d1,d2,d3]) rfl ⟨_,rfl,ho7,hx7⟩
set_option maxRecDepth 100000 in
set_option maxHeartbeats 2000000 in
theorem BPath_fine (w:World) (F:Nat->Prop) (v:Value) (l:List Rec) (z:Int) (hl:RdL w F v l) (hf:Bk.FineB l) (h0:0<=z) (h1:z<l.length) :
 Calls Try.prog 56 #[v,.int .i64 z] w fun e w'=>∃ rv,e = .returned (.tuple #[rv,.agg #[.int .i64 0,.int .i64 0]])/\OwnL w' w.heap.size rv (Tr.path ((Bk.rows l).map Tr.leafH) z.toNat)/\Below w.heap.size w w':=by
 obtain ⟨A,c,hv,hlc,hcm⟩:=hl.form
 subst hv
 unfold maxLen at hcm
 obtain ⟨R,HR⟩:∃ R,Hid (R=Tr.path ((Bk.rows l).map Tr.leafH) z.toNat):=⟨_,Lib.hid rfl⟩
 rw [<-HR.out]
 have hx0:=(Below.refl w.heap.size w).alloc (Nat.le_refl _) (.cells #[.int .i64 0,.int .i64 0] 32)
 have hf0:Blk (w.alloc (.cells #[.int .i64 0,.int .i64 0] 32)) w.heap.size 32 #[.int .i64 0,.int .i64 0]:=heap_alloc_new w _
 go_enter Try.func56,Try.ntmps56
 go_wp2_with fail
 generalize w.alloc (.cells #[.int .i64 0,.int .i64 0] 32)=w0 at *
 refine (leavesB_fine w0 F _ l (hl.below hx0) hf).mono ?_
 rintro e w1 ⟨v1,rfl,hown1,hx1⟩
 have hx2:=hx0.trans (hx1.mono hx0.size)
 have hx3:=hx2.alloc hx2.size (.cells #[.int .i64 0,.int .i64 0] 32)
 have hf3:=(hf0.below hx1 hf0.lt).alloc (.cells #[.int .i64 0,.int .i64 0] 32)
 have hb3:=hown1.blist.alloc (.cells #[.int .i64 0,.int .i64 0] 32)
 obtain ⟨A1,c1,hv1,_⟩:=hb3.shape
 subst hv1
 have HF:=Lib.hid (fine_rows hf)
 have HL:Hid ((Bk.rows l).length=l.length):=Lib.hid (by unfold Bk.rows;rw [List.length_map])
 clear hf hown1
 go_wp2_with fail
 generalize w1.alloc (.cells #[.int .i64 0,.int .i64 0] 32)=w3 at *
 refine (Path_fine w3 _ _ _ z hb3 HF.out (by omega) (by rw [HL.out];omega)).mono ?_
 rw [<-HR.out]
 rintro e w4 ⟨v4,rfl,hown4,hx4⟩
 have hx5:=hx3.trans (hx4.mono hx3.size)
 have hf5:=hf3.below hx4 hf3.lt
 obtain ⟨vs,ho,hin⟩:=hown4
 obtain ⟨A3,c3,hv4,_,_⟩:=Own.shape ho
 subst hv4
 have b0:w4.cell? ⟨w.heap.size,0,none⟩=some (.int .i64 0):=hf5.cell 0
 have b1:w4.cell? ⟨w.heap.size,1,none⟩=some (.int .i64 0):=hf5.cell 1
 have f2:=hf5.frozen 0
 have f3:=hf5.frozen 1
 go_wp2_with fail
 have hf6:=hf5.set2 (.int .i64 0) (.int .i64 0)
 have hx6:=below_set2 (g:=w.heap.size) hx5 (Nat.le_refl _) (.int .i64 0) (.int .i64 0)
 have hoL:OwnL ((w4.setCell ⟨w.heap.size,0,none⟩ (.int .i64 0)).setCell ⟨w.heap.size,1,none⟩ (.int .i64 0)) w.heap.size (.slice A3 R.length c3) R :=
  ⟨vs,(Own.set2 ho (Own.ne_blk ho hf5 (by decide)) _ _).mono hx3.size,fun i b hb=>by
   obtain ⟨u,hu,hu2⟩:=hin i b hb
   exact ⟨u,hu,(Own.set2 hu2 (Own.ne_blk hu2 hf5 (by decide)) _ _).mono hx3.size⟩⟩
 generalize ((w4.setCell ⟨w.heap.size,0,none⟩ (.int .i64 0)).setCell ⟨w.heap.size,1,none⟩ (.int .i64 0))=w6 at *
 have d2:w6.cell? ⟨w.heap.size,0,none⟩=some (.int .i64 0):=hf6.cell 0
 have d3:w6.cell? ⟨w.heap.size,1,none⟩=some (.int .i64 0):=hf6.cell 1
 exact bodyPost_ret (v:=.tuple #[.slice A3 R.length c3,.agg #[.int .i64 0,.int .i64 0]]) (by simp [results,Try.results56,go_sem,d2,d3]) rfl ⟨_,rfl,hoL,hx6⟩
end Go.Proofs.Ytfdibjgmbdkbcaa
