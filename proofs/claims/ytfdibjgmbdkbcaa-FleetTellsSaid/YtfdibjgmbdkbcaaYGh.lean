/-
  THE WALK of shelf.Segment. Conditions: what is read is a manifest. THE WALK of shelf.Segment, on. Conditions: what is read is a manifest. THE WALK of shelf.Verify. Conditions: what is read is a manifest.
-/
import Derived.Test.YtfdibjgmbdkbcaaYRepr
import Derived.Test.YtfdibjgmbdkbcaaYSh0
import Derived.Test.YtfdibjgmbdkbcaaYShelfP
import Derived.Test.YtfdibjgmbdkbcaaYPk5
namespace Go.Proofs.Ytfdibjgmbdkbcaa
open Go.RowKit Go.Lib
theorem rd_seg {w:World} {F:Nat->Prop} {cs:List Value} {s:Seg} (h:Rp.rd w F cs s):∃ A c,cs=[.int .i64 s.first,.int .i64 s.count,.slice A s.packed.length c]/\Bytes w F (.slice A s.packed.length c) s.packed:=by
 obtain ⟨c1,c1',rfl,h1,c2,c2',rfl,h2,u,rfl,h3⟩:=h
 have e1:c1=[.int .i64 s.first]:=h1
 have e2:c2=[.int .i64 s.count]:=h2
 have hb:Bytes w F u s.packed:=rdL_bytes.1 h3
 obtain ⟨A,c,hu⟩:=hb.form
 subst e1 e2 hu
 exact ⟨A,c,rfl,hb⟩
theorem seg_at {w:World} {F:Nat->Prop} {v:Value} {l:List Seg} (h:RdL w F v l) {j:Nat} (hj:j<l.length):∃ b off c A k,v = .slice (some ⟨b,off,none⟩) l.length c/\F b/\b<w.heap.size ∧
 w.cell? ⟨b,off+j*3,none⟩=some (.int .i64 l[j].first)/\w.cell? ⟨b,off+j*3+1,none⟩=some (.int .i64 l[j].count) ∧
 w.cell? ⟨b,off+j*3+2,none⟩=some (.slice A l[j].packed.length k)/\Bytes w F (.slice A l[j].packed.length k) l[j].packed:=by
 obtain ⟨b,off,c,hv,hF,hb,ecs,hr,hc⟩:=h.at_ hj
 obtain ⟨A,k,he,hbt⟩:=rd_seg hr
 subst he
 exact ⟨b,off,c,A,k,hv,hF,hb,hc 0 _ rfl,hc 1 _ rfl,hc 2 _ rfl,hbt⟩
def SegPost (w:World) (r:Nat × List Bs) (e:Ending) (w':World):Prop :=
 ∃ v,e = .returned (.tuple #[v,.int .i64 (r.1:Int)])/\OwnL w' w.heap.size v r.2/\Below w.heap.size w w'
theorem segC_out {m:Man} {k:Int} (h:¬ (0<=k/\k<m.segs.length)):Shf.segC m k=(6,[]):=by unfold Shf.segC;rw [dif_neg h]
theorem segC_unfit {m:Man} {k:Int} {s:Seg} (hk:0<=k) (hs:m.segs[k.toNat]? = some s) (h:¬ Shf.fits m k s):Shf.segC m k=(7,[]):=by
 obtain ⟨hlt,hg⟩:=List.getElem?_eq_some_iff.1 hs
 unfold Shf.segC
 rw [dif_pos ⟨hk,by omega⟩,hg,if_neg h]
theorem segC_fit {m:Man} {k:Int} {s:Seg} (hk:0<=k) (hs:m.segs[k.toNat]? = some s) (h:Shf.fits m k s):Shf.segC m k=Shf.openC s:=by
 obtain ⟨hlt,hg⟩:=List.getElem?_eq_some_iff.1 hs
 unfold Shf.segC
 rw [dif_pos ⟨hk,by omega⟩,hg,if_pos h]
set_option maxRecDepth 100000 in
set_option maxHeartbeats 4000000 in
theorem segment_unfit (w:World) (size:Int) (vr:Value) (b off c:Nat) (n:Nat) (k:Int) (s:Seg) (A:Option Addr) (c':Nat) (hk0:0<=k) (hkn:k<n) (_hnc:n<=c) (_hcm:c<=maxLen) (hb:b<w.heap.size)
 (q0:w.cell? ⟨b,off+k.toNat * 3,none⟩=some (.int .i64 s.first)) (q1:w.cell? ⟨b,off+k.toNat * 3+1,none⟩=some (.int .i64 s.count)) (q2:w.cell? ⟨b,off+k.toNat * 3+2,none⟩=some (.slice A s.packed.length c'))
 (h:¬ (0<=size/\size<=100/\k<=100/\s.first=k*8/\1<=s.count/\s.count=min 8 (size-s.first))) :
 Calls Try.prog 62 #[.agg #[.int .i64 size,vr,.slice (some ⟨b,off,none⟩) n c],.int .i64 k] w (SegPost w (7,[])):=by
 unfold maxLen at _hcm
 obtain ⟨j,rfl⟩:∃ j:Nat,k=(j:Int):=⟨k.toNat,by omega⟩
 rw [Int.toNat_natCast] at q0 q1 q2
 have hltB:(j:Int)<(n:Int):=hkn
 have hgeB:decide ((n:Int)<=(j:Int))=false:=decide_eq_false (by omega)
 obtain ⟨first,count,packed⟩:=s
 simp only at q0 q1 q2 h
 have hx0:=(Below.refl w.heap.size w).alloc (Nat.le_refl _) (.cells #[.int .i64 size,vr,.slice (some ⟨b,off,none⟩) n c] 77)
 have p0:=(hx0.cell (p:=⟨b,off+j*3,none⟩) hb).trans q0
 have p1:=(hx0.cell (p:=⟨b,off+j*3+1,none⟩) hb).trans q1
 have p2:=(hx0.cell (p:=⟨b,off+j*3+2,none⟩) hb).trans q2
 have hk1:Blk (w.alloc (.cells #[.int .i64 size,vr,.slice (some ⟨b,off,none⟩) n c] 77)) w.heap.size 77 #[.int .i64 size,vr,.slice (some ⟨b,off,none⟩) n c]:=heap_alloc_new w _
 have hsz:(w.alloc (.cells #[.int .i64 size,vr,.slice (some ⟨b,off,none⟩) n c] 77)).heap.size=w.heap.size+1:=by simp
 go_enter Try.func62,Try.ntmps62
 go_wp2_with fail
 all_goals first
  | (exfalso
     refine h ⟨by omega,by omega,by omega,by assumption,by omega,?_⟩
     have hne:(count != min 8 (size-(j:Int)*8))=false:=by simp_all
     have hf:first=(j:Int)*8:=by assumption
     rw [hf]
     simpa using hne)
  | (go_ret2
     exact ⟨_,rfl,OwnL.nil_ _ _,(Below.refl _ _).alloc (Nat.le_refl _) _ |>.alloc (by simp) _⟩)
end Go.Proofs.Ytfdibjgmbdkbcaa
namespace Go.Proofs.Ytfdibjgmbdkbcaa
open Go.RowKit Go.Lib
set_option maxRecDepth 100000 in
set_option maxHeartbeats 4000000 in
theorem segment_out (w:World) (size:Int) (vr:Value) (A:Option Addr) (n c:Nat) (k:Int) (h:¬ (0<=k/\k<n)) :
 Calls Try.prog 62 #[.agg #[.int .i64 size,vr,.slice A n c],.int .i64 k] w (SegPost w (6,[])):=by
 by_cases h0:k<0
 · go_enter Try.func62,Try.ntmps62
   go_wp2_with fail
   go_ret2
   exact ⟨_,rfl,OwnL.nil_ _ _,(Below.refl _ _).alloc (Nat.le_refl _) _⟩
 · have b0:decide (k<0)=false:=decide_eq_false h0
   have b1:(n:Int)<=k:=by omega
   go_enter Try.func62,Try.ntmps62
   go_wp2_with fail
   go_ret2
   exact ⟨_,rfl,OwnL.nil_ _ _,(Below.refl _ _).alloc (Nat.le_refl _) _⟩
theorem openC_eq {s:Seg} {e:Nat} {b:Bs} (h:Pk.unpack s.packed=(e,b)):Shf.openC s=if e=0 then (match Shf.taken b s.count.toNat with | some l=>(0,l) | none=>(2,[])) else (e,[]):=by
 unfold Shf.openC
 rw [h]
 rfl
set_option maxRecDepth 100000 in
set_option maxHeartbeats 4000000 in
theorem segment_fit (w:World) (F:Nat->Prop) (size:Int) (vr:Value) (b off c:Nat) (n:Nat) (j:Nat) (cnt:Nat) (packed:Bs) (A:Option Addr) (c':Nat) (hkn:(j:Int)<n) (_hnc:n<=c) (_hcm:c<=maxLen) (hb:b<w.heap.size)
 (q0:w.cell? ⟨b,off+j*3,none⟩=some (.int .i64 ((j:Int)*8))) (q1:w.cell? ⟨b,off+j*3+1,none⟩=some (.int .i64 (cnt:Int))) (q2:w.cell? ⟨b,off+j*3+2,none⟩=some (.slice A packed.length c'))
 (hp:Bytes w F (.slice A packed.length c') packed)
 (h0:0<=size) (h1:size<=100) (h2:(j:Int)<=100) (h3:(1:Int)<=(cnt:Int)) (h4:(cnt:Int)=min 8 (size-(j:Int)*8)) :
 Calls Try.prog 62 #[.agg #[.int .i64 size,vr,.slice (some ⟨b,off,none⟩) n c],.int .i64 (j:Int)] w (SegPost w (Shf.openC ⟨(j:Int)*8,cnt,packed⟩)):=by
 unfold maxLen at _hcm
 have hgeB:decide ((n:Int)<=(j:Int))=false:=decide_eq_false (by omega)
 have d0:decide (size<0)=false:=decide_eq_false (by omega)
 have d1:decide (100<size)=false:=decide_eq_false (by omega)
 have d2:decide (100<(j:Int))=false:=decide_eq_false (by omega)
 have d3:decide ((cnt:Int)<1)=false:=decide_eq_false (by omega)
 have d4:((cnt:Int) != min 8 (size-(j:Int)*8))=false:=by rw [<-h4];simp
 have hcnt:cnt<=8:=by omega
 have H4:=Lib.hid h4
 clear h4
 have hx0:=(Below.refl w.heap.size w).alloc (Nat.le_refl _) (.cells #[.int .i64 size,vr,.slice (some ⟨b,off,none⟩) n c] 77)
 have p0:=(hx0.cell (p:=⟨b,off+j*3,none⟩) hb).trans q0
 have p1:=(hx0.cell (p:=⟨b,off+j*3+1,none⟩) hb).trans q1
 have p2:=(hx0.cell (p:=⟨b,off+j*3+2,none⟩) hb).trans q2
 have hx1:=hx0.alloc hx0.size (.cells #[.int .i64 ((j:Int)*8),.int .i64 (cnt:Int),.slice A packed.length c'] 152)
 have hk1:Blk ((w.alloc (.cells #[.int .i64 size,vr,.slice (some ⟨b,off,none⟩) n c] 77)).alloc (.cells #[.int .i64 ((j:Int)*8),.int .i64 (cnt:Int),.slice A packed.length c'] 152)) (w.heap.size+1) 152 #[.int .i64 ((j:Int)*8),.int .i64 (cnt:Int),.slice A packed.length c']:=by
  have:=heap_alloc_new (w.alloc (.cells #[.int .i64 size,vr,.slice (some ⟨b,off,none⟩) n c] 77)) (.cells #[.int .i64 ((j:Int)*8),.int .i64 (cnt:Int),.slice A packed.length c'] 152)
  rw [World.size_alloc] at this
  exact this
 have hp1:=hp.below hx1
 obtain ⟨e1,b1,he⟩:∃ e1 b1,Pk.unpack packed=(e1,b1):=⟨_,_,rfl⟩
 have HO:=Lib.hid (openC_eq (s:=⟨(j:Int)*8,cnt,packed⟩) he)
 have HE:=Lib.hid he
 clear he
 go_enter Try.func62,Try.ntmps62
 go_wp2_with fail
 generalize ((w.alloc (.cells #[.int .i64 size,vr,.slice (some ⟨b,off,none⟩) n c] 77)).alloc (.cells #[.int .i64 ((j:Int)*8),.int .i64 (cnt:Int),.slice A packed.length c'] 152))=w1 at *
 refine (unpack_any w1 _ _ packed hp1).mono ?_
 unfold UnpackPost
 rw [HE.out]
 rintro e w2 ⟨v2,rfl,ho2,hx2⟩
 have hk2:=hk1.below hx2 hk1.lt
 have hx3:=hx1.trans (hx2.mono hx1.size)
 obtain ⟨A2,c2,hv2,_,_⟩:=Own.shape ho2
 subst hv2
 simp only at ho2
 have r0:w2.cell? ⟨w.heap.size+1,1,none⟩=some (.int .i64 (cnt:Int)):=hk2.cell 1
 by_cases he0:e1=0
 · subst he0
   have HO2:=Lib.hid (HO.out.trans (if_pos rfl))
   go_wp2_with fail
   refine (take_any w2 _ _ b1 (OwnB.bytes ho2) cnt (by omega)).mono ?_
   unfold TakePost
   rintro e w4 ⟨v4,rfl,ho4,hx4⟩
   have hx5:=hx3.trans (hx4.mono hx3.size)
   have hOC:=HO2.out
   rw [show (Int.toNat ((⟨(j:Int)*8,cnt,packed⟩:Seg).count))=cnt from Int.toNat_natCast cnt] at hOC
   cases ht:Shf.taken b1 cnt with
   | some l =>
     rw [ht] at hOC ho4
     have HOC:=Lib.hid hOC
     have HT:=Lib.hid ht
     have hL:=ho4 l rfl
     clear hOC ht ho4
     go_wp2_with fail
     go_ret2
     rw [HOC.out]
     exact ⟨_,rfl,hL.mono hx3.size,hx5⟩
   | none =>
     rw [ht] at hOC
     have HOC:=Lib.hid hOC
     have HT:=Lib.hid ht
     clear hOC ht ho4
     go_wp2_with fail
     go_ret2
     rw [HOC.out]
     exact ⟨_,rfl,OwnL.nil_ _ _,hx5⟩
 · have HO2:=Lib.hid (HO.out.trans (if_neg he0))
   have heB:((e1:Int) != 0)=true:=by simp;omega
   have HE0:=Lib.hid he0
   clear he0
   go_wp2_with fail
   go_ret2
   rw [HO2.out]
   exact ⟨_,rfl,OwnL.nil_ _ _,hx3⟩
theorem segment_any (w:World) (F:Nat->Prop) (vr vs:Value) (m:Man) (k:Int) (hs:RdL w F vs m.segs) :
 Calls Try.prog 62 #[.agg #[.int .i64 m.size,vr,vs],.int .i64 k] w (SegPost w (Shf.segC m k)):=by
 obtain ⟨A,c,hv,hnc,hcm⟩:=hs.form
 by_cases hk:0<=k/\k<(m.segs.length:Nat)
 · obtain ⟨j,rfl⟩:∃ j:Nat,k=(j:Int):=⟨k.toNat,by omega⟩
   have hj:j<m.segs.length:=by omega
   obtain ⟨b,off,c,A',k',hv',_,hb,q0,q1,q2,hp⟩:=seg_at hs hj
   rw [hv] at hv'
   injection hv' with e1 _ e3
   subst e1 e3
   rw [hv]
   have hg:m.segs[(j:Int).toNat]? = some m.segs[j]:=by rw [Int.toNat_natCast];exact List.getElem?_eq_getElem hj
   generalize m.segs[j]=s at *
   by_cases hf:Shf.fits m (j:Int) s
   · rw [segC_fit hk.1 hg hf]
     obtain ⟨f0,f1,f2,f3,f4,f5⟩:=hf
     obtain ⟨first,count,packed⟩:=s
     simp only at f3 f4 f5 q0 q1 q2 hp
     obtain ⟨cnt,rfl⟩:∃ cnt:Nat,count=(cnt:Int):=⟨count.toNat,by omega⟩
     subst f3
     exact segment_fit w F m.size vr b off _ m.segs.length j cnt packed A' k' hk.2 hnc hcm hb q0 q1 q2 hp f0 f1 f2 f4 f5
   · rw [segC_unfit hk.1 hg hf]
     exact segment_unfit w m.size vr b off _ m.segs.length j s A' k' hk.1 hk.2 hnc hcm hb (by rw [Int.toNat_natCast];exact q0) (by rw [Int.toNat_natCast];exact q1) (by rw [Int.toNat_natCast];exact q2) hf
 · rw [segC_out hk,hv]
   exact segment_out w m.size vr A _ c k hk
end Go.Proofs.Ytfdibjgmbdkbcaa
namespace Go.Proofs.Ytfdibjgmbdkbcaa
open Go.RowKit Go.Lib
theorem OwnL.join {w w':World} {B:Nat} {v v':Value} {ll mm:List Bs} {vs us:List Value} (h1:∀ (i:Nat) (b:Bs),ll[i]? = some b->∃ u:Value,vs[i]? = some u/\OwnB w B u b) (h2:∀ (i:Nat) (b:Bs),mm[i]? = some b->∃ u:Value,us[i]? = some u/\OwnB w B u b)
 (hv:Own w B 22 1 v ll.length vs) (hg:w.grownBy w' v.ownBlock) (hown:Own w' B 22 1 v' (ll.length+mm.length) (vs++us)):OwnL w' B v' (ll++mm):=by
 have hvs:vs.length=ll.length:=by have:=hv.1;omega
 have hk:∀ (x:Value) (c:Bs),OwnB w B x c->OwnB w' B x c:=fun x c ho =>
  Own.keep ho fun k hk hlt _=>hg.block k hlt (fun e=>Own.apart ho hv (by decide) k hk e.symm)
 refine ⟨vs++us,by rw [List.length_append];exact hown,fun i c hi=>?_⟩
 rcases Nat.lt_or_ge i ll.length with hlt | hge
 · rw [List.getElem?_append_left hlt] at hi
   obtain ⟨x,hx,ho⟩:=h1 i c hi
   exact ⟨x,by rw [List.getElem?_append_left (by omega)];exact hx,hk x c ho⟩
 · rw [List.getElem?_append_right hge] at hi
   obtain ⟨x,hx,ho⟩:=h2 _ c hi
   exact ⟨x,by rw [List.getElem?_append_right (by omega),hvs];exact hx,hk x c ho⟩
def VerPost (w:World) (r:(Nat × Nat) × List Bs) (e:Ending) (w':World):Prop :=
 ∃ v,e = .returned (.tuple #[v,fv r.1])/\OwnL w' w.heap.size v r.2/\Below w.heap.size w w'
set_option maxRecDepth 100000 in
set_option maxHeartbeats 4000000 in
theorem verify_out (w:World) (size:Int) (vr:Value) (A:Option Addr) (n c:Nat) (h:¬ (0<=size/\size<=100/\(n:Int)=(size+7) / 8)) :
 Calls Try.prog 66 #[.agg #[.int .i64 size,vr,.slice A n c]] w (VerPost w ((5,0),[])):=by
 have hk1:Blk ((w.alloc (.cells #[.int .i64 size,vr,.slice A n c] 77)).alloc (.cells #[.int .i64 0,.int .i64 0] 32)) (w.heap.size+1) 32 #[.int .i64 0,.int .i64 0]:=by
  have:=heap_alloc_new (w.alloc (.cells #[.int .i64 size,vr,.slice A n c] 77)) (.cells #[.int .i64 0,.int .i64 0] 32)
  rw [World.size_alloc] at this
  exact this
 have hx1:=((Below.refl w.heap.size w).alloc (Nat.le_refl _) (.cells #[.int .i64 size,vr,.slice A n c] 77)).alloc (by simp) (.cells #[.int .i64 0,.int .i64 0] 32)
 go_enter Try.func66,Try.ntmps66
 go_wp2_with fail
 all_goals first
  | (exfalso
     refine h ⟨by omega,by omega,?_⟩
     have hne:((n:Int) != (size+8-1) / 8)=false:=by simp_all
     have he:(n:Int)=(size+8-1) / 8:=by simpa using hne
     omega)
  | (refine bodyPost_ret (v:=.tuple #[.slice none 0 0,.agg #[.int .i64 5,.int .i64 0]]) (by simp [results,Try.results66,go_sem]) rfl ⟨_,rfl,OwnL.nil_ _ _,?_⟩
     exact ((Below.refl _ _).alloc (Nat.le_refl _) _).alloc (by simp) _)
theorem allC_snoc {m:Man} {n k:Nat} {acc:List Bs} (h:(Shf.segC m k).1=0):Shf.allC m (n+1) k acc=Shf.allC m n (k+1) (acc++(Shf.segC m k).2):=by
 rw [Shf.allC,if_pos h]
theorem allC_stop {m:Man} {n k:Nat} {acc:List Bs} (h:(Shf.segC m k).1≠0):Shf.allC m (n+1) k acc=(((Shf.segC m k).1,k),[]):=by
 rw [Shf.allC,if_neg h]
theorem verC_in {m:Man} (hm:Shf.shape m):Shf.verC m=if (Shf.allC m m.segs.length 0 []).1.1=0 then (if Tr.rootL (Shf.allC m m.segs.length 0 []).2=m.root then ((0,0),(Shf.allC m m.segs.length 0 []).2) else ((9,0),[])) else ((Shf.allC m m.segs.length 0 []).1,[]):=by
 unfold Shf.verC;rw [if_pos hm]
theorem verC_out {m:Man} (hm:¬ Shf.shape m):Shf.verC m=((5,0),[]):=by
 unfold Shf.verC;rw [if_neg hm]
set_option maxRecDepth 100000 in
set_option maxHeartbeats 4000000 in
theorem verify_in (w:World) (F F':Nat->Prop) (vr vs:Value) (m:Man) (hr:Bytes w F' vr m.root) (hs:RdL w F vs m.segs) (hm:Shf.shape m) :
 Calls Try.prog 66 #[.agg #[.int .i64 m.size,vr,vs]] w (VerPost w (Shf.verC m)):=by
 obtain ⟨i0,hi,hz0,hz1,hz2⟩:=info_parts info_bytes
 have HV:=Lib.hid (verC_in hm)
 obtain ⟨A,c,hv,hnc,hcm⟩:=hs.form
 obtain ⟨Ar,cr,hvr⟩:=hr.form
 unfold maxLen at hcm
 subst hvr
 have hm':=hm
 obtain ⟨h0,h1,h2⟩:=hm'
 have d0:decide (m.size<0)=false:=decide_eq_false (by omega)
 have d1:decide (100<m.size)=false:=decide_eq_false (by omega)
 have d2:((m.segs.length:Int) != (m.size+8-1) / 8)=false:=by rw [bne_eq_false_iff_eq];omega
 have hn13:m.segs.length<=13:=by omega
 have HM:=Lib.hid hm
 have hx0:=((Below.refl w.heap.size w).alloc (Nat.le_refl _) (.cells #[.int .i64 m.size,.slice Ar m.root.length cr,vs] 77)).alloc (by simp) (.cells #[.int .i64 0,.int .i64 0] 32)
 have hkm:Blk ((w.alloc (.cells #[.int .i64 m.size,.slice Ar m.root.length cr,vs] 77)).alloc (.cells #[.int .i64 0,.int .i64 0] 32)) w.heap.size 77 #[.int .i64 m.size,.slice Ar m.root.length cr,vs]:=Blk.alloc (heap_alloc_new w _) _
 have hkf:Blk ((w.alloc (.cells #[.int .i64 m.size,.slice Ar m.root.length cr,vs] 77)).alloc (.cells #[.int .i64 0,.int .i64 0] 32)) (w.heap.size+1) 32 #[.int .i64 0,.int .i64 0]:=by
  have:=heap_alloc_new (w.alloc (.cells #[.int .i64 m.size,.slice Ar m.root.length cr,vs] 77)) (.cells #[.int .i64 0,.int .i64 0] 32)
  rw [World.size_alloc] at this
  exact this
 have hsz:=hx0.size
 clear h2 hm
 subst hv
 go_enter Try.func66,Try.ntmps66
 go_wp2_with fail
 generalize ((w.alloc (.cells #[.int .i64 m.size,.slice Ar m.root.length cr,.slice A m.segs.length c] 77)).alloc (.cells #[.int .i64 0,.int .i64 0] 32))=w0 at *
 go_loopg [4,36] m.segs.length (fun k vo i wr=>∃ (j:Nat) (acc:List Bs),j+k=m.segs.length/\i = .int .i64 (j:Int)/\Hid (Shf.allC m k j acc=Shf.allC m m.segs.length 0 [])/\acc.length<=8*j/\OwnL wr w.heap.size vo acc ∧
  Blk wr w.heap.size 77 #[.int .i64 m.size,.slice Ar m.root.length cr,.slice A m.segs.length c]/\Blk wr (w.heap.size+1) 32 #[.int .i64 0,.int .i64 0]/\Below w.heap.size w wr)
 case atStart=>exact ⟨0,[],by omega,rfl,Lib.hid rfl,Nat.le_refl _,OwnL.nil_ _ _,hkm,hkf,hx0⟩
 case round =>
  obtain ⟨j,acc,hj,rfl,HA,hal,hown,hkm2,hkf2,hx⟩:=hrel
  have hlt1:=hkf2.lt
  have e0:wr.cell? ⟨w.heap.size,0,none⟩=some (.int .i64 m.size):=hkm2.cell 0
  have e1:wr.cell? ⟨w.heap.size,1,none⟩=some (.slice Ar m.root.length cr):=hkm2.cell 1
  have e2:wr.cell? ⟨w.heap.size,2,none⟩=some (.slice A m.segs.length c):=hkm2.cell 2
  have f0:wr.cell? ⟨w.heap.size+1,0,none⟩=some (.int .i64 0):=hkf2.cell 0
  have f1:wr.cell? ⟨w.heap.size+1,1,none⟩=some (.int .i64 0):=hkf2.cell 1
  have g0:=hkf2.frozen 0
  have g1:=hkf2.frozen 1
  by_cases hlt:j<m.segs.length
  · have hltB:(j:Int)<(m.segs.length:Int):=by omega
    obtain ⟨k,rfl⟩:∃ k,gk=k+1:=⟨gk-1,by omega⟩
    obtain ⟨r,HR⟩:∃ r,Hid (r=Shf.segC m (j:Int)):=⟨_,Lib.hid rfl⟩
    have hst:r.1≠0->Shf.allC m (k+1) j acc=((r.1,j),[]):=by rw [HR.out];exact allC_stop
    have hsn:r.1=0->Shf.allC m (k+1) j acc=Shf.allC m k (j+1) (acc++r.2):=by rw [HR.out];exact allC_snoc
    have hlen:r.1=0->r.2.length<=8:=by
     rw [HR.out]
     intro hz
     obtain ⟨hk,hf,_,hl,_⟩:=Shf.segC_ok hz
     obtain ⟨f0,f1,f2,f3,f4,f5⟩:=hf
     omega
    go_wp2_with fail
    with_reducible refine (segment_any wr F _ _ m (j:Int) (hs.below hx)).mono ?_
    rw [<-HR.out]
    rintro e w2 ⟨v2,rfl,ho2,hx2⟩
    obtain ⟨ec,el⟩:=r
    simp only at hst hsn hlen ho2
    have hkm3:=hkm2.below hx2 hkm2.lt
    have hkf3:=hkf2.below hx2 hkf2.lt
    have hx3:=hx.trans (hx2.mono hx.size)
    by_cases hz:ec=0
    · have HS:=Lib.hid (hsn hz)
      have hl8:=hlen hz
      subst hz
      obtain ⟨vs1,hO,hin⟩:=hown.below hx2
      obtain ⟨us,hO2,hin2⟩:=ho2.mono hx.size
      obtain ⟨A3,c3,hv3,hlc3,hcm3⟩:=Own.shape hO
      subst hv3
      obtain ⟨A4,c4,hv4,hlc4,hcm4⟩:=Own.shape hO2
      subst hv4
      clear hst hsn hlen
      have hsrc:SlAt w2 (fun _=>True) 1 (.slice A4 el.length c4) el.length us:=hO2.slAt (fun _ _=>trivial)
      have hone:∀ u ∈ us,u.oneCell'=true:=fun u hu=>by
       obtain ⟨q,hq,hqe⟩:=List.getElem_of_mem hu
       obtain ⟨u',hu',hb'⟩:=hin2 q (el[q]'(by have:=hO2.1;omega)) (List.getElem?_eq_getElem _)
       rw [List.getElem?_eq_getElem hq] at hu'
       injection hu' with hu'
       subst hu'
       obtain ⟨A',c',hv',_⟩:=Own.shape hb'
       rw [<-hqe,hv']
       rfl
      go_wp2_with (at_builtin
                   refine wpList_append_Own _ (by rfl) (.tmp 50) (.tmp 51) 40 (by rfl) w.heap.size 22 i0 _ 1 24 Try.underlying40 hi hz0 hz1 hz2 (by rfl) (by omega) (.slice A3 acc.length c3) acc.length vs1 (by rfl) hO _ _ el.length us (by rfl) hsrc hone (by simp only [maxLen];omega) (by omega) (by have:=hx3.size;omega) ?_
                   intro v4 w4 hown4 hgr4 hat4
                   have hL:=OwnL.join hin hin2 hO hgr4 hown4
                   have hx4:Below w.heap.size w w4:=hx3.grown hgr4 hx3.size (fun k hk=>(Own.lt hO k hk).1)
                   have hkm4:=hkm3.keep (hgr4.block _ hkm3.lt (fun e=>Own.ne_blk hO hkm3 (by decide) e.symm))
                   have hkf4:=hkf3.keep (hgr4.block _ hkf3.lt (fun e=>Own.ne_blk hO hkf3 (by decide) e.symm)))
      go_roundg k
      case measure=>omega
      case rel=>exact ⟨j+1,acc++el,by omega,by go_num,Lib.hid (HS.out.symm.trans HA.out),by rw [List.length_append];omega,hL,hkm4,hkf4,hx4⟩
    · have HS:=Lib.hid (HA.out.symm.trans (hst hz))
      have heB:((ec:Int) != 0)=true:=by simp;omega
      have HZ:=Lib.hid hz
      have b0:w2.cell? ⟨w.heap.size+1,0,none⟩=some (.int .i64 0):=hkf3.cell 0
      have b1:w2.cell? ⟨w.heap.size+1,1,none⟩=some (.int .i64 0):=hkf3.cell 1
      have b2:=hkf3.frozen 0
      have b3:=hkf3.frozen 1
      clear hst hsn hlen hz
      go_wp2_with fail
      obtain ⟨W,hW⟩:∃ z:World,z=((w2.setCell ⟨w.heap.size+1,0,none⟩ (.int .i64 (ec:Int))).setCell ⟨w.heap.size+1,1,none⟩ (.int .i64 (j:Int))):=⟨_,rfl⟩
      rw [<-hW]
      have sB:Blk W (w.heap.size+1) 32 #[.int .i64 (ec:Int),.int .i64 (j:Int)]:=by rw [hW];exact hkf3.set2 _ _
      have sX:Below w.heap.size w W:=by rw [hW];exact below_set2 hx3 (by omega) _ _
      have HW:=Lib.hid hW
      clear hW
      have sc0:W.cell? ⟨w.heap.size+1,0,none⟩=some (.int .i64 (ec:Int)):=sB.cell 0
      have sc1:W.cell? ⟨w.heap.size+1,1,none⟩=some (.int .i64 (j:Int)):=sB.cell 1
      have hV:Shf.verC m=((ec,j),[]):=by rw [HV.out,HS.out];exact if_neg HZ.out
      have HV2:=Lib.hid hV
      clear hV
      refine bodyPost_ret (v:=.tuple #[.slice none 0 0,.agg #[.int .i64 (ec:Int),.int .i64 (j:Int)]]) (by simp [results,Try.results66,go_sem,sc0,sc1]) rfl ⟨.slice none 0 0,?_,?_,sX⟩
      · rw [HV2.out];rfl
      · rw [HV2.out];exact OwnL.nil_ _ _
  · have hltB:decide ((j:Int)<(m.segs.length:Int))=false:=decide_eq_false (by omega)
    have hk0:gk=0:=by omega
    subst hk0
    have hA0:Shf.allC m m.segs.length 0 []=((0,0),acc):=by rw [<-HA.out];rfl
    have hfine:Fine acc:=by
     have:=(Shf.allC_fine HM.out (by rw [hA0])).2
     rw [hA0] at this
     exact this
    have hV:Shf.verC m=if Tr.rootL acc=m.root then ((0,0),acc) else ((9,0),[]):=by rw [HV.out,hA0];rfl
    have HV2:=Lib.hid hV
    clear hA0 hV
    obtain ⟨A3,c3,hv3,_,_⟩:=hown.blist.shape
    subst hv3
    go_wp2_with fail
    with_reducible refine (Root_fine wr _ _ acc hown.blist hfine).mono ?_
    rintro e w2 ⟨v2,rfl,ho2,hx2⟩
    have hkm3:=(hkm2.below hx2 hkm2.lt).alloc (.cells #[.int .i64 0,.int .i64 0] 32)
    have hkf3:=(hkf2.below hx2 hkf2.lt).alloc (.cells #[.int .i64 0,.int .i64 0] 32)
    have hx3:=(hx.trans (hx2.mono hx.size))
    have hx3':=hx3.alloc hx3.size (.cells #[.int .i64 0,.int .i64 0] 32)
    have hown3:=(hown.below hx2).alloc (.cells #[.int .i64 0,.int .i64 0] 32)
    have ho3:=(OwnB.bytes ho2).alloc (.cells #[.int .i64 0,.int .i64 0] 32)
    have hr3:=hr.below hx3'
    obtain ⟨A5,c5,hv5,_,_⟩:=Own.shape ho2
    subst hv5
    have hrl:Tr.root (acc.map Tr.leafH)=Tr.rootL acc:=rfl
    rw [hrl] at ho2 ho3 ⊢
    have H32:=Lib.hid (Tr.length_rootL acc)
    generalize Tr.rootL acc=R at *
    have hkn:Blk (w2.alloc (.cells #[.int .i64 0,.int .i64 0] 32)) w2.heap.size 32 #[.int .i64 0,.int .i64 0]:=heap_alloc_new w2 _
    clear hkm2 hkf2 e0 e1 e2 f0 f1 g0 g1 hkm hkf hx0
    go_upto_region 13 with (fail)
    generalize w2.alloc (.cells #[.int .i64 0,.int .i64 0] 32)=w3 at *
    have q0:w3.cell? ⟨w2.heap.size,0,none⟩=some (.int .i64 0):=hkn.cell 0
    have q1:w3.cell? ⟨w.heap.size,1,none⟩=some (.slice Ar m.root.length cr):=hkm3.cell 1
    have q2:w3.cell? ⟨w.heap.size+1,0,none⟩=some (.int .i64 0):=hkf3.cell 0
    have q3:w3.cell? ⟨w.heap.size+1,1,none⟩=some (.int .i64 0):=hkf3.cell 1
    have q4:=hkf3.frozen 0
    have q5:=hkf3.frozen 1
    have hnb:∀ (vs:List Value),Own w3 w.heap.size 22 1 (.slice A3 acc.length c3) acc.length vs->(Value.slice A3 acc.length c3).ownBlock≠some (w.heap.size+1):=fun vs ho=>Own.ne_blk ho hkf3 (by decide)
    have HRL:=Lib.hid hrl
    clear hrl
    go_wp2_with fail
    with_reducible refine (equal_any w3 _ _ _ _ R m.root ho3 hr3).mono ?_
    rintro e w4 ⟨rfl,hw4⟩
    subst hw4
    by_cases hq:R=m.root
    · have hV:=HV2.out.trans (if_pos hq)
      have HV3:=Lib.hid hV
      have HQ:=Lib.hid hq
      have hqB:(R==m.root)=true:=by rw [beq_iff_eq];exact hq
      clear hV hq
      go_wp2_with fail
      obtain ⟨W,hW⟩:∃ z:World,z=((w4.setCell ⟨w.heap.size+1,0,none⟩ (.int .i64 0)).setCell ⟨w.heap.size+1,1,none⟩ (.int .i64 0)):=⟨_,rfl⟩
      rw [<-hW]
      have sB:Blk W (w.heap.size+1) 32 #[.int .i64 0,.int .i64 0]:=by rw [hW];exact hkf3.set2 _ _
      have sX:Below w.heap.size w W:=by rw [hW];exact below_set2 hx3' (by omega) _ _
      have sL:OwnL W w.heap.size (.slice A3 acc.length c3) acc:=by
       obtain ⟨vs,ho,hin⟩:=hown3
       rw [hW]
       exact ⟨vs,Own.set2 ho (Own.ne_blk ho hkf3 (by decide)) _ _,fun i b hb=>by
        obtain ⟨u,hu,hu2⟩:=hin i b hb
        exact ⟨u,hu,Own.set2 hu2 (Own.ne_blk hu2 hkf3 (by decide)) _ _⟩⟩
      have HW:=Lib.hid hW
      clear hW
      have sc0:W.cell? ⟨w.heap.size+1,0,none⟩=some (.int .i64 0):=sB.cell 0
      have sc1:W.cell? ⟨w.heap.size+1,1,none⟩=some (.int .i64 0):=sB.cell 1
      refine bodyPost_ret (v:=.tuple #[.slice A3 acc.length c3,.agg #[.int .i64 0,.int .i64 0]]) (by simp [results,Try.results66,go_sem,sc0,sc1]) rfl ⟨.slice A3 acc.length c3,?_,?_,sX⟩
      · rw [HV3.out];rfl
      · rw [HV3.out];exact sL
    · have hV:=HV2.out.trans (if_neg hq)
      have HV3:=Lib.hid hV
      have hqB:(R==m.root)=false:=by rw [beq_eq_false_iff_ne];exact hq
      clear hV hq
      go_wp2_with fail
      obtain ⟨W,hW⟩:∃ z:World,z=((w4.setCell ⟨w.heap.size+1,0,none⟩ (.int .i64 9)).setCell ⟨w.heap.size+1,1,none⟩ (.int .i64 0)):=⟨_,rfl⟩
      rw [<-hW]
      have sB:Blk W (w.heap.size+1) 32 #[.int .i64 9,.int .i64 0]:=by rw [hW];exact hkf3.set2 _ _
      have sX:Below w.heap.size w W:=by rw [hW];exact below_set2 hx3' (by omega) _ _
      have HW:=Lib.hid hW
      clear hW
      have sc0:W.cell? ⟨w.heap.size+1,0,none⟩=some (.int .i64 9):=sB.cell 0
      have sc1:W.cell? ⟨w.heap.size+1,1,none⟩=some (.int .i64 0):=sB.cell 1
      refine bodyPost_ret (v:=.tuple #[.slice none 0 0,.agg #[.int .i64 9,.int .i64 0]]) (by simp [results,Try.results66,go_sem,sc0,sc1]) rfl ⟨.slice none 0 0,?_,?_,sX⟩
      · rw [HV3.out];rfl
      · rw [HV3.out];exact OwnL.nil_ _ _
theorem verify_any (w:World) (F F':Nat->Prop) (vr vs:Value) (m:Man) (hr:Bytes w F' vr m.root) (hs:RdL w F vs m.segs) :
 Calls Try.prog 66 #[.agg #[.int .i64 m.size,vr,vs]] w (VerPost w (Shf.verC m)):=by
 by_cases hm:Shf.shape m
 · exact verify_in w F F' vr vs m hr hs hm
 · rw [verC_out hm]
   obtain ⟨A,c,hv,_⟩:=hs.form
   subst hv
   exact verify_out w m.size vr A _ c hm
end Go.Proofs.Ytfdibjgmbdkbcaa
