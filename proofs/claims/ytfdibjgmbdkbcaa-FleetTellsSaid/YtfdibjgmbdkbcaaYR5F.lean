/-
  THE WALK of yearref5.Segment. Conditions: what is read is a manifest.
-/
import Derived.Test.YtfdibjgmbdkbcaaYGh
import Derived.Test.YtfdibjgmbdkbcaaYR4D
import Derived.Test.YtfdibjgmbdkbcaaYR5cde
namespace Go.Proofs.Ytfdibjgmbdkbcaa
open Go.RowKit Go.Lib
def RSegPost (w:World) (r:Nat × List Bs) (e:Ending) (w':World):Prop :=
 ∃ v,e = .returned (.tuple #[v,.int .i64 (r.1:Int)])/\OwnQ w' w.heap.size w.heap.size v r.2/\Below w.heap.size w w'
theorem Pk.unpack_le4 (b:Bs):(Pk.unpack b).2.length<=100000:=by
 unfold Pk.unpack
 split
 · simp
 · split
   · simp
   · split
     · simp
     · split
       · split
         · simp only;omega
         · simp
       · simp
set_option maxRecDepth 100000 in
set_option maxHeartbeats 4000000 in
theorem rsegment_unfit (w:World) (size:Int) (vr:Value) (b off c:Nat) (n:Nat) (k:Int) (s:Seg) (A:Option Addr) (c':Nat) (hk0:0<=k) (hkn:k<n) (_hnc:n<=c) (_hcm:c<=maxLen) (hb:b<w.heap.size)
 (q0:w.cell? ⟨b,off+k.toNat * 3,none⟩=some (.int .i64 s.first)) (q1:w.cell? ⟨b,off+k.toNat * 3+1,none⟩=some (.int .i64 s.count)) (q2:w.cell? ⟨b,off+k.toNat * 3+2,none⟩=some (.slice A s.packed.length c'))
 (h:¬ (0<=size/\size<=100/\k<=100/\s.first=k*8/\1<=s.count/\s.count=min 8 (size-s.first))) :
 Calls Try.prog 63 #[.agg #[.int .i64 size,vr,.slice (some ⟨b,off,none⟩) n c],.int .i64 k] w (RSegPost w (7,[])):=by
 unfold maxLen at _hcm
 obtain ⟨j,rfl⟩:∃ j:Nat,k=(j:Int):=⟨k.toNat,by omega⟩
 rw [Int.toNat_natCast] at q0 q1 q2
 have hltB:(j:Int)<(n:Int):=hkn
 have hgeB:decide ((n:Int)<=(j:Int))=false:=decide_eq_false (by omega)
 obtain ⟨first,count,packed⟩:=s
 simp only at q0 q1 q2 h
 have hx0:=(Below.refl w.heap.size w).alloc (Nat.le_refl _) (.cells #[.int .i64 size,vr,.slice (some ⟨b,off,none⟩) n c] 77)
 have p0:=(hx0.cell (p:=⟨b,off+j*3,none⟩) hb).trans q0
 have p1:=(hx0.cell (p:=⟨b,off+j*3+1,none⟩) hb).trans q1
 have p2:=(hx0.cell (p:=⟨b,off+j*3+2,none⟩) hb).trans q2
 have hk1:Blk (w.alloc (.cells #[.int .i64 size,vr,.slice (some ⟨b,off,none⟩) n c] 77)) w.heap.size 77 #[.int .i64 size,vr,.slice (some ⟨b,off,none⟩) n c]:=heap_alloc_new w _
 have hsz:(w.alloc (.cells #[.int .i64 size,vr,.slice (some ⟨b,off,none⟩) n c] 77)).heap.size=w.heap.size+1:=by simp
 go_enter Try.func63,Try.ntmps63
 go_wp2_with fail
 all_goals first
  | (exfalso
     refine h ⟨?_,?_,?_,?_,?_,?_⟩<;>first | assumption | omega | (simp_all<;>omega))
  | (go_ret2
     exact ⟨_,rfl,OwnQ.nil_ _ _ _,(Below.refl _ _).alloc (Nat.le_refl _) _ |>.alloc (by simp) _⟩)
set_option maxRecDepth 100000 in
set_option maxHeartbeats 4000000 in
theorem rsegment_out (w:World) (size:Int) (vr:Value) (A:Option Addr) (n c:Nat) (k:Int) (h:¬ (0<=k/\k<n)) :
 Calls Try.prog 63 #[.agg #[.int .i64 size,vr,.slice A n c],.int .i64 k] w (RSegPost w (6,[])):=by
 by_cases h0:k<0
 · go_enter Try.func63,Try.ntmps63
   go_wp2_with fail
   go_ret2
   exact ⟨_,rfl,OwnQ.nil_ _ _ _,(Below.refl _ _).alloc (Nat.le_refl _) _⟩
 · have b0:decide (k<0)=false:=decide_eq_false h0
   have b1:(n:Int)<=k:=by omega
   go_enter Try.func63,Try.ntmps63
   go_wp2_with fail
   go_ret2
   exact ⟨_,rfl,OwnQ.nil_ _ _ _,(Below.refl _ _).alloc (Nat.le_refl _) _⟩
set_option maxRecDepth 100000 in
set_option maxHeartbeats 4000000 in
theorem rsegment_fit (w:World) (F:Nat->Prop) (size:Int) (vr:Value) (b off c:Nat) (n:Nat) (j:Nat) (cnt:Nat) (packed:Bs) (A:Option Addr) (c':Nat) (hkn:(j:Int)<n) (_hnc:n<=c) (_hcm:c<=maxLen) (hb:b<w.heap.size)
 (q0:w.cell? ⟨b,off+j*3,none⟩=some (.int .i64 ((j:Int)*8))) (q1:w.cell? ⟨b,off+j*3+1,none⟩=some (.int .i64 (cnt:Int))) (q2:w.cell? ⟨b,off+j*3+2,none⟩=some (.slice A packed.length c'))
 (hp:Bytes w F (.slice A packed.length c') packed)
 (h0:0<=size) (h1:size<=100) (h2:(j:Int)<=100) (h3:(1:Int)<=(cnt:Int)) (h4:(cnt:Int)=min 8 (size-(j:Int)*8)) :
 Calls Try.prog 63 #[.agg #[.int .i64 size,vr,.slice (some ⟨b,off,none⟩) n c],.int .i64 (j:Int)] w (RSegPost w (Shf.openC ⟨(j:Int)*8,cnt,packed⟩)):=by
 unfold maxLen at _hcm
 have hgeB:decide ((n:Int)<=(j:Int))=false:=decide_eq_false (by omega)
 have d0:decide (size<0)=false:=decide_eq_false (by omega)
 have d1:decide (100<size)=false:=decide_eq_false (by omega)
 have d2:decide (100<(j:Int))=false:=decide_eq_false (by omega)
 have d3:decide ((cnt:Int)<1)=false:=decide_eq_false (by omega)
 have d4:decide (8<(cnt:Int))=false:=decide_eq_false (by omega)
 have d5:decide (size<8*(j:Int)+(cnt:Int))=false:=decide_eq_false (by omega)
 have d6:((cnt:Int)<8/\(8*(j:Int)+(cnt:Int) != size)=false)\/decide ((cnt:Int)<8)=false:=by
  by_cases h:(cnt:Int)<8
  · exact .inl ⟨h,by rw [bne_eq_false_iff_eq];omega⟩
  · exact .inr (decide_eq_false h)
 have hcm8:(j:Int)*8=8*(j:Int):=by omega
 rw [hcm8] at q0 h4 ⊢
 clear hcm8
 have hcnt:cnt<=8:=by omega
 have H4:=Lib.hid h4
 clear h4
 have hx0:=(Below.refl w.heap.size w).alloc (Nat.le_refl _) (.cells #[.int .i64 size,vr,.slice (some ⟨b,off,none⟩) n c] 77)
 have p0:=(hx0.cell (p:=⟨b,off+j*3,none⟩) hb).trans q0
 have p1:=(hx0.cell (p:=⟨b,off+j*3+1,none⟩) hb).trans q1
 have p2:=(hx0.cell (p:=⟨b,off+j*3+2,none⟩) hb).trans q2
 have hx1:=hx0.alloc hx0.size (.cells #[.int .i64 (8*(j:Int)),.int .i64 (cnt:Int),.slice A packed.length c'] 152)
 have hk1:Blk ((w.alloc (.cells #[.int .i64 size,vr,.slice (some ⟨b,off,none⟩) n c] 77)).alloc (.cells #[.int .i64 (8*(j:Int)),.int .i64 (cnt:Int),.slice A packed.length c'] 152)) (w.heap.size+1) 152 #[.int .i64 (8*(j:Int)),.int .i64 (cnt:Int),.slice A packed.length c']:=by
  have:=heap_alloc_new (w.alloc (.cells #[.int .i64 size,vr,.slice (some ⟨b,off,none⟩) n c] 77)) (.cells #[.int .i64 (8*(j:Int)),.int .i64 (cnt:Int),.slice A packed.length c'] 152)
  rw [World.size_alloc] at this
  exact this
 have hp1:=hp.below hx1
 obtain ⟨e1,b1,he⟩:∃ e1 b1,Pk.unpack packed=(e1,b1):=⟨_,_,rfl⟩
 have HO:=Lib.hid (openC_eq (s:=⟨8*(j:Int),cnt,packed⟩) he)
 have HE:=Lib.hid he
 clear he
 rcases d6 with ⟨d6,d7⟩ | d6
 all_goals
  go_enter Try.func63,Try.ntmps63
  go_wp2_with fail
  generalize ((w.alloc (.cells #[.int .i64 size,vr,.slice (some ⟨b,off,none⟩) n c] 77)).alloc (.cells #[.int .i64 (8*(j:Int)),.int .i64 (cnt:Int),.slice A packed.length c'] 152))=w1 at *
  refine (runpack_any w1 _ _ packed hp1).mono ?_
  unfold UnpackPost
  rw [HE.out]
  rintro e w2 ⟨v2,rfl,ho2,hx2⟩
  have hk2:=hk1.below hx2 hk1.lt
  have hx3:=hx1.trans (hx2.mono hx1.size)
  obtain ⟨A2,c2,hv2,_,_⟩:=Own.shape ho2
  subst hv2
  simp only at ho2
  have r0:w2.cell? ⟨w.heap.size+1,1,none⟩=some (.int .i64 (cnt:Int)):=hk2.cell 1
  by_cases he0:e1=0
  · subst he0
    have HO2:=Lib.hid (HO.out.trans (if_pos rfl))
    go_wp2_with fail
    refine (rtake_any w2 w.heap.size _ b1 (PcB.mono (PcB.of_own ho2) hx1.size) (by have:=Pk.unpack_le4 packed;rw [HE.out] at this;exact this) cnt (by omega)).mono ?_
    unfold RTakePost
    rintro e w4 ⟨v4,rfl,ho4,hx4⟩
    have hx5:=hx3.trans (hx4.mono hx3.size)
    have hOC:=HO2.out
    rw [show (Int.toNat ((⟨8*(j:Int),cnt,packed⟩:Seg).count))=cnt from Int.toNat_natCast cnt] at hOC
    cases ht:Shf.taken b1 cnt with
    | some l =>
      rw [ht] at hOC ho4
      have HOC:=Lib.hid hOC
      have HT:=Lib.hid ht
      have hL:=ho4 l rfl
      clear hOC ht ho4
      go_wp2_with fail
      go_ret2
      rw [HOC.out]
      exact ⟨_,rfl,hL.mono hx3.size (Nat.le_refl _),hx5⟩
    | none =>
      rw [ht] at hOC
      have HOC:=Lib.hid hOC
      have HT:=Lib.hid ht
      clear hOC ht ho4
      go_wp2_with fail
      go_ret2
      rw [HOC.out]
      exact ⟨_,rfl,OwnQ.nil_ _ _ _,hx5⟩
  · have HO2:=Lib.hid (HO.out.trans (if_neg he0))
    have heB:((e1:Int) != 0)=true:=by simp;omega
    have HE0:=Lib.hid he0
    clear he0
    go_wp2_with fail
    go_ret2
    rw [HO2.out]
    exact ⟨_,rfl,OwnQ.nil_ _ _ _,hx3⟩
theorem rsegment_any (w:World) (F:Nat->Prop) (vr vs:Value) (m:Man) (k:Int) (hs:RdL w F vs m.segs) :
 Calls Try.prog 63 #[.agg #[.int .i64 m.size,vr,vs],.int .i64 k] w (RSegPost w (Shf.segC m k)):=by
 obtain ⟨A,c,hv,hnc,hcm⟩:=hs.form
 by_cases hk:0<=k/\k<(m.segs.length:Nat)
 · obtain ⟨j,rfl⟩:∃ j:Nat,k=(j:Int):=⟨k.toNat,by omega⟩
   have hj:j<m.segs.length:=by omega
   obtain ⟨b,off,c,A',k',hv',_,hb,q0,q1,q2,hp⟩:=seg_at hs hj
   rw [hv] at hv'
   injection hv' with e1 _ e3
   subst e1 e3
   rw [hv]
   have hg:m.segs[(j:Int).toNat]? = some m.segs[j]:=by rw [Int.toNat_natCast];exact List.getElem?_eq_getElem hj
   generalize m.segs[j]=s at *
   by_cases hf:Shf.fits m (j:Int) s
   · rw [segC_fit hk.1 hg hf]
     obtain ⟨f0,f1,f2,f3,f4,f5⟩:=hf
     obtain ⟨first,count,packed⟩:=s
     simp only at f3 f4 f5 q0 q1 q2 hp
     obtain ⟨cnt,rfl⟩:∃ cnt:Nat,count=(cnt:Int):=⟨count.toNat,by omega⟩
     subst f3
     exact rsegment_fit w F m.size vr b off _ m.segs.length j cnt packed A' k' hk.2 hnc hcm hb q0 q1 q2 hp f0 f1 f2 f4 f5
   · rw [segC_unfit hk.1 hg hf]
     exact rsegment_unfit w m.size vr b off _ m.segs.length j s A' k' hk.1 hk.2 hnc hcm hb (by rw [Int.toNat_natCast];exact q0) (by rw [Int.toNat_natCast];exact q1) (by rw [Int.toNat_natCast];exact q2) hf
 · rw [segC_out hk,hv]
   exact rsegment_out w m.size vr A _ c k hk
end Go.Proofs.Ytfdibjgmbdkbcaa
