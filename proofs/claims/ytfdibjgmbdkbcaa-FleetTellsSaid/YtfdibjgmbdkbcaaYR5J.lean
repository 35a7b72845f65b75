/-
  THE WALK of yearref5.Export, of a log that is right. Conditions: what is read is a list of texts.
-/
import Derived.Test.YtfdibjgmbdkbcaaYGh
import Derived.Test.YtfdibjgmbdkbcaaYGi
import Derived.Test.YtfdibjgmbdkbcaaYR2B
import Derived.Test.YtfdibjgmbdkbcaaYR5F
import Derived.Test.YtfdibjgmbdkbcaaYR4C
namespace Go.Proofs.Ytfdibjgmbdkbcaa
open Go.RowKit Go.Lib
theorem part_list {w:World} {F:Nat->Prop} {q off c:Nat} {l:List Bs} (h:BList w F (.slice (some ⟨q,off,none⟩) l.length c) l) (x p n:Nat) (hp:p=8*x) (hpl:p<=l.length) (hn:n=(Shf.part l x).length):BList w F (.slice (some ⟨q,off+p,none⟩) n (c-p)) (Shf.part l x):=by
 have h1:=BList.rest h p hpl
 have h2:BList w F (.slice (some ⟨q,off+p,none⟩) (l.drop p).length (c-p)) (l.drop p):=by rw [List.length_drop];exact h1
 have h3:=BList.first h2 n (by rw [hn,Shf.part_len,List.length_drop];omega)
 have e:(l.drop p).take n=Shf.part l x:=by
  rw [hn,Shf.part_len,hp]
  unfold Shf.part
  rw [<-List.length_drop,<-List.length_take (i:=8),]
  simp
 rw [e] at h3
 exact h3
set_option maxRecDepth 100000 in
set_option maxHeartbeats 8000000 in
theorem rexport_fine (w:World) (G:Nat->Prop) (v:Value) (l:List Bs) (hl:BList w G v l) (hf:Fine l) :
 Calls Try.prog 60 #[v] w fun e w'=>∃ vr vs,e = .returned (.tuple #[.agg #[.int .i64 (l.length:Int),vr,vs],.agg #[.int .i64 0,.int .i64 0]])/\OwnB w' w.heap.size vr (Tr.rootL l)/\OwnSegs w' w.heap.size vs (Shf.segsOf l)/\Below w.heap.size w w':=by
 obtain ⟨i0,hi,hz0,hz1,hz2⟩:=info_parts info_seg
 obtain ⟨A,c,hv,hac,hcm,hAA⟩:=hl.shape
 subst hv
 unfold maxLen at hcm
 have hn100:=hf.1
 have hsh:=hf.short
 have hx0:=((Below.refl w.heap.size w).alloc (Nat.le_refl _) (.cells #[.int .i64 0,.slice none 0 0,.slice none 0 0] 77)).alloc (by simp) (.cells #[.int .i64 0,.int .i64 0] 32)
 have hbM:Blk ((w.alloc (.cells #[.int .i64 0,.slice none 0 0,.slice none 0 0] 77)).alloc (.cells #[.int .i64 0,.int .i64 0] 32)) w.heap.size 77 #[.int .i64 0,.slice none 0 0,.slice none 0 0]:=Blk.alloc (heap_alloc_new w _) _
 have hbF:Blk ((w.alloc (.cells #[.int .i64 0,.slice none 0 0,.slice none 0 0] 77)).alloc (.cells #[.int .i64 0,.int .i64 0] 32)) (w.heap.size+1) 32 #[.int .i64 0,.int .i64 0]:=by
  have:=heap_alloc_new (w.alloc (.cells #[.int .i64 0,.slice none 0 0,.slice none 0 0] 77)) (.cells #[.int .i64 0,.int .i64 0] 32)
  rw [World.size_alloc] at this
  exact this
 have hl0:=hl.below hx0
 have HF:=Lib.hid hf
 clear hf
 go_enter Try.func60,Try.ntmps60
 go_wp2_with fail
 generalize hW0:((w.alloc (.cells #[.int .i64 0,.slice none 0 0,.slice none 0 0] 77)).alloc (.cells #[.int .i64 0,.int .i64 0] 32))=w0 at *
 clear hW0
 refine (rwrong_any w0 _ _ l hl0).mono ?_
 rw [wrongS_zero l ((wrongS_ok l).2 HF.out)]
 unfold fv
 rintro e w1 ⟨rfl,hx1⟩
 have hx2:=hx0.trans (hx1.mono hx0.size)
 have hx3:=hx2.alloc hx2.size (.cells #[.int .i64 0,.int .i64 0] 32)
 have hM3:=(hbM.below hx1 hbM.lt).alloc (.cells #[.int .i64 0,.int .i64 0] 32)
 have hF3:=(hbF.below hx1 hbF.lt).alloc (.cells #[.int .i64 0,.int .i64 0] 32)
 have hg3:Blk (w1.alloc (.cells #[.int .i64 0,.int .i64 0] 32)) w1.heap.size 32 #[.int .i64 0,.int .i64 0]:=heap_alloc_new w1 _
 clear hx0 hx1 hx2 hbM hbF hl0
 try dsimp only
 go_upto_region 2 with (fail)
 generalize w1.alloc (.cells #[.int .i64 0,.int .i64 0] 32)=w3 at *
 generalize w1.heap.size=g at *
 have g0:w3.cell? ⟨g,0,none⟩=some (.int .i64 0):=hg3.cell 0
 go_wp2_with fail
 refine (root_ref l.length w3 _ _ l (hl.below hx3) rfl (by omega) hsh).mono ?_
 obtain ⟨R,hR⟩:∃ R,Tr.rootL l=R:=⟨_,rfl⟩
 have hR2:Tr.root (l.map Tr.leafH)=R:=hR
 rw [hR2]
 have HR:=Lib.hid hR
 rintro e w4 ⟨rv,rfl,ho4,hx4⟩
 obtain ⟨Ar,cr,hrv,_,_⟩:=Own.shape ho4
 subst hrv
 have hM4:=(hM3.below hx4 hM3.lt).alloc (.cells #[.int .i64 (l.length:Int),.slice Ar R.length cr,.slice none 0 0] 77)
 have hF4:=(hF3.below hx4 hF3.lt).alloc (.cells #[.int .i64 (l.length:Int),.slice Ar R.length cr,.slice none 0 0] 77)
 have hx5':=hx3.trans (hx4.mono hx3.size)
 have hx5:=hx5'.alloc hx5'.size (.cells #[.int .i64 (l.length:Int),.slice Ar R.length cr,.slice none 0 0] 77)
 have ho5:=OwnB.alloc (OwnB.mono ho4 hx3.size) (.cells #[.int .i64 (l.length:Int),.slice Ar R.length cr,.slice none 0 0] 77)
 have hB5:Blk (w4.alloc (.cells #[.int .i64 (l.length:Int),.slice Ar R.length cr,.slice none 0 0] 77)) w4.heap.size 77 #[.int .i64 (l.length:Int),.slice Ar R.length cr,.slice none 0 0]:=heap_alloc_new w4 _
 have hBw:w.heap.size+1<w4.heap.size:=(hF3.below hx4 hF3.lt).lt
 clear hM3 hF3 hg3 g0 hx3 hx4 ho4 hx5' hR hR2
 go_wp2_with fail
 generalize w4.alloc (.cells #[.int .i64 (l.length:Int),.slice Ar R.length cr,.slice none 0 0] 77)=w5 at *
 generalize w4.heap.size=g5 at *
 obtain ⟨B,hB⟩:∃ B,B=w5.heap.size:=⟨_,rfl⟩
 have hgB:g5<B:=by rw [hB];exact hB5.lt
 have hBS:=Lib.hid hB
 clear hB
 go_loopg [6] (Shf.nsegs l.length) (fun k i wr=>∃ (x p:Nat) (vs:Value) (segs:List Seg),x+k=Shf.nsegs l.length/\i = .int .i64 (p:Int)/\Hid (p=8*x)/\Hid (segs=(List.range x).map (Shf.segOf l))/\Blk wr g5 77 #[.int .i64 (l.length:Int),.slice Ar R.length cr,vs]/\OwnSegs wr B vs segs/\OwnB wr w.heap.size (.slice Ar R.length cr) R/\Blk wr w.heap.size 77 #[.int .i64 0,.slice none 0 0,.slice none 0 0]/\Blk wr (w.heap.size+1) 32 #[.int .i64 0,.int .i64 0]/\Below w.heap.size w wr/\B<=wr.heap.size)
 case atStart=>exact ⟨0,0,_,[],by omega,rfl,Lib.hid rfl,Lib.hid rfl,hB5,OwnSegs.nil_ _ _,ho5,hM4,hF4,hx5,by rw [hBS.out];exact Nat.le_refl _⟩
 case round =>
  clear hB5 ho5 hM4 hF4 hx5
  obtain ⟨x,p,vs,segs,hxk,rfl,HP,HSG,hB,hS,hO,hM,hF,hx,hBs⟩:=hrel
  obtain ⟨As,cs,hvs,hlcs,hcms⟩:=hS.shape
  subst hvs
  have hns:Shf.nsegs l.length=(l.length+7) / 8:=rfl
  have hsl:segs.length=x:=by rw [HSG.out];simp
  by_cases hlt:x<Shf.nsegs l.length
  · have hp:=HP.out
    have hpl:p<l.length:=by omega
    have hsl13:segs.length<=13:=by omega
    have hpB:(p:Int)<(l.length:Int):=by omega
    have hl100:(l.length:Int)<=100:=by omega
    obtain ⟨q,off,hA1⟩:∃ q off,A=some ⟨q,off,none⟩:=by
     obtain ⟨b,o,h,_⟩:=hAA (by omega)
     exact ⟨b,o,h⟩
    subst hA1
    have hpf:=Shf.part_fine HF.out x
    have hpf2:=hpf.2
    have hll:=Shf.lay_part_len HF.out x
    have hpn:(Shf.part l x).length=min 8 (l.length-p):=by rw [Shf.part_len,<-hp]
    have HPL:Hid (∀ n,n=(Shf.part l x).length->BList wr G (.slice (some ⟨q,off+p,none⟩) n (c-p)) (Shf.part l x)):=Lib.hid (fun n hn=>part_list (hl.below hx) x p n hp (by omega) hn)
    have hsn:segs++[⟨((p:Nat):Int),(((Shf.part l x).length:Nat):Int),Pk.pack (Shf.lay (Shf.part l x))⟩]=(List.range (x+1)).map (Shf.segOf l):=by
     rw [List.range_succ,List.map_append,<-HSG.out]
     congr 1
     simp only [List.map_cons,List.map_nil,Shf.segOf,hp]
    have hc0:((c:Int)==(p:Int))=false:=by rw [beq_eq_false_iff_ne];omega
    have hc1:¬ c=p:=by omega
    have hc2:(l.length:Int)<=(c:Int):=by omega
    have hc3:(p:Int)<=(c:Int):=by omega
    generalize hPP:Shf.part l x=P at *
    have HSN:=Lib.hid hsn
    have HPN:=Lib.hid hpn
    have hP8:P.length<=8:=hpf.1
    have hg1:w.heap.size≠g5:=by omega
    clear hPP hsn hpn hpf hp hns hsl
    by_cases hcut:l.length<p+8
    · skip
      have hcB:(l.length:Int)<(p:Int)+8:=by omega
      have hc4:(p:Int)<=(l.length:Int):=by omega
      clear hcut
      have hgl:BList wr G (.slice (some ⟨q,off+p,none⟩) (l.length-p) (c-p)) P:=HPL.out _ (by have:=HPN.out;omega)
      go_wp2_with fail
      with_reducible refine (rlay_any wr G _ P hgl (by omega) hpf2).mono ?_
      rintro e w2 ⟨v2,rfl,ho2,hx2⟩
      obtain ⟨A2,c2,hv2,_,_⟩:=Own.shape ho2
      subst hv2
      go_wp2_with fail
      with_reducible refine (rpack_any w2 _ _ (Shf.lay P) (OwnB.bytes ho2) (by omega)).mono ?_
      rintro e w3 ⟨v3,rfl,ho3,hx3⟩
      obtain ⟨A4,c4,hv4,_,_⟩:=Own.shape ho3
      subst hv4
      have hxa:=hx2.trans (hx3.mono hx2.size)
      have hxw:=hx.trans (hxa.mono hx.size)
      have hB3:=hB.below hxa hB.lt
      have hM3:=hM.below hxa hM.lt
      have hF3:=hF.below hxa hF.lt
      have hO3:=OwnB.below hO hxa
      obtain ⟨us,u1,u2,u3,u4⟩:=hS
      have hnew:∀ a ∈ us,∀ k,a.ownBlock=some k->(Value.slice A4 (Pk.pack (Shf.lay P)).length c4).ownBlock≠some k:=fun a ha k hk he=>by
       obtain ⟨i,hi,hia⟩:=List.getElem_of_mem ha
       have h1:=(Own.lt (u3 i segs[i] us[i] (List.getElem?_eq_getElem (by omega)) (List.getElem?_eq_getElem hi)) k (by rw [hia];exact hk)).2
       have h2:=(Own.lt ho3 k he).1
       have:=hx2.size
       omega
      have hown3:=u2.below hxa
      have hin3:∀ (i:Nat) (s:Seg) (u:Value),segs[i]? = some s->us[i]? = some u->OwnB w3 B u s.packed:=fun i s u hs hu=>Own.below (u3 i s u hs hu) hxa
      have ho3':=OwnB.mono ho3 (B':=B) (by have:=hx2.size;have:=hBs;omega)
      have hsrc:=SlAt.new3 w3 152 (.int .i64 (p:Int)) (.int .i64 ((l.length:Int)-(p:Int))) (.slice A4 (Pk.pack (Shf.lay P)).length c4)
      have hownA:=hown3.alloc (.cells #[.int .i64 (p:Int),.int .i64 ((l.length:Int)-(p:Int)),.slice A4 (Pk.pack (Shf.lay P)).length c4] 152)
      have hxA:=hxw.alloc hxw.size (.cells #[.int .i64 (p:Int),.int .i64 ((l.length:Int)-(p:Int)),.slice A4 (Pk.pack (Shf.lay P)).length c4] 152)
      have hBA:=hB3.alloc (.cells #[.int .i64 (p:Int),.int .i64 ((l.length:Int)-(p:Int)),.slice A4 (Pk.pack (Shf.lay P)).length c4] 152)
      have hMA:=hM3.alloc (.cells #[.int .i64 (p:Int),.int .i64 ((l.length:Int)-(p:Int)),.slice A4 (Pk.pack (Shf.lay P)).length c4] 152)
      have hFA:=hF3.alloc (.cells #[.int .i64 (p:Int),.int .i64 ((l.length:Int)-(p:Int)),.slice A4 (Pk.pack (Shf.lay P)).length c4] 152)
      have hOA:=OwnB.alloc hO3 (.cells #[.int .i64 (p:Int),.int .i64 ((l.length:Int)-(p:Int)),.slice A4 (Pk.pack (Shf.lay P)).length c4] 152)
      have m2:w3.cell? ⟨g5,2,none⟩=some (.slice As segs.length cs):=hB3.cell 2
      go_wp2_with (at_builtin
                   refine wpList_append_Own _ (by rfl) (.tmp 47) (.tmp 54) 75 (by rfl) B 152 i0 _ 3 40 Try.underlying75 hi hz0 hz1 hz2 (by rfl) (by omega) (.slice As segs.length cs) segs.length (flatS segs us) (by rfl) hownA _ _ _ _ (by rfl) hsrc (by simp [Value.oneCell']) (by simp only [maxLen];omega) (by omega) (by have:=hxa.size;have:=hBs;simp;omega) ?_
                   intro v5 w5 hown5 hgr5 hat5
                   obtain ⟨A5,c5,hv5,hlc5,hcm5⟩:=Own.shape hown5
                   subst hv5
                   have hB5:=hBA.keep (hgr5.block _ hBA.lt (fun e=>Own.ne_blk hownA hBA (by decide) e.symm))
                   have hM5:=hMA.keep (hgr5.block _ hMA.lt (fun e=>Own.ne_blk hownA hMA (by decide) e.symm))
                   have hF5:=hFA.keep (hgr5.block _ hFA.lt (fun e=>Own.ne_blk hownA hFA (by decide) e.symm))
                   have d1:=hB5.frozen 2
                   have d2:w5.cell? ⟨g5,2,none⟩=some (.slice As segs.length cs):=hB5.cell 2)
      have hcnt:((l.length:Int)-(p:Int))=((P.length:Nat):Int):=by have:=HPN.out;omega
      have hO5:OwnB w5 w.heap.size (.slice Ar R.length cr) R:=Own.keep hOA fun k hk hlt _=>hgr5.block k hlt (fun e=>Own.apart hOA hownA (by decide) k hk e.symm)
      have hx5:Below w.heap.size w w5:=hxA.grown hgr5 hxA.size (fun k hk=>by have:=(Own.lt hownA k hk).1;have:=hBw;omega)
      have hS5:OwnSegs w5 B (.slice A5 (segs.length+1) c5) (segs++[⟨(p:Int),((P.length:Nat):Int),Pk.pack (Shf.lay P)⟩]):=by
       rw [hcnt] at hown5
       exact OwnSegs.snoc (w:=w3.alloc _) u1 hownA (fun i s u hs hu=>Own.alloc (hin3 i s u hs hu) _) u4 (Own.alloc ho3' _) hnew hgr5 hown5
      have hS6:=hS5.setCell hB5 (by decide) (by decide) 2 (.slice A5 (segs.length+1) c5)
      have hB6:=hB5.set_ 2 (.slice A5 (segs.length+1) c5)
      have hM6:=hM5.far (p:=⟨g5,2,none⟩) (by show w.heap.size≠g5;omega) (.slice A5 (segs.length+1) c5)
      have hF6:=hF5.far (p:=⟨g5,2,none⟩) (by show w.heap.size+1≠g5;omega) (.slice A5 (segs.length+1) c5)
      have hO6:=Own.setCell (p:=⟨g5,2,none⟩) hO5 (Own.ne_blk hO5 hB5 (by decide)) (.slice A5 (segs.length+1) c5)
      have hx6:=hx5.setCell (p:=⟨g5,2,none⟩) (by show w.heap.size<=g5;omega) (.slice A5 (segs.length+1) c5)
      go_roundg (gk-1)
      case measure=>omega
      case rel=>exact ⟨x+1,p+8,_,_,by omega,by go_num,Lib.hid (by rw [HP.out];omega),Lib.hid (HSN.out),hB6,hS6,hO6,hM6,hF6,hx6,by have:=hgr5.size;have:=hxa.size;simp at *;omega⟩
    · skip
      have hcB:decide ((l.length:Int)<(p:Int)+8)=false:=decide_eq_false (by omega)
      have hc4:(p:Int)<=(p:Int)+8:=by omega
      have hc5:(p:Int)+8<=(c:Int):=by omega
      have hgl:BList wr G (.slice (some ⟨q,off+p,none⟩) 8 (c-p)) P:=HPL.out _ (by have:=HPN.out;omega)
      go_wp2_with fail
      with_reducible refine (rlay_any wr G _ P hgl (by omega) hpf2).mono ?_
      rintro e w2 ⟨v2,rfl,ho2,hx2⟩
      obtain ⟨A2,c2,hv2,_,_⟩:=Own.shape ho2
      subst hv2
      go_wp2_with fail
      with_reducible refine (rpack_any w2 _ _ (Shf.lay P) (OwnB.bytes ho2) (by omega)).mono ?_
      rintro e w3 ⟨v3,rfl,ho3,hx3⟩
      obtain ⟨A4,c4,hv4,_,_⟩:=Own.shape ho3
      subst hv4
      have hxa:=hx2.trans (hx3.mono hx2.size)
      have hxw:=hx.trans (hxa.mono hx.size)
      have hB3:=hB.below hxa hB.lt
      have hM3:=hM.below hxa hM.lt
      have hF3:=hF.below hxa hF.lt
      have hO3:=OwnB.below hO hxa
      obtain ⟨us,u1,u2,u3,u4⟩:=hS
      have hnew:∀ a ∈ us,∀ k,a.ownBlock=some k->(Value.slice A4 (Pk.pack (Shf.lay P)).length c4).ownBlock≠some k:=fun a ha k hk he=>by
       obtain ⟨i,hi,hia⟩:=List.getElem_of_mem ha
       have h1:=(Own.lt (u3 i segs[i] us[i] (List.getElem?_eq_getElem (by omega)) (List.getElem?_eq_getElem hi)) k (by rw [hia];exact hk)).2
       have h2:=(Own.lt ho3 k he).1
       have:=hx2.size
       omega
      have hown3:=u2.below hxa
      have hin3:∀ (i:Nat) (s:Seg) (u:Value),segs[i]? = some s->us[i]? = some u->OwnB w3 B u s.packed:=fun i s u hs hu=>Own.below (u3 i s u hs hu) hxa
      have ho3':=OwnB.mono ho3 (B':=B) (by have:=hx2.size;have:=hBs;omega)
      have hsrc:=SlAt.new3 w3 152 (.int .i64 (p:Int)) (.int .i64 ((p:Int)+8-(p:Int))) (.slice A4 (Pk.pack (Shf.lay P)).length c4)
      have hownA:=hown3.alloc (.cells #[.int .i64 (p:Int),.int .i64 ((p:Int)+8-(p:Int)),.slice A4 (Pk.pack (Shf.lay P)).length c4] 152)
      have hxA:=hxw.alloc hxw.size (.cells #[.int .i64 (p:Int),.int .i64 ((p:Int)+8-(p:Int)),.slice A4 (Pk.pack (Shf.lay P)).length c4] 152)
      have hBA:=hB3.alloc (.cells #[.int .i64 (p:Int),.int .i64 ((p:Int)+8-(p:Int)),.slice A4 (Pk.pack (Shf.lay P)).length c4] 152)
      have hMA:=hM3.alloc (.cells #[.int .i64 (p:Int),.int .i64 ((p:Int)+8-(p:Int)),.slice A4 (Pk.pack (Shf.lay P)).length c4] 152)
      have hFA:=hF3.alloc (.cells #[.int .i64 (p:Int),.int .i64 ((p:Int)+8-(p:Int)),.slice A4 (Pk.pack (Shf.lay P)).length c4] 152)
      have hOA:=OwnB.alloc hO3 (.cells #[.int .i64 (p:Int),.int .i64 ((p:Int)+8-(p:Int)),.slice A4 (Pk.pack (Shf.lay P)).length c4] 152)
      have m2:w3.cell? ⟨g5,2,none⟩=some (.slice As segs.length cs):=hB3.cell 2
      go_wp2_with (at_builtin
                   refine wpList_append_Own _ (by rfl) (.tmp 47) (.tmp 54) 75 (by rfl) B 152 i0 _ 3 40 Try.underlying75 hi hz0 hz1 hz2 (by rfl) (by omega) (.slice As segs.length cs) segs.length (flatS segs us) (by rfl) hownA _ _ _ _ (by rfl) hsrc (by simp [Value.oneCell']) (by simp only [maxLen];omega) (by omega) (by have:=hxa.size;have:=hBs;simp;omega) ?_
                   intro v5 w5 hown5 hgr5 hat5
                   obtain ⟨A5,c5,hv5,hlc5,hcm5⟩:=Own.shape hown5
                   subst hv5
                   have hB5:=hBA.keep (hgr5.block _ hBA.lt (fun e=>Own.ne_blk hownA hBA (by decide) e.symm))
                   have hM5:=hMA.keep (hgr5.block _ hMA.lt (fun e=>Own.ne_blk hownA hMA (by decide) e.symm))
                   have hF5:=hFA.keep (hgr5.block _ hFA.lt (fun e=>Own.ne_blk hownA hFA (by decide) e.symm))
                   have d1:=hB5.frozen 2
                   have d2:w5.cell? ⟨g5,2,none⟩=some (.slice As segs.length cs):=hB5.cell 2)
      have hcnt:((p:Int)+8-(p:Int))=((P.length:Nat):Int):=by have:=HPN.out;omega
      have hO5:OwnB w5 w.heap.size (.slice Ar R.length cr) R:=Own.keep hOA fun k hk hlt _=>hgr5.block k hlt (fun e=>Own.apart hOA hownA (by decide) k hk e.symm)
      have hx5:Below w.heap.size w w5:=hxA.grown hgr5 hxA.size (fun k hk=>by have:=(Own.lt hownA k hk).1;have:=hBw;omega)
      have hS5:OwnSegs w5 B (.slice A5 (segs.length+1) c5) (segs++[⟨(p:Int),((P.length:Nat):Int),Pk.pack (Shf.lay P)⟩]):=by
       rw [hcnt] at hown5
       exact OwnSegs.snoc (w:=w3.alloc _) u1 hownA (fun i s u hs hu=>Own.alloc (hin3 i s u hs hu) _) u4 (Own.alloc ho3' _) hnew hgr5 hown5
      have hS6:=hS5.setCell hB5 (by decide) (by decide) 2 (.slice A5 (segs.length+1) c5)
      have hB6:=hB5.set_ 2 (.slice A5 (segs.length+1) c5)
      have hM6:=hM5.far (p:=⟨g5,2,none⟩) (by show w.heap.size≠g5;omega) (.slice A5 (segs.length+1) c5)
      have hF6:=hF5.far (p:=⟨g5,2,none⟩) (by show w.heap.size+1≠g5;omega) (.slice A5 (segs.length+1) c5)
      have hO6:=Own.setCell (p:=⟨g5,2,none⟩) hO5 (Own.ne_blk hO5 hB5 (by decide)) (.slice A5 (segs.length+1) c5)
      have hx6:=hx5.setCell (p:=⟨g5,2,none⟩) (by show w.heap.size<=g5;omega) (.slice A5 (segs.length+1) c5)
      go_roundg (gk-1)
      case measure=>omega
      case rel=>exact ⟨x+1,p+8,_,_,by omega,by go_num,Lib.hid (by rw [HP.out];omega),Lib.hid (HSN.out),hB6,hS6,hO6,hM6,hF6,hx6,by have:=hgr5.size;have:=hxa.size;simp at *;omega⟩
  · have hlp:¬ (p<l.length):=by have:=HP.out;omega
    have hpB:decide (p<l.length)=false:=decide_eq_false hlp
    have hse:segs=Shf.segsOf l:=by rw [HSG.out];unfold Shf.segsOf;rw [show x=Shf.nsegs l.length by omega]
    have HSE:=Lib.hid hse
    clear hse hsl hns hlp
    have b0:wr.cell? ⟨g5,0,none⟩=some (.int .i64 (l.length:Int)):=hB.cell 0
    have b1:wr.cell? ⟨g5,1,none⟩=some (.slice Ar R.length cr):=hB.cell 1
    have b2:wr.cell? ⟨g5,2,none⟩=some (.slice As segs.length cs):=hB.cell 2
    have m0:wr.cell? ⟨w.heap.size,0,none⟩=some (.int .i64 0):=hM.cell 0
    have m1:wr.cell? ⟨w.heap.size,1,none⟩=some (.slice none 0 0):=hM.cell 1
    have m2:wr.cell? ⟨w.heap.size,2,none⟩=some (.slice none 0 0):=hM.cell 2
    have f0:wr.cell? ⟨w.heap.size+1,0,none⟩=some (.int .i64 0):=hF.cell 0
    have f1:wr.cell? ⟨w.heap.size+1,1,none⟩=some (.int .i64 0):=hF.cell 1
    have k0:=hM.frozen 0
    have k1:=hM.frozen 1
    have k2:=hM.frozen 2
    have k3:=hF.frozen 0
    have k4:=hF.frozen 1
    go_wp2_with fail
    have hM1:=((hM.set_ 0 (.int .i64 (l.length:Int))).set_ 1 (.slice Ar R.length cr)).set_ 2 (.slice As segs.length cs)
    have hS1:=((hS.setCell hM (by decide) (by decide) 0 (.int .i64 (l.length:Int))).setCell (hM.set_ 0 _) (by decide) (by decide) 1 (.slice Ar R.length cr)).setCell ((hM.set_ 0 _).set_ 1 _) (by decide) (by decide) 2 (.slice As segs.length cs)
    have hnb:=Own.ne_blk hO hM (by decide)
    have hO1:=Own.setCell (p:=⟨w.heap.size,2,none⟩) (Own.setCell (p:=⟨w.heap.size,1,none⟩) (Own.setCell (p:=⟨w.heap.size,0,none⟩) hO hnb (.int .i64 (l.length:Int))) hnb (.slice Ar R.length cr)) hnb (.slice As segs.length cs)
    have hF1:=((hF.far (p:=⟨w.heap.size,0,none⟩) (by show w.heap.size+1≠w.heap.size;omega) (.int .i64 (l.length:Int))).far (p:=⟨w.heap.size,1,none⟩) (by show w.heap.size+1≠w.heap.size;omega) (.slice Ar R.length cr)).far (p:=⟨w.heap.size,2,none⟩) (by show w.heap.size+1≠w.heap.size;omega) (.slice As segs.length cs)
    have hX1:=((hx.setCell (p:=⟨w.heap.size,0,none⟩) (Nat.le_refl _) (.int .i64 (l.length:Int))).setCell (p:=⟨w.heap.size,1,none⟩) (Nat.le_refl _) (.slice Ar R.length cr)).setCell (p:=⟨w.heap.size,2,none⟩) (Nat.le_refl _) (.slice As segs.length cs)
    have hnf:=Own.ne_blk hO1 hF1 (by decide)
    have hO2:=Own.setCell (p:=⟨w.heap.size+1,1,none⟩) (Own.setCell (p:=⟨w.heap.size+1,0,none⟩) hO1 hnf (.int .i64 0)) hnf (.int .i64 0)
    have hS2:=(hS1.setCell hF1 (by decide) (by decide) 0 (.int .i64 0)).setCell (hF1.set_ 0 _) (by decide) (by decide) 1 (.int .i64 0)
    have hF2:=hF1.set2 (.int .i64 0) (.int .i64 0)
    have hM2:=hM1.far2 (g:=w.heap.size+1) (by omega) (.int .i64 0) (.int .i64 0)
    have hX2:=below_set2 (g:=w.heap.size+1) hX1 (by omega) (.int .i64 0) (.int .i64 0)
    obtain ⟨W5,hW5⟩:∃ z:World,z=(((((wr.setCell ⟨w.heap.size,0,none⟩ (.int .i64 (l.length:Int))).setCell ⟨w.heap.size,1,none⟩ (.slice Ar R.length cr)).setCell ⟨w.heap.size,2,none⟩ (.slice As segs.length cs)).setCell ⟨w.heap.size+1,0,none⟩ (.int .i64 0)).setCell ⟨w.heap.size+1,1,none⟩ (.int .i64 0)):=⟨_,rfl⟩
    rw [<-hW5]
    have hO3:OwnB W5 w.heap.size (.slice Ar R.length cr) R:=by rw [hW5];exact hO2
    have hS3:OwnSegs W5 B (.slice As segs.length cs) segs:=by rw [hW5];exact hS2
    have hF3:Blk W5 (w.heap.size+1) 32 #[.int .i64 0,.int .i64 0]:=by rw [hW5];exact hF2
    have hM3:Blk W5 w.heap.size 77 #[.int .i64 (l.length:Int),.slice Ar R.length cr,.slice As segs.length cs]:=by rw [hW5];exact hM2
    have hX3:Below w.heap.size w W5:=by rw [hW5];exact hX2
    have s0:W5.cell? ⟨w.heap.size,0,none⟩=some (.int .i64 (l.length:Int)):=hM3.cell 0
    have s1:W5.cell? ⟨w.heap.size,1,none⟩=some (.slice Ar R.length cr):=hM3.cell 1
    have s2:W5.cell? ⟨w.heap.size,2,none⟩=some (.slice As segs.length cs):=hM3.cell 2
    have s3:W5.cell? ⟨w.heap.size+1,0,none⟩=some (.int .i64 0):=hF3.cell 0
    have s4:W5.cell? ⟨w.heap.size+1,1,none⟩=some (.int .i64 0):=hF3.cell 1
    clear hW5
    exact bodyPost_ret (v:=.tuple #[.agg #[.int .i64 (l.length:Int),.slice Ar R.length cr,.slice As segs.length cs],.agg #[.int .i64 0,.int .i64 0]]) (by simp [results,Try.results60,go_sem,s0,s1,s2,s3,s4]) rfl ⟨_,_,rfl,by rw [HR.out];exact hO3,by rw [<-HSE.out];exact hS3.mono (by omega),hX3⟩
end Go.Proofs.Ytfdibjgmbdkbcaa
