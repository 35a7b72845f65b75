/-
  THE WALKS of yearref4.Write, Pack. Conditions: tokens as a text has them, 4000 at most.
-/
import Derived.Test.YtfdibjgmbdkbcaaYGe
import Derived.Test.YtfdibjgmbdkbcaaYPk5
import Derived.Test.YtfdibjgmbdkbcaaYR4A
namespace Go.Proofs.Ytfdibjgmbdkbcaa
open Go.RowKit Go.Lib
def Apt (u v:Value):Prop:=∀ k,u.ownBlock=some k->v.ownBlock≠some k
section
variable {w w1:World} {B B':Nat} {e e':TypeId} {s s' n n':Nat} {u v u':Value} {xs ys:List Value}
theorem Apt.symm (h:Apt u v):Apt v u:=fun k hk hu=>h k hu hk
theorem Apt.grown (h:Apt u v) (hv:Own w B e s v n xs) (hat:u'.ownBlock=u.ownBlock\/u'.ownBlock=some w.heap.size):Apt u' v:=by
 intro k hk hvk
 rcases hat with ha | ha
 · exact h k (ha ▸ hk) hvk
 · rw [ha] at hk
   injection hk with hk
   have:=(hv.lt k hvk).2
   omega
theorem Own.stays (h:Own w B e s v n xs) (hg:w.grownBy w1 u.ownBlock) (ha:Apt u v):Own w1 B e s v n xs :=
 h.keep fun k hk hlt _=>hg.block k hlt (fun e=>ha k e.symm hk)
end
namespace Pk
theorem grps_fuel {f g:Nat} {T:List Tok} (hf:T.length<=f) (hg:T.length<=g):grps f T=grps g T:=by rw [grps_outs f T hf,grps_outs g T hg]
theorem grps_step {g:Nat} {T:List Tok} (hg:T.length<=g) (h:T≠[]):grps g T=grp (T.take 8)++grps g (T.drop 8):=by
 obtain ⟨f,rfl⟩:∃ f,g=f+1:=⟨g-1,by have:=List.length_pos_iff.2 h;omega⟩
 conv=>lhs;rw [grps,if_neg h]
 rw [grps_fuel (f:=f) (g:=f+1) (by rw [List.length_drop];omega) (by rw [List.length_drop];omega)]
theorem flags_le (l:List Tok) (h:l.length<=8):flags l<256:=Nat.lt_of_lt_of_le (flags_lt l) (Nat.pow_le_pow_right (by decide) h)
theorem bodies_len (l:List Tok):(l.flatMap body).length<=2*l.length:=flat_len l
end Pk
theorem u8_of (x:Nat):((UInt8.ofNat x).toNat:Int)=(x:Int) % 256:=by rw [UInt8.toNat_ofNat'];omega
theorem okt_cases {t:Pk.Tok} (h:Pk.Okt t):(∃ c,t=Pk.lit c)\/∃ n back:Nat,t=Pk.cp n back/\3<=n/\n<=66/\1<=back/\back<=1024:=h
set_option maxRecDepth 100000 in
set_option maxHeartbeats 8000000 in
theorem rwrite_any (w:World) (F:Nat->Prop) (v:Value) (l:List Pk.Tok) (n:Nat) (hl:RdL w F v l) (hok:∀ t ∈ l,Pk.Okt t) (hlen:l.length<=4000) (hn:n<=4000) :
 Calls Try.prog 87 #[v,.int .i64 (n:Int)] w fun e w'=>∃ v,e = .returned v/\OwnB w' w.heap.size v (Pk.write l n)/\Below w.heap.size w w':=by
 obtain ⟨i0,hi,hz0,hz1,hz2⟩:=info_parts info_u8
 obtain ⟨A,c,hv,hlc,hcm⟩:=hl.form
 subst hv
 unfold maxLen at hcm
 have hcells:(Obj.cells #[.int .u8 ((n:Int) / 256),.int .u8 ((n:Int) % 256)] 5) = .cells ((Pk.size2 n).map bv).toArray 5:=by
  have e1:((UInt8.ofNat (n / 256)).toNat:Int)=(n:Int) / 256:=by rw [u8_of];omega
  have e2:=u8_of n
  show _=Obj.cells #[.int .u8 ((UInt8.ofNat (n / 256)).toNat:Int),.int .u8 ((UInt8.ofNat n).toNat:Int)] 5
  rw [e1,e2]
 have ho0:OwnB (w.alloc (.cells #[.int .u8 ((n:Int) / 256),.int .u8 ((n:Int) % 256)] 5)) w.heap.size (.slice (some ⟨w.heap.size,0,none⟩) 2 2) (Pk.size2 n):=by
  rw [hcells]
  exact Own.new w w.heap.size 5 ((Pk.size2 n).map bv) 2 rfl (by decide) (Nat.le_refl _)
 have hx0:=(Below.refl w.heap.size w).alloc (Nat.le_refl _) (.cells #[.int .u8 ((n:Int) / 256),.int .u8 ((n:Int) % 256)] 5)
 obtain ⟨K,hK⟩:∃ K,Pk.write l n=K:=⟨_,rfl⟩
 rw [hK]
 have HK:=Lib.hid hK
 clear hcells hK
 have hs2:(Pk.size2 n).length=2:=rfl
 go_enter Try.func87,Try.ntmps87
 go_wp2_with fail
 generalize w.alloc _=w0 at *
 go_loopg [5,6] (l.length+8) (fun k v i wr=>∃ (p:Nat) (out:Bs),p+k=l.length+8/\i = .int .i64 (p:Int)/\Hid (out++Pk.grps l.length (l.drop p)=K)/\out.length<=2+3*p/\OwnB wr w.heap.size v out/\Below w.heap.size w wr)
 case atStart=>exact ⟨0,Pk.size2 n,by omega,rfl,Lib.hid (by rw [<-HK.out];rfl),by omega,ho0,hx0⟩
 case round =>
  clear ho0 hx0
  obtain ⟨p,out,hp,rfl,HT,hol,hown,hx⟩:=hrel
  obtain ⟨A1,c1,hv1,hac1,hcm1⟩:=Own.shape hown
  subst hv1
  by_cases hlt:p<l.length
  · have hltB:(p:Int)<(l.length:Int):=by omega
    have hne:l.drop p≠[]:=by
     intro h
     have:=congrArg List.length h
     rw [List.length_drop] at this
     simp at this
     omega
    have hst:=Pk.grps_step (g:=l.length) (T:=l.drop p) (by rw [List.length_drop];omega) hne
    rw [List.drop_drop] at hst
    have hgl:((l.drop p).take 8).length=min 8 (l.length-p):=by rw [List.length_take,List.length_drop]
    have hgat:∀ r,r<((l.drop p).take 8).length->((l.drop p).take 8)[r]? = l[p+r]?:=fun r hr=>by
     rw [List.getElem?_take_of_lt (by omega),List.getElem?_drop]
    have hgok:∀ t ∈ (l.drop p).take 8,Pk.Okt t:=fun t ht=>hok t (List.mem_of_mem_drop (List.mem_of_mem_take ht))
    have HST:Hid (∀ g,(l.drop p).take 8=g->(out++Pk.grp g)++Pk.grps l.length (l.drop (p+8))=K):=Lib.hid (by rintro g rfl;rw [<-HT.out,hst,List.append_assoc])
    generalize hG:(l.drop p).take 8=G at *
    have HG:=Lib.hid hG
    have HGA:=Lib.hid hgat
    clear hG hgat hst hne HT
    have hG8:G.length<=8:=by omega
    have hGl:G.length=8\/p+G.length=l.length:=by omega
    have hG2:p+G.length<=l.length:=by omega
    clear hgl
    generalize gk=gk0 at *
    generalize wr=wr0 at *
    go_wp2_with fail
    go_loopg [7,8,9] 8 (fun k vf vb vk wr=>∃ r:Nat,r+k=8/\r<=G.length/\vf = .int .i64 ((Pk.flags (G.take r):Nat):Int)/\vk = .int .i64 (r:Int)/\OwnB wr w.heap.size vb ((G.take r).flatMap Pk.body)/\OwnB wr w.heap.size (.slice A1 out.length c1) out/\Apt (.slice A1 out.length c1) vb/\Below w.heap.size w wr)
    case atStart=>exact ⟨0,rfl,by omega,rfl,rfl,Own.nil_ _ _ _ _,hown,fun k _ h=>by simp [Value.ownBlock] at h,hx⟩
    case round =>
     clear hown hx
     obtain ⟨r,hr,hrG,rfl,rfl,hb,hown,hap,hx⟩:=hrel
     obtain ⟨A2,c2,hv2,hac2,hcm2⟩:=Own.shape hb
     subst hv2
     have hfl:=Pk.flags_le (G.take r) (by rw [List.length_take];omega)
     have hbl:=Pk.bodies_len (G.take r)
     have htl:(G.take r).length=r:=by rw [List.length_take];omega
     by_cases hrg:r<G.length
     · have r8:(r:Int)<8:=by omega
       have rl:(p:Int)+(r:Int)<(l.length:Int):=by omega
       obtain ⟨b,off,c',hA,_,hbk,q0,q1,q2⟩:=tok_at hl (j:=p+r) (by omega)
       injection hA with hA _ hA'
       subst hA hA'
       have p0:=(hx.cell (p:=⟨b,off+(p+r)*3,none⟩) hbk).trans q0
       have p1:=(hx.cell (p:=⟨b,off+(p+r)*3+1,none⟩) hbk).trans q1
       have p2:=(hx.cell (p:=⟨b,off+(p+r)*3+2,none⟩) hbk).trans q2
       have hgr:G[r]? = some (l[p+r]'(by omega)):=by rw [HGA.out r hrg,List.getElem?_eq_getElem]
       have htk:G.take (r+1)=G.take r++[l[p+r]'(by omega)]:=by
        rw [List.take_succ_eq_append_getElem hrg]
        have:=List.getElem?_eq_getElem hrg
        rw [hgr] at this
        injection this with this
        rw [this]
       have hto:Pk.Okt (l[p+r]'(by omega)):=hok _ (List.getElem_mem _)
       generalize l[p+r]'(by omega)=t at *
       have hf1:=Pk.flags_snoc t (G.take r)
       rw [htl] at hf1
       have hb1:(G.take r++[t]).flatMap Pk.body=(G.take r).flatMap Pk.body++Pk.body t:=by simp
       have hfl1:=Pk.flags_le (G.take r++[t]) (by simp;omega)
       generalize Pk.flags (G.take r)=fl at *
       generalize (G.take r).flatMap Pk.body=bo at *
       have hbl16:bo.length<=16:=by omega
       have hwr:=hx.size
       rcases okt_cases hto with ⟨ch,rfl⟩ | ⟨tn,tb,rfl,t1,t2,t3,t4⟩
       · have hA0:=hx.alloc hx.size (.cells #[.int .i64 0,.int .i64 0,.int .u8 (ch.toNat:Int)] 126)
         have hgA:Blk (wr.alloc (.cells #[.int .i64 0,.int .i64 0,.int .u8 (ch.toNat:Int)] 126)) wr.heap.size 126 #[.int .i64 0,.int .i64 0,.int .u8 (ch.toNat:Int)]:=heap_alloc_new wr _
         have hbA:=Own.alloc hb (.cells #[.int .i64 0,.int .i64 0,.int .u8 (ch.toNat:Int)] 126)
         have hoA:=Own.alloc hown (.cells #[.int .i64 0,.int .i64 0,.int .u8 (ch.toNat:Int)] 126)
         have e0:(wr.alloc (.cells #[.int .i64 0,.int .i64 0,.int .u8 (ch.toNat:Int)] 126)).cell? ⟨wr.heap.size,0,none⟩=some (.int .i64 0):=hgA.cell 0
         have e2:(wr.alloc (.cells #[.int .i64 0,.int .i64 0,.int .u8 (ch.toNat:Int)] 126)).cell? ⟨wr.heap.size,2,none⟩=some (.int .u8 (ch.toNat:Int)):=hgA.cell 2
         have hfl0:Pk.flags (G.take r++[Pk.lit ch])=fl:=by rw [hf1];simp [Pk.lit]
         have hbd:bo++Pk.body (Pk.lit ch)=bo++[ch]:=rfl
         have p0':wr.cell? ⟨b,off+(p+r)*3,none⟩=some (.int .i64 0):=p0
         have p1':wr.cell? ⟨b,off+(p+r)*3+1,none⟩=some (.int .i64 0):=p1
         have p2':wr.cell? ⟨b,off+(p+r)*3+2,none⟩=some (.int .u8 (ch.toNat:Int)):=p2
         have HF0:=Lib.hid hfl0
         have HB1:=Lib.hid hb1
         have HTK:=Lib.hid htk
         clear hfl0 hb1 htk hf1 p0 p1 p2 q0 q1 q2 hgr hto htl hbd
         go_upto_region 11 with (fail)
         generalize wr.alloc _=w1 at *
         generalize wr.heap.size=g at *
         obtain ⟨hbB,hsrc⟩:=byte_prep ch hbA
         have hb0:bv ch = .int .u8 (ch.toNat:Int):=rfl
         have hxB:=hA0.alloc hA0.size (.cells #[bv ch] 5)
         have hoB:=Own.alloc hoA (.cells #[bv ch] 5)
         rw [hb0] at hbB hsrc hxB hoB
         have hw1:=hA0.size
         clear hb0 p0' p1' p2'
         go_wp2_with (at_builtin
                      refine wpList_append_Own _ (by rfl) (.tmp 46) (.tmp 49) 22 (by rfl) w.heap.size 5 i0 _ 1 1 Try.underlying22 hi hz0 hz1 hz2 (by rfl) (by omega) (.slice A2 bo.length c2) bo.length (bo.map bv) (by rfl) hbB _ _ _ _ (by rfl) hsrc (by simp [Value.oneCell']) (by simp only [maxLen];omega) (by omega) (by simp;omega) ?_
                      intro v2 w2 hown2 hgr2 hat2
                      have hx2:Below w.heap.size w w2:=hxB.grown hgr2 hxB.size (fun k hk=>(hbB.lt k hk).1)
                      have ho2:=Own.stays hoB hgr2 hap.symm
                      have hap2:Apt v2 _:=hap.symm.grown hoB hat2)
         go_roundg (gk-1)
         case measure=>omega
         case rel =>
          refine ⟨r+1,by omega,by omega,?_,by go_num,?_,ho2,hap2.symm,hx2⟩
          · rw [HTK.out,HF0.out]
          · rw [HTK.out,HB1.out];exact OwnB.snoc_ hown2
       · have hA0:=hx.alloc hx.size (.cells #[.int .i64 (tn:Int),.int .i64 (tb:Int),.int .u8 0] 126)
         have hgA:Blk (wr.alloc (.cells #[.int .i64 (tn:Int),.int .i64 (tb:Int),.int .u8 0] 126)) wr.heap.size 126 #[.int .i64 (tn:Int),.int .i64 (tb:Int),.int .u8 0]:=heap_alloc_new wr _
         have hbA:=Own.alloc hb (.cells #[.int .i64 (tn:Int),.int .i64 (tb:Int),.int .u8 0] 126)
         have hoA:=Own.alloc hown (.cells #[.int .i64 (tn:Int),.int .i64 (tb:Int),.int .u8 0] 126)
         have e0:(wr.alloc (.cells #[.int .i64 (tn:Int),.int .i64 (tb:Int),.int .u8 0] 126)).cell? ⟨wr.heap.size,0,none⟩=some (.int .i64 (tn:Int)):=hgA.cell 0
         have e1:(wr.alloc (.cells #[.int .i64 (tn:Int),.int .i64 (tb:Int),.int .u8 0] 126)).cell? ⟨wr.heap.size,1,none⟩=some (.int .i64 (tb:Int)):=hgA.cell 1
         have hne0:(Pk.cp tn tb).len≠0:=by show (tn:Int)≠0;omega
         have hfl0:Pk.flags (G.take r++[Pk.cp tn tb])=fl+2 ^ r:=by rw [hf1,if_neg hne0]
         rw [hfl0] at hfl1
         have hwd:=Pk.word_of tn tb t1 t2 t3 t4
         obtain ⟨wd,hwde⟩:∃ k,Pk.wordOf (Pk.cp tn tb)=k:=⟨_,rfl⟩
         have hbd:Pk.body (Pk.cp tn tb)=[UInt8.ofNat (wd / 256),UInt8.ofNat wd]:=by unfold Pk.body;rw [if_neg hne0,hwde]
         rw [hwde] at hwd
         have hwl:wd<65536:=by omega
         have hwI:Hid (1024*((tn:Int)-3)+(tb:Int)-1=((wd:Nat):Int)):=Lib.hid (by omega)
         have hne1:((tn:Int)==0)=false:=by rw [beq_eq_false_iff_ne];omega
         have p0':wr.cell? ⟨b,off+(p+r)*3,none⟩=some (.int .i64 (tn:Int)):=p0
         have p1':wr.cell? ⟨b,off+(p+r)*3+1,none⟩=some (.int .i64 (tb:Int)):=p1
         have p2':wr.cell? ⟨b,off+(p+r)*3+2,none⟩=some (.int .u8 0):=p2
         have hpw:2 ^ r<=128:=Nat.le_trans (Nat.pow_le_pow_right (by decide) (show r<=7 by omega)) (by decide)
         have hpI:((2 ^ r:Nat):Int)=2 ^ r:=by simp
         have hpI2:(2:Int) ^ r<=128:=by rw [<-hpI];omega
         have hpI3:(0:Int)<=2 ^ r:=by rw [<-hpI];omega
         have hflI:(fl:Int)<=255:=by omega
         have HF0:=Lib.hid hfl0
         have HB1:=Lib.hid hb1
         have HTK:=Lib.hid htk
         have HBD:=Lib.hid hbd
         have HPI:=Lib.hid hpI
         have hb1v:((UInt8.ofNat (wd / 256)).toNat:Int)=(wd:Int) / 256:=by rw [u8_of];omega
         have hb2v:=u8_of wd
         have HV1:=Lib.hid hb1v
         have HV2:=Lib.hid hb2v
         clear hfl0 hb1 htk hf1 p0 p1 p2 q0 q1 q2 hgr hto htl hbd hne0 hwd hwde hpI hb1v hb2v
         go_upto_region 15 with (fail)
         generalize wr.alloc _=w1 at *
         generalize wr.heap.size=g at *
         rw [hwI.out]
         have hsrc:=SlAt.new w1 5 [.int .u8 ((wd:Int) / 256),.int .u8 ((wd:Int) % 256)] 2 rfl (by decide)
         have hbB:=Own.alloc hbA (.cells #[.int .u8 ((wd:Int) / 256),.int .u8 ((wd:Int) % 256)] 5)
         have hxB:=hA0.alloc hA0.size (.cells #[.int .u8 ((wd:Int) / 256),.int .u8 ((wd:Int) % 256)] 5)
         have hoB:=Own.alloc hoA (.cells #[.int .u8 ((wd:Int) / 256),.int .u8 ((wd:Int) % 256)] 5)
         have hw1:=hA0.size
         clear p0' p1' p2' e0 e1
         go_wp2_with (at_builtin
                      refine wpList_append_Own _ (by rfl) (.tmp 63) (.tmp 70) 22 (by rfl) w.heap.size 5 i0 _ 1 1 Try.underlying22 hi hz0 hz1 hz2 (by rfl) (by omega) (.slice A2 bo.length c2) bo.length (bo.map bv) (by rfl) hbB _ _ _ _ (by rfl) hsrc (by simp [Value.oneCell']) (by simp only [maxLen];omega) (by omega) (by simp;omega) ?_
                      intro v2 w2 hown2 hgr2 hat2
                      have hx2:Below w.heap.size w w2:=hxB.grown hgr2 hxB.size (fun k hk=>(hbB.lt k hk).1)
                      have ho2:=Own.stays hoB hgr2 hap.symm
                      have hap2:Apt v2 _:=hap.symm.grown hoB hat2)
         go_roundg (gk-1)
         case measure=>omega
         case rel =>
          refine ⟨r+1,by omega,by omega,?_,by go_num,?_,ho2,hap2.symm,hx2⟩
          · rw [HTK.out,HF0.out]
            exact congrArg (Value.int .i64) (by rw [Int.natCast_add,HPI.out])
          · rw [HTK.out,HB1.out,HBD.out]
            unfold OwnB
            rw [List.map_append,List.length_append]
            rw [<-HV1.out,<-HV2.out] at hown2
            exact hown2
     · have hrG2:r=G.length:=by omega
       have hend:¬ r<8\/(r<8/\¬ p+r<l.length):=by omega
       have htk:G.take r=G:=by rw [hrG2,List.take_length]
       have HGR:=HST.out G rfl
       have hgrp:Pk.grp G=UInt8.ofNat (Pk.flags G)::G.flatMap Pk.body:=rfl
       rw [htk] at hfl hbl hb hap ⊢
       have hbG:(G.flatMap Pk.body).length<=16:=by omega
       have hv1:=u8_of (Pk.flags G)
       generalize Pk.flags G=fl at *
       generalize G.flatMap Pk.body=bo at *
       have HGP:=Lib.hid hgrp
       have HN2:=Lib.hid HGR
       have hv2:Hid (((UInt8.ofNat fl).toNat:Int)=(fl:Int)):=Lib.hid (by rw [hv1];omega)
       have HR:=Lib.hid hrG2
       have hsrc:=SlAt.new wr 5 [.int .u8 (fl:Int)] 1 rfl (by decide)
       have hoA:=Own.alloc hown (.cells #[.int .u8 (fl:Int)] 5)
       have hbA:=Own.alloc hb (.cells #[.int .u8 (fl:Int)] 5)
       have hxA:=hx.alloc hx.size (.cells #[.int .u8 (fl:Int)] 5)
       have hol2:out.length<=12002:=by omega
       have hwr:=hx.size
       have hflI:(fl:Int)<256:=by omega
       have hfl0:(0:Int)<=(fl:Int):=by omega
       have hout3:(out++Pk.grp G).length<=2+3*(p+8):=by
        rw [hgrp,List.length_append,List.length_cons];omega
       have HO3:=Lib.hid hout3
       clear htk hgrp HGR hv1 hrG2 hout3
       rcases hend with h8 | ⟨h8,hpl⟩
       · have r8:decide ((r:Int)<8)=false:=decide_eq_false (by omega)
         go_wp2_with (at_builtin
                      first
                      | (refine wpList_append_Own _ (by rfl) (.tmp 72) (.tmp 75) 22 (by rfl) w.heap.size 5 i0 _ 1 1 Try.underlying22 hi hz0 hz1 hz2 (by rfl) (by omega) (.slice A1 out.length c1) out.length (out.map bv) (by rfl) hoA _ _ _ _ (by rfl) hsrc (by simp [Value.oneCell']) (by simp only [maxLen];omega) (by omega) (by simp;omega) ?_
                         intro v2 w2 hown2 hgr2 hat2
                         have hx2:Below w.heap.size w w2:=hxA.grown hgr2 hxA.size (fun k hk=>(hoA.lt k hk).1)
                         have hb2:=Own.stays hbA hgr2 hap
                         have hs2:SlAt w2 (fun _=>True) 1 (.slice A2 bo.length c2) bo.length (bo.map bv):=Own.slAt hb2 (fun _ _=>trivial))
                      | (refine wpList_append_Own _ (by rfl) (.tmp 76) (.tmp 77) 22 (by rfl) w.heap.size 5 i0 _ 1 1 Try.underlying22 hi hz0 hz1 hz2 (by rfl) (by omega) _ _ _ (by rfl) hown2 _ _ _ _ (by rfl) hs2 (map_oneCell bo) (by simp only [maxLen];omega) (by omega) hx2.size ?_
                         intro v3 w3 hown3 hgr3 hat3
                         have hx3:Below w.heap.size w w3:=hx2.grown hgr3 hx2.size (fun k hk=>(hown2.lt k hk).1)))
         go_roundg (gk0-8)
         case measure=>omega
         case rel =>
          refine ⟨p+8,out++Pk.grp G,by omega,by go_num,HN2,HO3.out,?_,hx3⟩
          rw [HGP.out]
          unfold OwnB
          rw [List.length_append,List.length_cons,List.map_append,List.map_cons]
          have hbv:bv (UInt8.ofNat fl) = .int .u8 (fl:Int):=congrArg (Value.int .u8) hv2.out
          rw [hbv]
          have h:=hown3
          rw [List.append_assoc,show out.length+1+bo.length=out.length+(bo.length+1) by omega] at h
          exact h
       · have r8:(r:Int)<8:=by omega
         have rl:decide ((p:Int)+(r:Int)<(l.length:Int))=false:=decide_eq_false (by omega)
         go_wp2_with (at_builtin
                      first
                      | (refine wpList_append_Own _ (by rfl) (.tmp 72) (.tmp 75) 22 (by rfl) w.heap.size 5 i0 _ 1 1 Try.underlying22 hi hz0 hz1 hz2 (by rfl) (by omega) (.slice A1 out.length c1) out.length (out.map bv) (by rfl) hoA _ _ _ _ (by rfl) hsrc (by simp [Value.oneCell']) (by simp only [maxLen];omega) (by omega) (by simp;omega) ?_
                         intro v2 w2 hown2 hgr2 hat2
                         have hx2:Below w.heap.size w w2:=hxA.grown hgr2 hxA.size (fun k hk=>(hoA.lt k hk).1)
                         have hb2:=Own.stays hbA hgr2 hap
                         have hs2:SlAt w2 (fun _=>True) 1 (.slice A2 bo.length c2) bo.length (bo.map bv):=Own.slAt hb2 (fun _ _=>trivial))
                      | (refine wpList_append_Own _ (by rfl) (.tmp 76) (.tmp 77) 22 (by rfl) w.heap.size 5 i0 _ 1 1 Try.underlying22 hi hz0 hz1 hz2 (by rfl) (by omega) _ _ _ (by rfl) hown2 _ _ _ _ (by rfl) hs2 (map_oneCell bo) (by simp only [maxLen];omega) (by omega) hx2.size ?_
                         intro v3 w3 hown3 hgr3 hat3
                         have hx3:Below w.heap.size w w3:=hx2.grown hgr3 hx2.size (fun k hk=>(hown2.lt k hk).1)))
         go_roundg (gk0-8)
         case measure=>omega
         case rel =>
          refine ⟨p+8,out++Pk.grp G,by omega,by go_num,HN2,HO3.out,?_,hx3⟩
          rw [HGP.out]
          unfold OwnB
          rw [List.length_append,List.length_cons,List.map_append,List.map_cons]
          have hbv:bv (UInt8.ofNat fl) = .int .u8 (fl:Int):=congrArg (Value.int .u8) hv2.out
          rw [hbv]
          have h:=hown3
          rw [List.append_assoc,show out.length+1+bo.length=out.length+(bo.length+1) by omega] at h
          exact h
  · have hltB:decide ((p:Int)<(l.length:Int))=false:=decide_eq_false (by omega)
    have hfin:Hid (out=K):=Lib.hid (by
     have h:=HT.out
     rw [List.drop_of_length_le (by omega),Pk.grps_nil,List.append_nil] at h
     exact h)
    go_wp2_with fail
    go_ret
    exact ⟨_,rfl,by rw [<-hfin.out];exact hown,hx⟩
set_option maxRecDepth 100000 in
set_option maxHeartbeats 1000000 in
theorem rpack_any (w:World) (F:Nat->Prop) (v:Value) (b:Bs) (hb:Bytes w F v b) (hlen:b.length<=4000) :
 Calls Try.prog 22 #[v] w fun e w'=>∃ v,e = .returned (.tuple #[v,.int .i64 0])/\OwnB w' w.heap.size v (Pk.pack b)/\Below w.heap.size w w':=by
 obtain ⟨A,c,rfl⟩:=hb.form
 have htl:=Pk.toks_len b
 have hto:=Pk.toksF_ok b b.length 0
 have hpk:Pk.pack b=Pk.write (Pk.toks b) b.length:=rfl
 have HPK:=Lib.hid hpk
 have HTO:Hid (∀ t ∈ Pk.toks b,Pk.Okt t):=Lib.hid hto
 clear hpk hto
 go_enter Try.func22,Try.ntmps22
 go_wp2_with fail
 refine (rtokens_any w F _ b hb hlen).mono ?_
 rintro e w1 ⟨v1,rfl,ho1,hx1⟩
 have hr1:=ho1.rd (F:=fun _=>True) (fun _ _=>trivial)
 obtain ⟨A1,c1,hv1,_,_⟩:=hr1.form
 subst hv1
 go_wp2_with fail
 refine (rwrite_any w1 _ _ (Pk.toks b) b.length hr1 HTO.out (by omega) hlen).mono ?_
 rintro e w2 ⟨v2,rfl,ho2,hx2⟩
 go_wp2_with fail
 go_ret2
 exact ⟨v2,rfl,by rw [HPK.out];exact Own.mono ho2 hx1.size,hx1.trans (hx2.mono hx1.size)⟩
end Go.Proofs.Ytfdibjgmbdkbcaa
