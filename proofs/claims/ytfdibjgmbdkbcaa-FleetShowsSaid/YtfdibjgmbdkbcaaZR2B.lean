/-
  THE WALKS of yearref2.MTH, Path, Proof. Conditions: what is read is a list of bytes, not too many, none too long.
-/
import Derived.Test.YtfdibjgmbdkbcaaZGf
import Derived.Test.YtfdibjgmbdkbcaaZR2A
import Derived.Test.YtfdibjgmbdkbcaaZRSumC
namespace Go.Proofs.Ytfdibjgmbdkbcaa
open Go.RowKit Go.Lib
theorem leaf32 (ll:List Bs):∀ d ∈ ll.map Tr.leafH,d.length=32:=fun d hd=>by obtain ⟨x,_,rfl⟩:=List.mem_map.1 hd;exact Tr.length_leafH x
theorem pair_le {a b:Bs} (ha:a.length<=32) (hb:b.length<=32):(1::(a++b)).length<=140737488355200:=by simp;omega
theorem take_len {ll:List Bs} {k n:Nat} (h:(ll.take k).length=n):((ll.map Tr.leafH).take k).length=n:=by rw [<-List.map_take,List.length_map];exact h
theorem drop_len {ll:List Bs} {k n:Nat} (h:(ll.drop k).length=n):((ll.map Tr.leafH).drop k).length=n:=by rw [<-List.map_drop,List.length_map];exact h
set_option maxRecDepth 100000 in
set_option maxHeartbeats 1000000 in
theorem root_ref (n:Nat):∀ (w:World) (F:Nat->Prop) (v:Value) (ll:List Bs),BList w F v ll->ll.length=n->n<=128->Short ll →
 Calls Try.prog 43 #[v] w fun e w'=>∃ v,e = .returned v/\OwnB w' w.heap.size v (Tr.root (ll.map Tr.leafH))/\Below w.heap.size w w':=by
 induction n using Nat.strongRecOn with
 | ind n ih =>
   intro w F v ll hl hn hn128 hs
   obtain ⟨A,c,hv,hnc,hcm,hA⟩:=hl.shape
   subst hv
   unfold maxLen at hcm
   by_cases h2:2<=n
   · obtain ⟨b,off,rfl,hF,hb⟩:=hA (by omega)
     have hk1:=Tr.split_lt h2
     have hk0:=Tr.split_pos n
     have hl1:=hl.first (Tr.split n) (by omega)
     have hl2:=hl.rest (Tr.split n) (by omega)
     have hr:Tr.root (ll.map Tr.leafH)=Tr.nodeH (Tr.root ((ll.take (Tr.split n)).map Tr.leafH)) (Tr.root ((ll.drop (Tr.split n)).map Tr.leafH)):=by rw [Tr.root_two (by rw [List.length_map];omega),List.length_map,hn,<-List.map_take,<-List.map_drop]
     have ih1:=ih (Tr.split n) hk1
     have ih2:=ih (n-Tr.split n) (by omega)
     have hs1:(Tr.root ((ll.take (Tr.split n)).map Tr.leafH)).length<=32:=Nat.le_of_eq (Tr.length_root _ (leaf32 _))
     have hs2:(Tr.root ((ll.drop (Tr.split n)).map Tr.leafH)).length<=32:=Nat.le_of_eq (Tr.length_root _ (leaf32 _))
     have hsP:=pair_le hs1 hs2
     have HR:=Lib.hid hr
     have HI1:=Lib.hid ih1
     have HI2:=Lib.hid ih2
     have HI:=Lib.hid ih
     have hl3:(ll.take (Tr.split n)).length=Tr.split n:=by rw [List.length_take];omega
     have hl4:(ll.drop (Tr.split n)).length=n-Tr.split n:=by rw [List.length_drop];omega
     have HL3:=Lib.hid hl3
     have HL4:=Lib.hid hl4
     have hst:=hs.take (Tr.split n)
     have hsd:=hs.drop (Tr.split n)
     rw [hn] at hl2
     clear hr ih1 ih2 ih hl3 hl4
     rw [hn]
     rw [hn] at hnc
     clear hn hA
     have hq:=Split_any n (w:=w) h2 hn128
     have HQ:=Lib.hid hq
     clear hq
     generalize Tr.split n=k at *
     have hnB:((n:Int)==0)=false:=by rw [beq_eq_false_iff_ne];omega
     have hnB1:((n:Int)==1)=false:=by rw [beq_eq_false_iff_ne];omega
     have k0:(0:Int)<=(k:Int):=by omega
     have k1:(k:Int)<=(n:Int):=by omega
     have k2:(k:Int)<=(c:Int):=by omega
     have k3:(n:Int)<=(c:Int):=by omega
     have k4:((c:Int)==(k:Int))=false:=by rw [beq_eq_false_iff_ne];omega
     go_enter Try.func43,Try.ntmps43
     go_wp2_with fail
     refine HQ.out.mono ?_
     rintro e w' ⟨rfl,hw⟩
     subst hw
     go_wp2_with fail
     have hx0:Below w'.heap.size w' w':=Below.refl _ _
     go_region_held3 (fun w'':World=>Below w'.heap.size w' w'') (first | assumption | exact (Below.refl _ _).drew)
      (first
        | ((with_reducible refine (HI1.out _ F (.slice (some ⟨b,off,none⟩) k c) (ll.take k) (hl1.below (by assumption)) HL3.out (by omega) hst).mono ?_)
           rintro e w1 ⟨v1,rfl,hown1,hx1⟩
           have hxa:Below w'.heap.size w' w1:=Below.trans (b:=_) (by assumption) (hx1.mono (Below.size (by assumption))))
        | ((with_reducible refine (HI2.out _ F (.slice (some ⟨b,off+k,none⟩) (n-k) (c-k)) (ll.drop k) (hl2.below (by assumption)) HL4.out (by omega) hsd).mono ?_)
           rintro e w2 ⟨v2,rfl,hown2,hx2⟩
           have hxb:Below w'.heap.size w' w2:=Below.trans (b:=_) (by assumption) (hx2.mono (Below.size (by assumption))))
        | ((with_reducible refine (Pair_any _ _ _ _ _ (Tr.root ((ll.take k).map Tr.leafH)) (Tr.root ((ll.drop k).map Tr.leafH)) ((OwnB.bytes hown1).below hx2) (OwnB.bytes hown2) (by omega)).mono ?_)
           rintro e w3 ⟨v3,rfl,hown3,hx3⟩
           have hxc:Below w'.heap.size w' w3:=Below.trans (b:=_) (by assumption) (hx3.mono (Below.size (by assumption))))
        | ((with_reducible refine (refsum_any _ _ _ (1::((Tr.root ((ll.take k).map Tr.leafH))++(Tr.root ((ll.drop k).map Tr.leafH)))) (OwnB.bytes hown3) hsP).mono ?_)
           rintro e w4 ⟨v4,rfl,hown4,hx4⟩
           have hxd:Below w'.heap.size w' w4:=Below.trans (b:=_) (by assumption) (hx4.mono (Below.size (by assumption)))))
     go_wp2_with fail
     go_ret
     refine ⟨_,rfl,?_,by assumption⟩
     rw [HR.out]
     exact Own.mono hown4 (Below.size (by assumption))
   · by_cases h0:n=0
     · have hll:ll=[]:=List.eq_nil_of_length_eq_zero (by omega)
       subst hll
       have HS:Hid (Tr.root (([]:List Bs).map Tr.leafH)=Sha.sha256 []):=Lib.hid Tr.root_nil
       clear hA ih hn
       simp only [List.length_nil] at *
       go_enter Try.func43,Try.ntmps43
       go_wp2_with fail
       refine (refsum_any w (fun _=>True) _ [] (SlAt.nil_ _ _ _) (by simp)).mono ?_
       rintro e w1 ⟨v1,rfl,hown1,hx1⟩
       go_wp2_with fail
       go_ret
       exact ⟨_,rfl,by rw [HS.out];exact hown1,hx1⟩
     · match ll,hn with
       | [a],hn =>
         obtain ⟨b,off,u,hA,hc,_,hb,hub⟩:=hl.at_ (j:=0) (by simp)
         subst hA
         have hc':w.cell? ⟨b,off,none⟩=some u:=hc
         have hsl:=hs a (by simp)
         have HS:Hid (Tr.root ([a].map Tr.leafH)=Sha.sha256 (0::a)):=Lib.hid (Tr.root_one (Tr.leafH a))
         clear hA ih hn hc
         simp only [List.length_cons,List.length_nil] at *
         go_enter Try.func43,Try.ntmps43
         go_wp2_with fail
         refine (In_any _ _ _ a hub (by omega)).mono ?_
         rintro e w1 ⟨v1,rfl,hown1,hx1⟩
         go_wp2_with fail
         refine (refsum_any _ _ _ (0::a) (OwnB.bytes hown1) (by simp;omega)).mono ?_
         rintro e w2 ⟨v2,rfl,hown2,hx2⟩
         go_wp2_with fail
         go_ret
         exact ⟨_,rfl,by rw [HS.out];exact Own.mono hown2 hx1.size,hx1.trans (hx2.mono hx1.size)⟩
       | [],hn=>exact absurd hn.symm h0
       | _::_::_,hn=>simp at hn;omega
set_option maxRecDepth 100000 in
set_option maxHeartbeats 1000000 in
theorem rpath_any (n:Nat):∀ (w:World) (F:Nat->Prop) (v:Value) (ll:List Bs) (i:Nat) (z:Int),BList w F v ll->ll.length=n->n<=128->i<=128->z=(i:Int)->Short ll →
 Calls Try.prog 45 #[v,.int .i64 z] w fun e w'=>∃ v,e = .returned v/\OwnL w' w.heap.size v (Tr.path (ll.map Tr.leafH) i)/\Below w.heap.size w w':=by
 induction n using Nat.strongRecOn with
 | ind n ih =>
   intro w F v ll i z hl hn hn128 hi128 hz hs
   subst hz
   obtain ⟨i0,hi,hz0,hz1,hz2⟩:=info_parts info_bytes
   obtain ⟨A,c,hv,hnc,hcm,hA⟩:=hl.shape
   subst hv
   unfold maxLen at hcm
   by_cases h2:2<=n
   · obtain ⟨b,off,rfl,hF,hb⟩:=hA (by omega)
     have hk1:=Tr.split_lt h2
     have hk0:=Tr.split_pos n
     have hl1:=hl.first (Tr.split n) (by omega)
     have hl2:=hl.rest (Tr.split n) (by omega)
     have hs1:=hs.take (Tr.split n)
     have hs2:=hs.drop (Tr.split n)
     have hn1:(ll.take (Tr.split n)).length=Tr.split n:=by rw [List.length_take];omega
     have hn2:(ll.drop (Tr.split n)).length=n-Tr.split n:=by rw [List.length_drop];omega
     have hq:=Split_any n (w:=w) h2 hn128
     have HQ:=Lib.hid hq
     have h2':2<=ll.length:=by omega
     have hp1:i<Tr.split n->Tr.path (ll.map Tr.leafH) i=Tr.path ((ll.map Tr.leafH).take (Tr.split n)) i++[Tr.root ((ll.map Tr.leafH).drop (Tr.split n))]:=fun h=>by
      rw [Tr.path_left (by rw [List.length_map];exact h2') (by rw [List.length_map,hn];exact h),List.length_map,hn]
     have hp2:¬ i<Tr.split n->Tr.path (ll.map Tr.leafH) i=Tr.path ((ll.map Tr.leafH).drop (Tr.split n)) (i-Tr.split n)++[Tr.root ((ll.map Tr.leafH).take (Tr.split n))]:=fun h=>by
      rw [Tr.path_right (by rw [List.length_map];exact h2') (by rw [List.length_map,hn];exact h),List.length_map,hn]
     have ih1:=ih (Tr.split n) hk1
     have ih2:=ih (n-Tr.split n) (by omega)
     have r1:=root_ref (Tr.split n)
     have r2:=root_ref (n-Tr.split n)
     rw [hn] at hl2
     rw [hn]
     rw [hn] at hnc
     clear hn hA hq h2' ih
     generalize Tr.split n=k at *
     have hq1:=path_le (take_len hn1) (by omega) i
     have hq2:=path_le (drop_len hn2) (by omega) (i-k)
     have HN1:=Lib.hid hn1
     have HN2:=Lib.hid hn2
     have HI1:=Lib.hid ih1
     have HI2:=Lib.hid ih2
     have HR1:=Lib.hid r1
     have HR2:=Lib.hid r2
     have HP1:=Lib.hid hp1
     have HP2:=Lib.hid hp2
     clear hn1 hn2 ih1 ih2 r1 r2 hp1 hp2
     have hnB:decide ((n:Int)<=1)=false:=by simp;omega
     have k0:(0:Int)<=(k:Int):=by omega
     have k1:(k:Int)<=(n:Int):=by omega
     have k2:(k:Int)<=(c:Int):=by omega
     have k3:(n:Int)<=(c:Int):=by omega
     have k4:((c:Int)==(k:Int))=false:=by rw [beq_eq_false_iff_ne];omega
     have k5:¬ c=k:=by omega
     by_cases hik:i<k
     · have hikB:(i:Int)<(k:Int):=by omega
       have HP:=Lib.hid (HP1.out hik)
       clear HP1 HP2
       go_enter Try.func45,Try.ntmps45
       go_wp2_with fail
       refine HQ.out.mono ?_
       rintro e w' ⟨rfl,hw⟩
       subst hw
       go_wp2_with fail
       go_region_held3 (fun w'':World=>Below w'.heap.size w' w'') (first | assumption | exact (Below.refl _ _).drew)
        (first
          | ((with_reducible refine (HI1.out _ F (.slice (some ⟨b,off,none⟩) k c) (ll.take k) i _ (hl1.below (by assumption)) HN1.out (by omega) (by omega) (by omega) hs1).mono ?_)
             rintro e w1 ⟨v1,rfl,⟨vs,hown1,hin1⟩,hx1⟩
             simp only [List.map_take] at hown1 hin1
             have hxa:Below w'.heap.size w' w1:=Below.trans (b:=_) (by assumption) (hx1.mono (Below.size (by assumption))))
          | ((with_reducible refine (HR2.out _ F (.slice (some ⟨b,off+k,none⟩) (n-k) (c-k)) (ll.drop k) (hl2.below (by assumption)) HN2.out (by omega) hs2).mono ?_)
             rintro e w2 ⟨v2,rfl,hown2,hx2⟩
             simp only [List.map_drop] at hown2
             obtain ⟨A3,c3,hv3,_,_⟩:=Own.shape hown2
             subst hv3
             have hxb:Below w'.heap.size w' w2:=Below.trans (b:=_) (by assumption) (hx2.mono (Below.size (by assumption)))
             obtain ⟨g1,g2,g3⟩:=OwnL.prep (B:=w'.heap.size) ((hown1.below hx2).mono (Nat.le_refl _)) (fun i b hb=>by obtain ⟨u,hu,ho⟩:=hin1 i b hb;exact ⟨u,hu,OwnB.below ho hx2⟩) (OwnB.mono hown2 hxa.size)
             have hxc:=hxb.alloc hxb.size (.cells #[.slice A3 (Tr.root ((ll.map Tr.leafH).drop k)).length c3] 22)
             have hsz:=hxc.size)
          | (refine step_append_Own _ (by rfl) (.tmp 19) (.tmp 24) 40 (by rfl) w'.heap.size 22 i0 _ 1 24 Try.underlying40 hi hz0 hz1 hz2 (by rfl) (by omega) _ _ _ (by rfl) g1 _ _ _ _ (by rfl) g2 (by simp [Value.oneCell']) (by simp only [maxLen];omega) (by omega) hsz ?_
             intro v4 w4 hown4 hgr4 hat4
             have hxd:Below w'.heap.size w' w4:=hxc.grown hgr4 hxc.size (fun k hk=>(g1.lt k hk).1)
             have hL:=g3 _ _ hown4 hgr4))
       go_wp2_with fail
       go_ret
       exact ⟨_,rfl,by rw [HP.out];exact hL,hxd⟩
     · have hikB:decide ((i:Int)<(k:Int))=false:=by simp;omega
       have HP:=Lib.hid (HP2.out hik)
       have kW:IntKind.i64.wrap ((i:Int)-(k:Int))=(i:Int)-(k:Int):=IntWalk.i64_in _ (by omega)
       clear HP1 HP2
       go_enter Try.func45,Try.ntmps45
       go_wp2_with fail
       refine HQ.out.mono ?_
       rintro e w' ⟨rfl,hw⟩
       subst hw
       go_wp2_with fail
       go_region_held3 (fun w'':World=>Below w'.heap.size w' w'') (first | assumption | exact (Below.refl _ _).drew)
        (first
          | ((with_reducible refine (HI2.out _ F (.slice (some ⟨b,off+k,none⟩) (n-k) (c-k)) (ll.drop k) (i-k) _ (hl2.below (by assumption)) HN2.out (by omega) (by omega) (by omega) hs2).mono ?_)
             rintro e w1 ⟨v1,rfl,⟨vs,hown1,hin1⟩,hx1⟩
             simp only [List.map_drop] at hown1 hin1
             have hxa:Below w'.heap.size w' w1:=Below.trans (b:=_) (by assumption) (hx1.mono (Below.size (by assumption))))
          | ((with_reducible refine (HR1.out _ F (.slice (some ⟨b,off,none⟩) k c) (ll.take k) (hl1.below (by assumption)) HN1.out (by omega) hs1).mono ?_)
             rintro e w2 ⟨v2,rfl,hown2,hx2⟩
             simp only [List.map_take] at hown2
             obtain ⟨A3,c3,hv3,_,_⟩:=Own.shape hown2
             subst hv3
             have hxb:Below w'.heap.size w' w2:=Below.trans (b:=_) (by assumption) (hx2.mono (Below.size (by assumption)))
             obtain ⟨g1,g2,g3⟩:=OwnL.prep (B:=w'.heap.size) ((hown1.below hx2).mono (Nat.le_refl _)) (fun i b hb=>by obtain ⟨u,hu,ho⟩:=hin1 i b hb;exact ⟨u,hu,OwnB.below ho hx2⟩) (OwnB.mono hown2 hxa.size)
             have hxc:=hxb.alloc hxb.size (.cells #[.slice A3 (Tr.root ((ll.map Tr.leafH).take k)).length c3] 22)
             have hsz:=hxc.size)
          | (refine step_append_Own _ (by rfl) (.tmp 32) (.tmp 37) 40 (by rfl) w'.heap.size 22 i0 _ 1 24 Try.underlying40 hi hz0 hz1 hz2 (by rfl) (by omega) _ _ _ (by rfl) g1 _ _ _ _ (by rfl) g2 (by simp [Value.oneCell']) (by simp only [maxLen];omega) (by omega) hsz ?_
             intro v4 w4 hown4 hgr4 hat4
             have hxd:Below w'.heap.size w' w4:=hxc.grown hgr4 hxc.size (fun k hk=>(g1.lt k hk).1)
             have hL:=g3 _ _ hown4 hgr4))
       go_wp2_with fail
       go_ret
       exact ⟨_,rfl,by rw [HP.out];exact hL,hxd⟩
   · have HP:=Lib.hid (Tr.path_small (l:=ll.map Tr.leafH) (by rw [List.length_map];omega) i)
     have hnB:(n:Int)<=1:=by omega
     rw [hn]
     clear hn hA ih
     go_enter Try.func45,Try.ntmps45
     go_wp2_with fail
     go_ret
     exact ⟨_,rfl,by rw [HP.out];exact OwnL.nil_ _ _,Below.refl _ _⟩
end Go.Proofs.Ytfdibjgmbdkbcaa
