/-
  THE WALKS of yearref2.MTH, Path, Proof. Conditions: what is read is a list of bytes, not too many, none too long.
-/
import Derived.Test.YtfdibjgmbdkbcaaYGf
import Derived.Test.YtfdibjgmbdkbcaaYR2A
import Derived.Test.YtfdibjgmbdkbcaaYRSumC
namespace Go.Proofs.Ytfdibjgmbdkbcaa
open Go.RowKit Go.Lib
theorem leaf32 (ll:List Bs):∀ d ∈ ll.map Tr.leafH,d.length=32:=fun d hd=>by obtain ⟨x,_,rfl⟩:=List.mem_map.1 hd;exact Tr.length_leafH x
theorem pair_le {a b:Bs} (ha:a.length<=32) (hb:b.length<=32):(1::(a++b)).length<=140737488355200:=by simp;omega
set_option maxRecDepth 100000 in
set_option maxHeartbeats 1000000 in
theorem root_ref (n:Nat):∀ (w:World) (F:Nat->Prop) (v:Value) (ll:List Bs),BList w F v ll->ll.length=n->n<=128->Short ll →
 Calls Try.prog 43 #[v] w fun e w'=>∃ v,e = .returned v/\OwnB w' w.heap.size v (Tr.root (ll.map Tr.leafH))/\Below w.heap.size w w':=by
 induction n using Nat.strongRecOn with
 | ind n ih =>
   intro w F v ll hl hn hn128 hs
   obtain ⟨A,c,hv,hnc,hcm,hA⟩:=hl.shape
   subst hv
   unfold maxLen at hcm
   by_cases h2:2<=n
   · obtain ⟨b,off,rfl,hF,hb⟩:=hA (by omega)
     have hk1:=Tr.split_lt h2
     have hk0:=Tr.split_pos n
     have hl1:=hl.first (Tr.split n) (by omega)
     have hl2:=hl.rest (Tr.split n) (by omega)
     have hr:Tr.root (ll.map Tr.leafH)=Tr.nodeH (Tr.root ((ll.take (Tr.split n)).map Tr.leafH)) (Tr.root ((ll.drop (Tr.split n)).map Tr.leafH)):=by rw [Tr.root_two (by rw [List.length_map];omega),List.length_map,hn,<-List.map_take,<-List.map_drop]
     have ih1:=ih (Tr.split n) hk1
     have ih2:=ih (n-Tr.split n) (by omega)
     have hs1:(Tr.root ((ll.take (Tr.split n)).map Tr.leafH)).length<=32:=Nat.le_of_eq (Tr.length_root _ (leaf32 _))
     have hs2:(Tr.root ((ll.drop (Tr.split n)).map Tr.leafH)).length<=32:=Nat.le_of_eq (Tr.length_root _ (leaf32 _))
     have hsP:=pair_le hs1 hs2
     have HR:=Lib.hid hr
     have HI1:=Lib.hid ih1
     have HI2:=Lib.hid ih2
     have HI:=Lib.hid ih
     have hl3:(ll.take (Tr.split n)).length=Tr.split n:=by rw [List.length_take];omega
     have hl4:(ll.drop (Tr.split n)).length=n-Tr.split n:=by rw [List.length_drop];omega
     have HL3:=Lib.hid hl3
     have HL4:=Lib.hid hl4
     have hst:=hs.take (Tr.split n)
     have hsd:=hs.drop (Tr.split n)
     rw [hn] at hl2
     clear hr ih1 ih2 ih hl3 hl4
     rw [hn]
     rw [hn] at hnc
     clear hn hA
     have hq:=Split_any n (w:=w) h2 hn128
     have HQ:=Lib.hid hq
     clear hq
     generalize Tr.split n=k at *
     have hnB:((n:Int)==0)=false:=by rw [beq_eq_false_iff_ne];omega
     have hnB1:((n:Int)==1)=false:=by rw [beq_eq_false_iff_ne];omega
     have k0:(0:Int)<=(k:Int):=by omega
     have k1:(k:Int)<=(n:Int):=by omega
     have k2:(k:Int)<=(c:Int):=by omega
     have k3:(n:Int)<=(c:Int):=by omega
     have k4:((c:Int)==(k:Int))=false:=by rw [beq_eq_false_iff_ne];omega
     go_enter Try.func43,Try.ntmps43
     go_wp2_with fail
     refine HQ.out.mono ?_
     rintro e w' ⟨rfl,hw⟩
     subst hw
     go_wp2_with fail
     have hx0:Below w'.heap.size w' w':=Below.refl _ _
     go_region_held3 (fun w'':World=>Below w'.heap.size w' w'') (first | assumption | exact (Below.refl _ _).drew)
      (first
        | ((with_reducible refine (HI1.out _ F (.slice (some ⟨b,off,none⟩) k c) (ll.take k) (hl1.below (by assumption)) HL3.out (by omega) hst).mono ?_)
           rintro e w1 ⟨v1,rfl,hown1,hx1⟩
           have hxa:Below w'.heap.size w' w1:=Below.trans (b:=_) (by assumption) (hx1.mono (Below.size (by assumption))))
        | ((with_reducible refine (HI2.out _ F (.slice (some ⟨b,off+k,none⟩) (n-k) (c-k)) (ll.drop k) (hl2.below (by assumption)) HL4.out (by omega) hsd).mono ?_)
           rintro e w2 ⟨v2,rfl,hown2,hx2⟩
           have hxb:Below w'.heap.size w' w2:=Below.trans (b:=_) (by assumption) (hx2.mono (Below.size (by assumption))))
        | ((with_reducible refine (Pair_any _ _ _ _ _ (Tr.root ((ll.take k).map Tr.leafH)) (Tr.root ((ll.drop k).map Tr.leafH)) ((OwnB.bytes hown1).below hx2) (OwnB.bytes hown2) (by omega)).mono ?_)
           rintro e w3 ⟨v3,rfl,hown3,hx3⟩
           have hxc:Below w'.heap.size w' w3:=Below.trans (b:=_) (by assumption) (hx3.mono (Below.size (by assumption))))
        | ((with_reducible refine (refsum_any _ _ _ (1::((Tr.root ((ll.take k).map Tr.leafH))++(Tr.root ((ll.drop k).map Tr.leafH)))) (OwnB.bytes hown3) hsP).mono ?_)
           rintro e w4 ⟨v4,rfl,hown4,hx4⟩
           have hxd:Below w'.heap.size w' w4:=Below.trans (b:=_) (by assumption) (hx4.mono (Below.size (by assumption)))))
     go_wp2_with fail
     go_ret
     refine ⟨_,rfl,?_,by assumption⟩
     rw [HR.out]
     exact Own.mono hown4 (Below.size (by assumption))
   · by_cases h0:n=0
     · have hll:ll=[]:=List.eq_nil_of_length_eq_zero (by omega)
       subst hll
       have HS:Hid (Tr.root (([]:List Bs).map Tr.leafH)=Sha.sha256 []):=Lib.hid Tr.root_nil
       clear hA ih hn
       simp only [List.length_nil] at *
       go_enter Try.func43,Try.ntmps43
       go_wp2_with fail
       refine (refsum_any w (fun _=>True) _ [] (SlAt.nil_ _ _ _) (by simp)).mono ?_
       rintro e w1 ⟨v1,rfl,hown1,hx1⟩
       go_wp2_with fail
       go_ret
       exact ⟨_,rfl,by rw [HS.out];exact hown1,hx1⟩
     · match ll,hn with
       | [a],hn =>
         obtain ⟨b,off,u,hA,hc,_,hb,hub⟩:=hl.at_ (j:=0) (by simp)
         subst hA
         have hc':w.cell? ⟨b,off,none⟩=some u:=hc
         have hsl:=hs a (by simp)
         have HS:Hid (Tr.root ([a].map Tr.leafH)=Sha.sha256 (0::a)):=Lib.hid (Tr.root_one (Tr.leafH a))
         clear hA ih hn hc
         simp only [List.length_cons,List.length_nil] at *
         go_enter Try.func43,Try.ntmps43
         go_wp2_with fail
         refine (In_any _ _ _ a hub (by omega)).mono ?_
         rintro e w1 ⟨v1,rfl,hown1,hx1⟩
         go_wp2_with fail
         refine (refsum_any _ _ _ (0::a) (OwnB.bytes hown1) (by simp;omega)).mono ?_
         rintro e w2 ⟨v2,rfl,hown2,hx2⟩
         go_wp2_with fail
         go_ret
         exact ⟨_,rfl,by rw [HS.out];exact Own.mono hown2 hx1.size,hx1.trans (hx2.mono hx1.size)⟩
       | [],hn=>exact absurd hn.symm h0
       | _::_::_,hn=>simp at hn;omega
end Go.Proofs.Ytfdibjgmbdkbcaa
