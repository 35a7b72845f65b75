/-
  THE WALKS of tree.root, path, grows. Conditions: what is read is a list of bytes, not too many, none too long. THE WALKS of tree.path, grows. Conditions: what is read is a list of bytes, not too many, none too long. THE WALKS of tree.Root, Path, Grows. Conditions: what is read is a list of bytes. THE WALKS of tree.climb, Stands. Conditions: what is read is bytes, and lists of bytes. THE WALK of tree.Stands. Conditions: what is read is bytes, and lists of bytes. What the walks of tree tell, in the forms that callers want. No conditions. Plain law, no program: who shows what is not so has two texts with one digest. No conditions.
-/
import Derived.Deep.DeepCutAuto
import Derived.Laws.BitsAllLaws
import Derived.Laws.BitsLemmas
import Derived.Test.YtfdibjgmbdkbcaaZGc
namespace Go.Proofs.Ytfdibjgmbdkbcaa
open Go.RowKit Go.Lib
theorem SlAt.rest {w:World} {F:Nat->Prop} {n c:Nat} {b off:Nat} {xs:List Value} (h:SlAt w F 1 (.slice (some ⟨b,off,none⟩) n c) n xs) (k:Nat) (hk:k<=n) :
 SlAt w F 1 (.slice (some ⟨b,off+k,none⟩) (n-k) (c-k)) (n-k) (xs.drop k):=by
 obtain ⟨A',c',hv,h1,h2,h3,h4⟩:=h
 injection hv with e1 e2 e3
 subst e1 e3
 refine ⟨_,c-k,rfl,by omega,by omega,by rw [List.length_drop];omega,fun hp=>?_⟩
 obtain ⟨b',off',hA,hF,hb,hc⟩:=h4 (by omega)
 injection hA with hA
 injection hA with e1 e2
 subst e1 e2
 refine ⟨_,_,rfl,hF,hb,fun j u hu=>?_⟩
 rw [List.getElem?_drop] at hu
 rw [Nat.add_assoc]
 exact hc _ u hu
theorem BList.first {w:World} {F:Nat->Prop} {A:Option Addr} {c:Nat} {ll:List Bs} (h:BList w F (.slice A ll.length c) ll) (k:Nat) (hk:k<=ll.length):BList w F (.slice A k c) (ll.take k):=by
 obtain ⟨vs,h1,h2⟩:=h
 refine ⟨vs.take k,?_,fun i b hb=>?_⟩
 · rw [List.length_take,Nat.min_eq_left hk]
   exact h1.first k hk
 · have hi:i<k:=by
    rcases Nat.lt_or_ge i k with h | h
    · exact h
    · rw [List.getElem?_eq_none (by rw [List.length_take];omega)] at hb;cases hb
   rw [List.getElem?_take_of_lt hi] at hb ⊢
   exact h2 i b hb
theorem BList.rest {w:World} {F:Nat->Prop} {b off c:Nat} {ll:List Bs} (h:BList w F (.slice (some ⟨b,off,none⟩) ll.length c) ll) (k:Nat) (hk:k<=ll.length):BList w F (.slice (some ⟨b,off+k,none⟩) (ll.length-k) (c-k)) (ll.drop k):=by
 obtain ⟨vs,h1,h2⟩:=h
 refine ⟨vs.drop k,?_,fun i b hb=>?_⟩
 · rw [List.length_drop]
   exact h1.rest k hk
 · rw [List.getElem?_drop] at hb ⊢
   exact h2 _ b hb
theorem BList.shape {w:World} {F:Nat->Prop} {v:Value} {ll:List Bs} (h:BList w F v ll):∃ A c,v = .slice A ll.length c/\ll.length<=c/\c<=maxLen/\(0<ll.length->∃ b off,A=some ⟨b,off,none⟩/\F b/\b<w.heap.size):=by
 obtain ⟨vs,⟨A,c,hv,h1,h2,_,h4⟩,_⟩:=h
 refine ⟨A,c,hv,h1,h2,fun hn=>?_⟩
 obtain ⟨b,off,hA,hF,hb,_⟩:=h4 hn
 exact ⟨b,off,hA,hF,hb⟩
def Short (ll:List Bs):Prop:=∀ b ∈ ll,b.length<=1000
theorem Short.take {ll:List Bs} (h:Short ll) (k:Nat):Short (ll.take k):=fun b hb=>h b (List.mem_of_mem_take hb)
theorem Short.drop {ll:List Bs} (h:Short ll) (k:Nat):Short (ll.drop k):=fun b hb=>h b (List.mem_of_mem_drop hb)
theorem Short.root {ll:List Bs} (h:Short ll):(Tr.root ll).length<=1000:=by
 by_cases h2:2<=ll.length
 · rw [Tr.root_two h2,Tr.length_nodeH];omega
 · match ll,h,h2 with
   | [],_,_=>rw [Tr.root_nil,Tr.length_nilH];omega
   | [a],h,_=>rw [Tr.root_one];exact h a (by simp)
   | _::_::_,_,h2=>simp at h2
set_option maxRecDepth 100000 in
set_option maxHeartbeats 1000000 in
theorem root_tree (n:Nat):∀ (w:World) (F:Nat->Prop) (v:Value) (ll:List Bs),BList w F v ll->ll.length=n->n<=128->Short ll →
 Calls Try.prog 99 #[v] w fun e w'=>∃ v,e = .returned v/\OwnB w' w.heap.size v (Tr.root ll)/\Below w.heap.size w w':=by
 induction n using Nat.strongRecOn with
 | ind n ih =>
   intro w F v ll hl hn hn128 hs
   obtain ⟨A,c,hv,hnc,hcm,hA⟩:=hl.shape
   subst hv
   unfold maxLen at hcm
   by_cases h2:2<=n
   · obtain ⟨b,off,rfl,hF,hb⟩:=hA (by omega)
     have hk1:=Tr.split_lt h2
     have hk0:=Tr.split_pos n
     have hl1:=hl.first (Tr.split n) (by omega)
     have hl2:=hl.rest (Tr.split n) (by omega)
     have hr:Tr.root ll=Tr.nodeH (Tr.root (ll.take (Tr.split n))) (Tr.root (ll.drop (Tr.split n))):=by rw [Tr.root_two (by omega),hn]
     have ih1:=ih (Tr.split n) hk1
     have ih2:=ih (n-Tr.split n) (by omega)
     have hs1:=(hs.take (Tr.split n)).root
     have hs2:=(hs.drop (Tr.split n)).root
     have HR:=Lib.hid hr
     have HI1:=Lib.hid ih1
     have HI2:=Lib.hid ih2
     have HI:=Lib.hid ih
     have hl3:(ll.take (Tr.split n)).length=Tr.split n:=by rw [List.length_take];omega
     have hl4:(ll.drop (Tr.split n)).length=n-Tr.split n:=by rw [List.length_drop];omega
     have HL3:=Lib.hid hl3
     have HL4:=Lib.hid hl4
     have hst:=hs.take (Tr.split n)
     have hsd:=hs.drop (Tr.split n)
     rw [hn] at hl2
     clear hr ih1 ih2 ih hl3 hl4
     rw [hn]
     rw [hn] at hnc
     clear hn hA
     have hq:=half_any n (w:=w) h2 hn128
     have HQ:=Lib.hid hq
     clear hq
     generalize Tr.split n=k at *
     have hnB:((n:Int)==0)=false:=by rw [beq_eq_false_iff_ne];omega
     have hnB1:((n:Int)==1)=false:=by rw [beq_eq_false_iff_ne];omega
     have k0:(0:Int)<=(k:Int):=by omega
     have k1:(k:Int)<=(n:Int):=by omega
     have k2:(k:Int)<=(c:Int):=by omega
     have k3:(n:Int)<=(c:Int):=by omega
     have k4:((c:Int)==(k:Int))=false:=by rw [beq_eq_false_iff_ne];omega
     go_enter Try.func99,Try.ntmps99
     go_wp2_with fail
     refine HQ.out.mono ?_
     rintro e w' ⟨rfl,hw⟩
     subst hw
     go_wp2_with fail
     have hx0:Below w'.heap.size w' w':=Below.refl _ _
     go_region_held3 (fun w'':World=>Below w'.heap.size w' w'') (first | assumption | exact (Below.refl _ _).drew)
      (first
        | ((with_reducible refine (HI1.out _ F (.slice (some ⟨b,off,none⟩) k c) (ll.take k) (hl1.below (by assumption)) HL3.out (by omega) hst).mono ?_)
           rintro e w1 ⟨v1,rfl,hown1,hx1⟩
           have hxa:Below w'.heap.size w' w1:=Below.trans (b:=_) (by assumption) (hx1.mono (Below.size (by assumption))))
        | ((with_reducible refine (HI2.out _ F (.slice (some ⟨b,off+k,none⟩) (n-k) (c-k)) (ll.drop k) (hl2.below (by assumption)) HL4.out (by omega) hsd).mono ?_)
           rintro e w2 ⟨v2,rfl,hown2,hx2⟩
           have hxb:Below w'.heap.size w' w2:=Below.trans (b:=_) (by assumption) (hx2.mono (Below.size (by assumption))))
        | ((with_reducible refine (node_any _ _ _ _ _ (Tr.root (ll.take k)) (Tr.root (ll.drop k)) ((OwnB.bytes hown1).below hx2) (OwnB.bytes hown2) (by omega)).mono ?_)
           rintro e w3 ⟨v3,rfl,hown3,hx3⟩
           have hxc:Below w'.heap.size w' w3:=Below.trans (b:=_) (by assumption) (hx3.mono (Below.size (by assumption)))))
     go_wp2_with fail
     go_ret
     refine ⟨_,rfl,?_,by assumption⟩
     rw [HR.out]
     exact Own.mono hown3 (Below.size (by assumption))
   · by_cases h0:n=0
     · have hll:ll=[]:=List.eq_nil_of_length_eq_zero (by omega)
       subst hll
       have HS:=Lib.hid (Tr.root_nil)
       clear hA ih hn
       simp only [List.length_nil] at *
       go_enter Try.func99,Try.ntmps99
       go_wp2_with fail
       refine (sum_any w (fun _=>True) _ [] (SlAt.nil_ _ _ _) (by simp)).mono ?_
       rintro e w1 ⟨v1,rfl,hown1,hx1⟩
       go_wp2_with fail
       go_ret
       exact ⟨_,rfl,by rw [HS.out];exact hown1,hx1⟩
     · match ll,hn with
       | [a],hn =>
         obtain ⟨b,off,u,hA,hc,_,hb,hub⟩:=hl.at_ (j:=0) (by simp)
         subst hA
         have hc':w.cell? ⟨b,off,none⟩=some u:=hc
         have hsl:=hs a (by simp)
         have HS:=Lib.hid (Tr.root_one a)
         clear hA ih hn hc
         simp only [List.length_cons,List.length_nil] at *
         go_enter Try.func99,Try.ntmps99
         go_wp2_with fail
         refine (clone_any _ _ _ a hub (by omega)).mono ?_
         rintro e w1 ⟨v1,rfl,hown1,hx1⟩
         go_wp2_with fail
         go_ret
         exact ⟨_,rfl,by rw [HS.out];exact hown1,hx1⟩
       | [],hn=>exact absurd hn.symm h0
       | _::_::_,hn=>simp at hn;omega
end Go.Proofs.Ytfdibjgmbdkbcaa
namespace Go.Proofs.Ytfdibjgmbdkbcaa
open Go.RowKit Go.Lib
theorem path_le {ll:List Bs} {n:Nat} (h:ll.length=n) (hn:n<=128) (i:Nat):(Tr.path ll i).length<=7:=by
 rw [Tr.length_path n ll i h]
 exact Tr.depth_le 7 i n hn
set_option maxRecDepth 100000 in
set_option maxHeartbeats 1000000 in
theorem path_any (n:Nat):∀ (w:World) (F:Nat->Prop) (v:Value) (ll:List Bs) (i:Nat) (z:Int),BList w F v ll->ll.length=n->n<=128->i<=128->z=(i:Int)->Short ll →
 Calls Try.prog 101 #[v,.int .i64 z] w fun e w'=>∃ v,e = .returned v/\OwnL w' w.heap.size v (Tr.path ll i)/\Below w.heap.size w w':=by
 induction n using Nat.strongRecOn with
 | ind n ih =>
   intro w F v ll i z hl hn hn128 hi128 hz hs
   subst hz
   obtain ⟨i0,hi,hz0,hz1,hz2⟩:=info_parts info_bytes
   obtain ⟨A,c,hv,hnc,hcm,hA⟩:=hl.shape
   subst hv
   unfold maxLen at hcm
   by_cases h2:2<=n
   · obtain ⟨b,off,rfl,hF,hb⟩:=hA (by omega)
     have hk1:=Tr.split_lt h2
     have hk0:=Tr.split_pos n
     have hl1:=hl.first (Tr.split n) (by omega)
     have hl2:=hl.rest (Tr.split n) (by omega)
     have hs1:=hs.take (Tr.split n)
     have hs2:=hs.drop (Tr.split n)
     have hn1:(ll.take (Tr.split n)).length=Tr.split n:=by rw [List.length_take];omega
     have hn2:(ll.drop (Tr.split n)).length=n-Tr.split n:=by rw [List.length_drop];omega
     have hq:=half_any n (w:=w) h2 hn128
     have HQ:=Lib.hid hq
     have h2':2<=ll.length:=by omega
     have hp1:i<Tr.split n->Tr.path ll i=Tr.path (ll.take (Tr.split n)) i++[Tr.root (ll.drop (Tr.split n))]:=fun h=>by
      rw [Tr.path_left h2' (by rw [hn];exact h),hn]
     have hp2:¬ i<Tr.split n->Tr.path ll i=Tr.path (ll.drop (Tr.split n)) (i-Tr.split n)++[Tr.root (ll.take (Tr.split n))]:=fun h=>by
      rw [Tr.path_right h2' (by rw [hn];exact h),hn]
     have ih1:=ih (Tr.split n) hk1
     have ih2:=ih (n-Tr.split n) (by omega)
     have r1:=root_tree (Tr.split n)
     have r2:=root_tree (n-Tr.split n)
     rw [hn] at hl2
     rw [hn]
     rw [hn] at hnc
     clear hn hA hq h2' ih
     generalize Tr.split n=k at *
     have hq1:=path_le hn1 (by omega) i
     have hq2:=path_le hn2 (by omega) (i-k)
     have HN1:=Lib.hid hn1
     have HN2:=Lib.hid hn2
     have HI1:=Lib.hid ih1
     have HI2:=Lib.hid ih2
     have HR1:=Lib.hid r1
     have HR2:=Lib.hid r2
     have HP1:=Lib.hid hp1
     have HP2:=Lib.hid hp2
     clear hn1 hn2 ih1 ih2 r1 r2 hp1 hp2
     have hnB:decide ((n:Int)<2)=false:=by simp;omega
     have k0:(0:Int)<=(k:Int):=by omega
     have k1:(k:Int)<=(n:Int):=by omega
     have k2:(k:Int)<=(c:Int):=by omega
     have k3:(n:Int)<=(c:Int):=by omega
     have k4:((c:Int)==(k:Int))=false:=by rw [beq_eq_false_iff_ne];omega
     have k5:¬ c=k:=by omega
     by_cases hik:i<k
     · have hikB:(i:Int)<(k:Int):=by omega
       have HP:=Lib.hid (HP1.out hik)
       clear HP1 HP2
       go_enter Try.func101,Try.ntmps101
       go_wp2_with fail
       refine HQ.out.mono ?_
       rintro e w' ⟨rfl,hw⟩
       subst hw
       go_wp2_with fail
       go_region_held3 (fun w'':World=>Below w'.heap.size w' w'') (first | assumption | exact (Below.refl _ _).drew)
        (first
          | ((with_reducible refine (HI1.out _ F (.slice (some ⟨b,off,none⟩) k c) (ll.take k) i _ (hl1.below (by assumption)) HN1.out (by omega) (by omega) (by omega) hs1).mono ?_)
             rintro e w1 ⟨v1,rfl,⟨vs,hown1,hin1⟩,hx1⟩
             have hxa:Below w'.heap.size w' w1:=Below.trans (b:=_) (by assumption) (hx1.mono (Below.size (by assumption))))
          | ((with_reducible refine (HR2.out _ F (.slice (some ⟨b,off+k,none⟩) (n-k) (c-k)) (ll.drop k) (hl2.below (by assumption)) HN2.out (by omega) hs2).mono ?_)
             rintro e w2 ⟨v2,rfl,hown2,hx2⟩
             obtain ⟨A3,c3,hv3,_,_⟩:=Own.shape hown2
             subst hv3
             have hxb:Below w'.heap.size w' w2:=Below.trans (b:=_) (by assumption) (hx2.mono (Below.size (by assumption)))
             obtain ⟨g1,g2,g3⟩:=OwnL.prep (B:=w'.heap.size) ((hown1.below hx2).mono (Nat.le_refl _)) (fun i b hb=>by obtain ⟨u,hu,ho⟩:=hin1 i b hb;exact ⟨u,hu,OwnB.below ho hx2⟩) (OwnB.mono hown2 hxa.size)
             have hxc:=hxb.alloc hxb.size (.cells #[.slice A3 (Tr.root (ll.drop k)).length c3] 22)
             have hsz:=hxc.size)
          | (refine step_append_Own _ (by rfl) (.tmp 19) (.tmp 24) 40 (by rfl) w'.heap.size 22 i0 _ 1 24 Try.underlying40 hi hz0 hz1 hz2 (by rfl) (by omega) _ _ _ (by rfl) g1 _ _ _ _ (by rfl) g2 (by simp [Value.oneCell']) (by simp only [maxLen];omega) (by omega) hsz ?_
             intro v4 w4 hown4 hgr4 hat4
             have hxd:Below w'.heap.size w' w4:=hxc.grown hgr4 hxc.size (fun k hk=>(g1.lt k hk).1)
             have hL:=g3 _ _ hown4 hgr4))
       go_wp2_with fail
       go_ret
       exact ⟨_,rfl,by rw [HP.out];exact hL,hxd⟩
     · have hikB:decide ((i:Int)<(k:Int))=false:=by simp;omega
       have HP:=Lib.hid (HP2.out hik)
       have kW:IntKind.i64.wrap ((i:Int)-(k:Int))=(i:Int)-(k:Int):=IntWalk.i64_in _ (by omega)
       clear HP1 HP2
       go_enter Try.func101,Try.ntmps101
       go_wp2_with fail
       refine HQ.out.mono ?_
       rintro e w' ⟨rfl,hw⟩
       subst hw
       go_wp2_with fail
       go_region_held3 (fun w'':World=>Below w'.heap.size w' w'') (first | assumption | exact (Below.refl _ _).drew)
        (first
          | ((with_reducible refine (HI2.out _ F (.slice (some ⟨b,off+k,none⟩) (n-k) (c-k)) (ll.drop k) (i-k) _ (hl2.below (by assumption)) HN2.out (by omega) (by omega) (by omega) hs2).mono ?_)
             rintro e w1 ⟨v1,rfl,⟨vs,hown1,hin1⟩,hx1⟩
             have hxa:Below w'.heap.size w' w1:=Below.trans (b:=_) (by assumption) (hx1.mono (Below.size (by assumption))))
          | ((with_reducible refine (HR1.out _ F (.slice (some ⟨b,off,none⟩) k c) (ll.take k) (hl1.below (by assumption)) HN1.out (by omega) hs1).mono ?_)
             rintro e w2 ⟨v2,rfl,hown2,hx2⟩
             obtain ⟨A3,c3,hv3,_,_⟩:=Own.shape hown2
             subst hv3
             have hxb:Below w'.heap.size w' w2:=Below.trans (b:=_) (by assumption) (hx2.mono (Below.size (by assumption)))
             obtain ⟨g1,g2,g3⟩:=OwnL.prep (B:=w'.heap.size) ((hown1.below hx2).mono (Nat.le_refl _)) (fun i b hb=>by obtain ⟨u,hu,ho⟩:=hin1 i b hb;exact ⟨u,hu,OwnB.below ho hx2⟩) (OwnB.mono hown2 hxa.size)
             have hxc:=hxb.alloc hxb.size (.cells #[.slice A3 (Tr.root (ll.take k)).length c3] 22)
             have hsz:=hxc.size)
          | (refine step_append_Own _ (by rfl) (.tmp 32) (.tmp 37) 40 (by rfl) w'.heap.size 22 i0 _ 1 24 Try.underlying40 hi hz0 hz1 hz2 (by rfl) (by omega) _ _ _ (by rfl) g1 _ _ _ _ (by rfl) g2 (by simp [Value.oneCell']) (by simp only [maxLen];omega) (by omega) hsz ?_
             intro v4 w4 hown4 hgr4 hat4
             have hxd:Below w'.heap.size w' w4:=hxc.grown hgr4 hxc.size (fun k hk=>(g1.lt k hk).1)
             have hL:=g3 _ _ hown4 hgr4))
       go_wp2_with fail
       go_ret
       exact ⟨_,rfl,by rw [HP.out];exact hL,hxd⟩
   · have HP:=Lib.hid (Tr.path_small (l:=ll) (by omega) i)
     have hnB:(n:Int)<2:=by omega
     rw [hn]
     clear hn hA ih
     go_enter Try.func101,Try.ntmps101
     go_wp2_with fail
     go_ret
     exact ⟨_,rfl,by rw [HP.out];exact OwnL.nil_ _ _,Below.refl _ _⟩
end Go.Proofs.Ytfdibjgmbdkbcaa
namespace Go.Proofs.Ytfdibjgmbdkbcaa
open Go.RowKit Go.Lib
theorem Fine.short {ll:List Bs} (h:Fine ll):Short ll:=fun b hb=>by have:=h.2 b hb;omega
theorem short_leaves (ll:List Bs):Short (ll.map Tr.leafH):=fun b hb=>by
 obtain ⟨x,_,rfl⟩:=List.mem_map.1 hb
 rw [Tr.length_leafH];omega
theorem OwnL.setBlk {w:World} {B g:Nat} {v:Value} {ll:List Bs} {t:TypeId} {cs:Array Value} (h:OwnL w B v ll) (hg:Blk w g t cs) (h1:5≠t) (h2:22≠t) (i:Nat) (u:Value):OwnL (w.setCell ⟨g,i,none⟩ u) B v ll:=by
 obtain ⟨vs,ho,hin⟩:=h
 refine ⟨vs,ho.setCell (p:=⟨g,i,none⟩) (ho.ne_blk hg h2) u,fun j b hb=>?_⟩
 obtain ⟨x,hx,hb⟩:=hin j b hb
 exact ⟨x,hx,Own.setCell (p:=⟨g,i,none⟩) hb (Own.ne_blk hb hg h1) u⟩
set_option maxRecDepth 100000 in
set_option maxHeartbeats 1000000 in
theorem Root_any (w:World) (F:Nat->Prop) (v:Value) (ll:List Bs) (hl:BList w F v ll) :
 Calls Try.prog 40 #[v] w fun e w'=>∃ rv,e = .returned (.tuple #[rv,fv (wrongS ll)])/\(Fine ll->OwnB w' w.heap.size rv (Tr.root (ll.map Tr.leafH)))/\(¬ Fine ll->rv = .slice none 0 0)/\Below w.heap.size w w':=by
 obtain ⟨A,c,hv,hnc,hcm,_⟩:=hl.shape
 subst hv
 have hok:=wrongS_ok ll
 have hze:=wrongS_zero ll
 have hx0:Below w.heap.size w (w.alloc (.cells #[.int .i64 0,.int .i64 0] 32)):=(Below.refl _ _).alloc (Nat.le_refl _) _
 have hl0:=hl.alloc (.cells #[.int .i64 0,.int .i64 0] 32)
 have hw:=wrong_any _ F _ ll hl0
 have hle:=wrongS_le ll
 generalize wrongS ll=p at *
 obtain ⟨a,b⟩:=p
 dsimp only at hok hle
 have HOK:=Lib.hid hok
 have HZ:=Lib.hid hze
 have HW:=Lib.hid hw
 clear hok hze hw
 go_enter Try.func40,Try.ntmps40
 go_wp2_with fail
 refine HW.out.mono ?_
 rintro e w1 ⟨rfl,hx1⟩
 unfold fv
 dsimp only
 have hxa:=hx0.trans (hx1.mono hx0.size)
 have hs1:=hxa.size
 have hc0:w1.cell? ⟨w.heap.size,0,none⟩=some (.int .i64 0):=(hx1.cell (p:=⟨w.heap.size,0,none⟩) (by simp)).trans (by rw [World.cell?_alloc_mark];rfl)
 have hc1:w1.cell? ⟨w.heap.size,1,none⟩=some (.int .i64 0):=(hx1.cell (p:=⟨w.heap.size,1,none⟩) (by simp)).trans (by rw [World.cell?_alloc_mark];rfl)
 by_cases h0:a=0
 · have hB:((a:Int) != 0)=false:=by rw [bne_eq_false_iff_eq];omega
   have hfine:Fine ll:=HOK.out.1 h0
   have hz:=HZ.out h0
   simp only [Prod.mk.injEq] at hz
   obtain ⟨rfl,rfl⟩:=hz
   have hxb:=hxa.alloc hs1 (.cells #[.int .i64 0,.int .i64 0] 32)
   have hb1:Blk w1 w.heap.size 32 #[.int .i64 0,.int .i64 0]:=Blk.keep (heap_alloc_new w _) (hx1.block _ (by simp))
   have hb2:=hb1.alloc (.cells #[.int .i64 0,.int .i64 0] 32)
   have hlt:w.heap.size<w1.heap.size:=by have:=hx1.size;simp at this;omega
   have hl2:=(hl.below hxa).alloc (.cells #[.int .i64 0,.int .i64 0] 32)
   clear h0
   go_wp2_with fail
   refine (leaves_any _ _ _ ll hl2 (by have:=hfine.1;omega) (fun b hb=>by have:=hfine.2 b hb;omega)).mono ?_
   rintro e w3 ⟨v3,rfl,hown3,hx3⟩
   have hb3:=hb2.below hx3 (by simp;omega)
   have hxc:=hxb.trans (hx3.mono hxb.size)
   go_wp2_with fail
   refine (root_tree ll.length w3 _ v3 (ll.map Tr.leafH) hown3.blist (by simp) (by have:=hfine.1;omega) (short_leaves ll)).mono ?_
   rintro e w4 ⟨v4,rfl,hown4,hx4⟩
   have hb4:=hb3.below hx4 (by have:=hxc.size;have:=hx3.size;simp at this;omega)
   have hxd:=hxc.trans (hx4.mono hxc.size)
   have e0:w4.cell? ⟨w.heap.size,0,none⟩=some (.int .i64 0):=hb4.cell 0
   have e1:w4.cell? ⟨w.heap.size,1,none⟩=some (.int .i64 0):=hb4.cell 1
   have f0:=hb4.frozen 0
   have f1:=hb4.frozen 1
   go_wp2_with fail
   have hne:=Own.ne_blk hown4 hb4 (by decide)
   have hb5:=(hb4.set_ 0 (.int .i64 0)).set_ 1 (.int .i64 0)
   have ho5:=(Own.setCell (p:=⟨w.heap.size,0,none⟩) (OwnB.mono hown4 hxc.size) hne (.int .i64 0)).setCell (p:=⟨w.heap.size,1,none⟩) hne (.int .i64 0)
   have hxe:=(hxd.setCell (p:=⟨w.heap.size,0,none⟩) (Nat.le_refl _) (.int .i64 0)).setCell (p:=⟨w.heap.size,1,none⟩) (Nat.le_refl _) (.int .i64 0)
   generalize (w4.setCell ⟨w.heap.size,0,none⟩ (.int .i64 0)).setCell ⟨w.heap.size,1,none⟩ (.int .i64 0)=w5 at *
   have e4:w5.cell? ⟨w.heap.size,0,none⟩=some (.int .i64 0):=hb5.cell 0
   have e5:w5.cell? ⟨w.heap.size,1,none⟩=some (.int .i64 0):=hb5.cell 1
   exact bodyPost_ret (v:=.tuple #[v4,.agg #[.int .i64 0,.int .i64 0]]) (by simp [results,Try.results40,go_sem,e4,e5]) rfl ⟨_,rfl,fun _=>ho5,fun h=>absurd hfine h,hxe⟩
 · have hB:((a:Int) != 0)=true:=by rw [bne_iff_ne];omega
   go_wp2_with fail
   have hxb:=hxa.alloc hs1 (.cells #[.int .i64 (a:Int),.int .i64 (b:Int)] 32)
   have hb1:Blk w1 w.heap.size 32 #[.int .i64 0,.int .i64 0]:=Blk.keep (heap_alloc_new w _) (hx1.block _ (by simp))
   have hb2:=hb1.alloc (.cells #[.int .i64 (a:Int),.int .i64 (b:Int)] 32)
   have hb3:Blk (w1.alloc (.cells #[.int .i64 (a:Int),.int .i64 (b:Int)] 32)) w1.heap.size 32 #[.int .i64 (a:Int),.int .i64 (b:Int)]:=heap_alloc_new w1 _
   have hlt:w.heap.size<w1.heap.size:=by have:=hx1.size;simp at this;omega
   generalize (w1.alloc (.cells #[.int .i64 (a:Int),.int .i64 (b:Int)] 32))=w2 at *
   have e0:w2.cell? ⟨w.heap.size,0,none⟩=some (.int .i64 0):=hb2.cell 0
   have e1:w2.cell? ⟨w.heap.size,1,none⟩=some (.int .i64 0):=hb2.cell 1
   have f0:=hb2.frozen 0
   have f1:=hb2.frozen 1
   have e2:w2.cell? ⟨w1.heap.size,0,none⟩=some (.int .i64 (a:Int)):=hb3.cell 0
   have e3:w2.cell? ⟨w1.heap.size,1,none⟩=some (.int .i64 (b:Int)):=hb3.cell 1
   have hb4:Blk ((w2.setCell ⟨w.heap.size,0,none⟩ (.int .i64 (a:Int))).setCell ⟨w.heap.size,1,none⟩ (.int .i64 (b:Int))).drew w.heap.size 32 #[.int .i64 (a:Int),.int .i64 (b:Int)]:=((hb2.set_ 0 (.int .i64 (a:Int))).set_ 1 (.int .i64 (b:Int))).drewN 1
   have hxc:Below w.heap.size w ((w2.setCell ⟨w.heap.size,0,none⟩ (.int .i64 (a:Int))).setCell ⟨w.heap.size,1,none⟩ (.int .i64 (b:Int))).drew:=((hxb.setCell (p:=⟨w.heap.size,0,none⟩) (Nat.le_refl _) _).setCell (p:=⟨w.heap.size,1,none⟩) (Nat.le_refl _) _).drew
   go_region
   go_wp2_with fail
   generalize ((w2.setCell ⟨w.heap.size,0,none⟩ (.int .i64 (a:Int))).setCell ⟨w.heap.size,1,none⟩ (.int .i64 (b:Int))).drew=w3 at *
   have e4:w3.cell? ⟨w.heap.size,0,none⟩=some (.int .i64 (a:Int)):=hb4.cell 0
   have e5:w3.cell? ⟨w.heap.size,1,none⟩=some (.int .i64 (b:Int)):=hb4.cell 1
   exact bodyPost_ret (v:=.tuple #[.slice none 0 0,.agg #[.int .i64 (a:Int),.int .i64 (b:Int)]]) (by simp [results,Try.results40,go_sem,e4,e5]) rfl ⟨_,rfl,fun h=>absurd (HOK.out.2 h) h0,fun _=>rfl,hxc⟩
def pathF (ll:List Bs) (z:Int):Nat × Nat:=if (wrongS ll).1≠0 then wrongS ll else if 0<=z/\z<ll.length then (0,0) else (6,0)
set_option maxRecDepth 100000 in
set_option maxHeartbeats 1000000 in
theorem Path_any (w:World) (F:Nat->Prop) (v:Value) (ll:List Bs) (z:Int) (hl:BList w F v ll) :
 Calls Try.prog 41 #[v,.int .i64 z] w fun e w'=>∃ rv,e = .returned (.tuple #[rv,fv (pathF ll z)])/\((pathF ll z).1=0->OwnL w' w.heap.size rv (Tr.path (ll.map Tr.leafH) z.toNat))/\((pathF ll z).1≠0->rv = .slice none 0 0)/\Below w.heap.size w w':=by
 obtain ⟨A,c,hv,hnc,hcm,_⟩:=hl.shape
 subst hv
 have hok:=wrongS_ok ll
 have hze:=wrongS_zero ll
 have hx0:Below w.heap.size w (w.alloc (.cells #[.int .i64 0,.int .i64 0] 32)):=(Below.refl _ _).alloc (Nat.le_refl _) _
 have hl0:=hl.alloc (.cells #[.int .i64 0,.int .i64 0] 32)
 have hw:=wrong_any _ F _ ll hl0
 have hle:=wrongS_le ll
 have hpf:pathF ll z=if (wrongS ll).1≠0 then wrongS ll else if 0<=z/\z<ll.length then (0,0) else (6,0):=rfl
 generalize wrongS ll=p at *
 obtain ⟨a,b⟩:=p
 dsimp only at hok hle hpf
 have HPF:=Lib.hid hpf
 clear hpf
 have HOK:=Lib.hid hok
 have HZ:=Lib.hid hze
 have HW:=Lib.hid hw
 clear hok hze hw
 go_enter Try.func41,Try.ntmps41
 go_wp2_with fail
 refine HW.out.mono ?_
 rintro e w1 ⟨rfl,hx1⟩
 unfold fv
 dsimp only
 have hxa:=hx0.trans (hx1.mono hx0.size)
 have hs1:=hxa.size
 have hc0:w1.cell? ⟨w.heap.size,0,none⟩=some (.int .i64 0):=(hx1.cell (p:=⟨w.heap.size,0,none⟩) (by simp)).trans (by rw [World.cell?_alloc_mark];rfl)
 have hc1:w1.cell? ⟨w.heap.size,1,none⟩=some (.int .i64 0):=(hx1.cell (p:=⟨w.heap.size,1,none⟩) (by simp)).trans (by rw [World.cell?_alloc_mark];rfl)
 by_cases h0:a=0
 · have hB:((a:Int) != 0)=false:=by rw [bne_eq_false_iff_eq];omega
   have hfine:Fine ll:=HOK.out.1 h0
   have hz:=HZ.out h0
   simp only [Prod.mk.injEq] at hz
   obtain ⟨rfl,rfl⟩:=hz
   have hxb:=hxa.alloc hs1 (.cells #[.int .i64 0,.int .i64 0] 32)
   have hb1:Blk w1 w.heap.size 32 #[.int .i64 0,.int .i64 0]:=Blk.keep (heap_alloc_new w _) (hx1.block _ (by simp))
   have hb2:=hb1.alloc (.cells #[.int .i64 0,.int .i64 0] 32)
   have hlt:w.heap.size<w1.heap.size:=by have:=hx1.size;simp at this;omega
   have hl2:=(hl.below hxa).alloc (.cells #[.int .i64 0,.int .i64 0] 32)
   have HQ:Hid (pathF ll z=if 0<=z/\z<ll.length then (0,0) else (6,0)):=Lib.hid (by rw [HPF.out,if_neg (by simp)])
   clear h0 HPF HOK HZ HW
   have k0:=hb1.frozen 0
   have k1:=hb1.frozen 1
   by_cases hr:0<=z/\z<ll.length
   · have HP:Hid (pathF ll z=(0,0)):=Lib.hid (by rw [HQ.out,if_pos hr])
     obtain ⟨hz0,hz1⟩:=hr
     have hB0:decide (z<0)=false:=by simp;omega
     have hB1:decide ((ll.length:Int)<=z)=false:=by simp;omega
     have hzn:z=((z.toNat:Nat):Int):=by omega
     have hzl:z.toNat<=128:=by have:=hfine.1;omega
     have HZ:=Lib.hid hzn
     clear hzn k0 k1
     go_wp2_with fail
     refine (leaves_any _ _ _ ll hl2 (by have:=hfine.1;omega) (fun b hb=>by have:=hfine.2 b hb;omega)).mono ?_
     rintro e w3 ⟨v3,rfl,hown3,hx3⟩
     have hb3:=hb2.below hx3 (by simp;omega)
     have hxc:=hxb.trans (hx3.mono hxb.size)
     go_wp2_with fail
     refine (path_any ll.length w3 _ v3 (ll.map Tr.leafH) z.toNat z hown3.blist (by simp) (by have:=hfine.1;omega) hzl HZ.out (short_leaves ll)).mono ?_
     rintro e w4 ⟨v4,rfl,⟨vs,hown4,hin4⟩,hx4⟩
     have hb4:=hb3.below hx4 (by have:=hxc.size;have:=hx3.size;simp at this;omega)
     have hxd:=hxc.trans (hx4.mono hxc.size)
     have e0:w4.cell? ⟨w.heap.size,0,none⟩=some (.int .i64 0):=hb4.cell 0
     have e1:w4.cell? ⟨w.heap.size,1,none⟩=some (.int .i64 0):=hb4.cell 1
     have f0:=hb4.frozen 0
     have f1:=hb4.frozen 1
     go_wp2_with fail
     have ho5:=OwnL.setBlk (OwnL.setBlk (OwnL.mono ⟨vs,hown4,hin4⟩ hxc.size) hb4 (by decide) (by decide) 0 (.int .i64 0)) (hb4.set_ 0 (.int .i64 0)) (by decide) (by decide) 1 (.int .i64 0)
     have hb5:=(hb4.set_ 0 (.int .i64 0)).set_ 1 (.int .i64 0)
     have hxe:=(hxd.setCell (p:=⟨w.heap.size,0,none⟩) (Nat.le_refl _) (.int .i64 0)).setCell (p:=⟨w.heap.size,1,none⟩) (Nat.le_refl _) (.int .i64 0)
     generalize (w4.setCell ⟨w.heap.size,0,none⟩ (.int .i64 0)).setCell ⟨w.heap.size,1,none⟩ (.int .i64 0)=w5 at *
     have e4:w5.cell? ⟨w.heap.size,0,none⟩=some (.int .i64 0):=hb5.cell 0
     have e5:w5.cell? ⟨w.heap.size,1,none⟩=some (.int .i64 0):=hb5.cell 1
     exact bodyPost_ret (v:=.tuple #[v4,.agg #[.int .i64 0,.int .i64 0]]) (by simp [results,Try.results41,go_sem,e4,e5]) rfl ⟨_,by rw [HP.out];rfl,fun _=>ho5,fun h=>absurd (by rw [HP.out]) h,hxe⟩
   · have HP:Hid (pathF ll z=(6,0)):=Lib.hid (by rw [HQ.out,if_neg hr])
     have hb5:=((hb1.set_ 0 (.int .i64 6)).set_ 1 (.int .i64 0)).alloc (.cells #[.int .i64 0,.int .i64 0] 32)
     have hxe:=((hxa.setCell (p:=⟨w.heap.size,0,none⟩) (Nat.le_refl _) (.int .i64 6)).setCell (p:=⟨w.heap.size,1,none⟩) (Nat.le_refl _) (.int .i64 0)).alloc (by simpa using hs1) (.cells #[.int .i64 0,.int .i64 0] 32)
     have hr':z<0\/¬ z<0/\(ll.length:Int)<=z:=by omega
     rcases hr' with hz | ⟨hz0,hz1⟩
     · have hB0:decide (z<0)=true:=by simp;omega
       clear hr
       go_wp2_with fail
       generalize (((w1.setCell ⟨w.heap.size,0,none⟩ (.int .i64 6)).setCell ⟨w.heap.size,1,none⟩ (.int .i64 0)).alloc (.cells #[.int .i64 0,.int .i64 0] 32))=w5 at *
       have e4:w5.cell? ⟨w.heap.size,0,none⟩=some (.int .i64 6):=hb5.cell 0
       have e5:w5.cell? ⟨w.heap.size,1,none⟩=some (.int .i64 0):=hb5.cell 1
       exact bodyPost_ret (v:=.tuple #[.slice none 0 0,.agg #[.int .i64 6,.int .i64 0]]) (by simp [results,Try.results41,go_sem,e4,e5]) rfl ⟨_,by rw [HP.out];rfl,fun h=>by rw [HP.out] at h;exact absurd h (by decide),fun _=>rfl,hxe⟩
     · have hB0:decide (z<0)=false:=by simp;omega
       have hB1:decide ((ll.length:Int)<=z)=true:=by simp;omega
       clear hr
       go_wp2_with fail
       generalize (((w1.setCell ⟨w.heap.size,0,none⟩ (.int .i64 6)).setCell ⟨w.heap.size,1,none⟩ (.int .i64 0)).alloc (.cells #[.int .i64 0,.int .i64 0] 32))=w5 at *
       have e4:w5.cell? ⟨w.heap.size,0,none⟩=some (.int .i64 6):=hb5.cell 0
       have e5:w5.cell? ⟨w.heap.size,1,none⟩=some (.int .i64 0):=hb5.cell 1
       exact bodyPost_ret (v:=.tuple #[.slice none 0 0,.agg #[.int .i64 6,.int .i64 0]]) (by simp [results,Try.results41,go_sem,e4,e5]) rfl ⟨_,by rw [HP.out];rfl,fun h=>by rw [HP.out] at h;exact absurd h (by decide),fun _=>rfl,hxe⟩
 · have hB:((a:Int) != 0)=true:=by rw [bne_iff_ne];omega
   go_wp2_with fail
   have hxb:=hxa.alloc hs1 (.cells #[.int .i64 (a:Int),.int .i64 (b:Int)] 32)
   have hb1:Blk w1 w.heap.size 32 #[.int .i64 0,.int .i64 0]:=Blk.keep (heap_alloc_new w _) (hx1.block _ (by simp))
   have hb2:=hb1.alloc (.cells #[.int .i64 (a:Int),.int .i64 (b:Int)] 32)
   have hb3:Blk (w1.alloc (.cells #[.int .i64 (a:Int),.int .i64 (b:Int)] 32)) w1.heap.size 32 #[.int .i64 (a:Int),.int .i64 (b:Int)]:=heap_alloc_new w1 _
   have hlt:w.heap.size<w1.heap.size:=by have:=hx1.size;simp at this;omega
   generalize (w1.alloc (.cells #[.int .i64 (a:Int),.int .i64 (b:Int)] 32))=w2 at *
   have e0:w2.cell? ⟨w.heap.size,0,none⟩=some (.int .i64 0):=hb2.cell 0
   have e1:w2.cell? ⟨w.heap.size,1,none⟩=some (.int .i64 0):=hb2.cell 1
   have f0:=hb2.frozen 0
   have f1:=hb2.frozen 1
   have e2:w2.cell? ⟨w1.heap.size,0,none⟩=some (.int .i64 (a:Int)):=hb3.cell 0
   have e3:w2.cell? ⟨w1.heap.size,1,none⟩=some (.int .i64 (b:Int)):=hb3.cell 1
   have hb4:Blk ((w2.setCell ⟨w.heap.size,0,none⟩ (.int .i64 (a:Int))).setCell ⟨w.heap.size,1,none⟩ (.int .i64 (b:Int))).drew w.heap.size 32 #[.int .i64 (a:Int),.int .i64 (b:Int)]:=((hb2.set_ 0 (.int .i64 (a:Int))).set_ 1 (.int .i64 (b:Int))).drewN 1
   have hxc:Below w.heap.size w ((w2.setCell ⟨w.heap.size,0,none⟩ (.int .i64 (a:Int))).setCell ⟨w.heap.size,1,none⟩ (.int .i64 (b:Int))).drew:=((hxb.setCell (p:=⟨w.heap.size,0,none⟩) (Nat.le_refl _) _).setCell (p:=⟨w.heap.size,1,none⟩) (Nat.le_refl _) _).drew
   go_region
   go_wp2_with fail
   generalize ((w2.setCell ⟨w.heap.size,0,none⟩ (.int .i64 (a:Int))).setCell ⟨w.heap.size,1,none⟩ (.int .i64 (b:Int))).drew=w3 at *
   have e4:w3.cell? ⟨w.heap.size,0,none⟩=some (.int .i64 (a:Int)):=hb4.cell 0
   have e5:w3.cell? ⟨w.heap.size,1,none⟩=some (.int .i64 (b:Int)):=hb4.cell 1
   exact bodyPost_ret (v:=.tuple #[.slice none 0 0,.agg #[.int .i64 (a:Int),.int .i64 (b:Int)]]) (by simp [results,Try.results41,go_sem,e4,e5]) rfl ⟨_,by rw [HPF.out,if_pos h0];rfl,fun h=>by rw [HPF.out,if_pos h0] at h;exact absurd h h0,fun _=>rfl,hxc⟩
end Go.Proofs.Ytfdibjgmbdkbcaa
namespace Go.Proofs.Ytfdibjgmbdkbcaa
open Go.RowKit Go.Lib
theorem BList.tail {w:World} {F:Nat->Prop} {b off c:Nat} {x:Bs} {ll:List Bs} (h:BList w F (.slice (some ⟨b,off,none⟩) (x::ll).length c) (x::ll)) :
 BList w F (.slice (if c=1 then some ⟨b,off,none⟩ else some ⟨b,off+1,none⟩) ll.length (c-1)) ll:=by
 have hr:=h.rest 1 (by simp)
 split
 · rename_i hc
   subst hc
   have hn:ll=[]:=by
    obtain ⟨A,c',hv,h1,_⟩:=h.shape
    injection hv with _ _ e3
    exact List.eq_nil_of_length_eq_zero (by simp at h1;omega)
   subst hn
   exact ⟨[],⟨_,0,rfl,Nat.le_refl _,by simp [maxLen],by simp,fun h=>absurd h (by simp)⟩,fun i b hb=>by simp at hb⟩
 · simpa using hr
set_option maxRecDepth 100000 in
set_option maxHeartbeats 1000000 in
theorem climb_any (w:World) (F F':Nat->Prop) (vd vp:Value) (d:Bs) (i n:Nat) (p:List Bs) (hd:Bytes w F vd d) (hp:BList w F' vp p) (h1:1<=n) (hn:n<=100000) (hi:i<n) (hd1:d.length<=1000) (hs:Short p) :
 Calls Try.prog 90 #[vd,.int .i64 (i:Int),.int .i64 (n:Int),vp] w fun e w' =>
  ∃ v,e = .returned (.tuple #[v,.bool (Tr.climb d i (n-1) p).isSome])/\(∀ r,Tr.climb d i (n-1) p=some r->Bytes w' (fun _=>True) v r/\r.length<=1000)/\Below w.heap.size w w':=by
 go_enter Try.func90,Try.ntmps90
 go_wp2_with fail
 go_loopg [0,1,3,10] (n-1) (fun k ud ui up ul wr=>∃ (d':Bs) (i':Nat) (p':List Bs),ui = .int .i64 (i':Int)/\ul = .int .i64 (k:Int)/\i'<=k/\k<=100000/\Bytes wr (fun k=>k<wr.heap.size) ud d'/\BList wr (fun k=>k<wr.heap.size) up p'/\d'.length<=1000/\Short p' ∧
  Hid (Tr.climb d' i' k p'=Tr.climb d i (n-1) p)/\Below w.heap.size w wr)
 case atStart=>exact ⟨d,i,p,rfl,congrArg (Value.int .i64) (by omega),by omega,by omega,hd.weak (fun k hk _=>hk),hp.weak (fun k hk _=>hk),hd1,hs,Lib.hid rfl,Below.refl _ _⟩
 case round =>
  obtain ⟨d',i',p',rfl,rfl,hik,hk,hd',hp',hd1',hs',HC,hx⟩:=hrel
  obtain ⟨A,c,hvp,hpc,hcm,hA⟩:=hp'.shape
  subst hvp
  obtain ⟨A2,c2,hvd,_⟩:=hd'.form'
  subst hvd
  unfold maxLen at hcm
  by_cases hk0:0<gk
  · have hk0B:(0:Int)<(gk:Int):=by omega
    by_cases hev:i' % 2=0
    · by_cases heq:i'=gk
      · have ht1:((i':Int) % 2==0)=true:=by rw [beq_iff_eq];omega
        have ht2:((i':Int)==(gk:Int))=true:=by rw [beq_iff_eq];omega
        have hc0:=HC.out
        rw [Tr.climb.eq_def,dif_pos hk0,if_pos ⟨hev,by omega⟩] at hc0
        have HC0:=Lib.hid hc0
        clear hc0 HC hA
        go_wp2_with fail
        go_roundg (gk / 2)
        case measure=>omega
        case rel=>exact ⟨d',i' / 2,p',congrArg (Value.int .i64) (by omega),congrArg (Value.int .i64) (by omega),by omega,by omega,hd',hp',hd1',hs',HC0,hx⟩
      · have ht1:((i':Int) % 2==0)=true:=by rw [beq_iff_eq];omega
        have ht3:((i':Int) % 2==1)=false:=by rw [beq_eq_false_iff_ne];omega
        have ht2:((i':Int)==(gk:Int))=false:=by rw [beq_eq_false_iff_ne];omega
        have hc0:=HC.out
        rw [Tr.climb.eq_def,dif_pos hk0,if_neg (by omega)] at hc0
        match p',hc0 with
        | [],hc0 =>
          have HC0:=Lib.hid hc0
          clear hc0 HC hA
          have hlB:((0:Int)==0)=true:=rfl
          simp only [List.length_nil] at *
          go_wp2_with fail
          go_ret2
          refine ⟨.slice none 0 0,?_,?_,hx⟩
          · rw [<-HC0.out];rfl
          · intro r hr
            rw [<-HC0.out] at hr
            cases hr
        | q::p'',hc0 =>
          obtain ⟨b,off,rfl,hF,hb⟩:=hA (by simp)
          obtain ⟨b',off',u,hA',hcu,_,_,hqb⟩:=hp'.at_ (j:=0) (by simp)
          injection hA' with hA'
          injection hA' with e1 e2
          subst e1 e2
          have hcu':wr.cell? ⟨b,off,none⟩=some u:=hcu
          have hq1:q.length<=1000:=hs' q (by simp)
          have hs'':Short p'':=fun x hx=>hs' x (by simp [hx])
          dsimp only at hc0
          rw [if_neg (by omega)] at hc0
          have HC0:=Lib.hid hc0
          have hdb:=hd'
          clear hc0 HC hA hcu
          have hlB:(((q::p'').length:Int)==0)=false:=by rw [beq_eq_false_iff_ne,List.length_cons];omega
          have hl1:(1:Int)<=((q::p'').length:Int):=by rw [List.length_cons];omega
          have hl0:(0:Int)<((q::p'').length:Int):=by rw [List.length_cons];omega
          go_wp2_with fail
          refine (node_any wr _ _ _ _ d' q hdb hqb (by omega)).mono ?_
          rintro e w1 ⟨v1,rfl,hown1,hx1⟩
          have hx2:=hx.trans (hx1.mono hx.size)
          have hpt:=(hp'.tail).map_ (w':=w1) (F':=fun k=>k<w1.heap.size) (fun v n xs h=>(h.below hx1).weak (fun k hk _=>hk))
          have hpt1:c=1->BList w1 (fun k=>k<w1.heap.size) (.slice (some ⟨b,off,none⟩) p''.length 0) p'':=fun e=>by subst e;exact hpt
          have hpt2:¬ c=1->BList w1 (fun k=>k<w1.heap.size) (.slice (some ⟨b,off+1,none⟩) p''.length (c-1)) p'':=fun e=>by rw [if_neg e] at hpt;exact hpt
          clear hpt
          have hod:Bytes w1 (fun k=>k<w1.heap.size) v1 _:=(OwnB.bytes hown1).weak (fun k hk _=>hk)
          go_wp2_with fail
          all_goals
           go_roundg (gk / 2)
           case measure=>omega
           case rel =>
            first
             | exact ⟨_,i' / 2,p'',congrArg (Value.int .i64) (by omega),congrArg (Value.int .i64) (by omega),by omega,by omega,hod,hpt1 (by omega),by rw [Tr.length_nodeH];omega,hs'',HC0,hx2⟩
             | exact ⟨_,i' / 2,p'',congrArg (Value.int .i64) (by omega),congrArg (Value.int .i64) (by omega),by omega,by omega,hod,hpt2 (by omega),by rw [Tr.length_nodeH];omega,hs'',HC0,hx2⟩
    · have ht1:((i':Int) % 2==0)=false:=by rw [beq_eq_false_iff_ne];omega
      have ht3:((i':Int) % 2==1)=true:=by rw [beq_iff_eq];omega
      have hc0:=HC.out
      rw [Tr.climb.eq_def,dif_pos hk0,if_neg (by omega)] at hc0
      match p',hc0 with
      | [],hc0 =>
        have HC0:=Lib.hid hc0
        clear hc0 HC hA
        have hlB:((0:Int)==0)=true:=rfl
        simp only [List.length_nil] at *
        go_wp2_with fail
        go_ret2
        refine ⟨.slice none 0 0,?_,?_,hx⟩
        · rw [<-HC0.out];rfl
        · intro r hr
          rw [<-HC0.out] at hr
          cases hr
      | q::p'',hc0 =>
        obtain ⟨b,off,rfl,hF,hb⟩:=hA (by simp)
        obtain ⟨b',off',u,hA',hcu,_,_,hqb⟩:=hp'.at_ (j:=0) (by simp)
        injection hA' with hA'
        injection hA' with e1 e2
        subst e1 e2
        have hcu':wr.cell? ⟨b,off,none⟩=some u:=hcu
        have hq1:q.length<=1000:=hs' q (by simp)
        have hs'':Short p'':=fun x hx=>hs' x (by simp [hx])
        dsimp only at hc0
        rw [if_pos (by omega)] at hc0
        have HC0:=Lib.hid hc0
        have hdb:=hd'
        clear hc0 HC hA hcu
        have hlB:(((q::p'').length:Int)==0)=false:=by rw [beq_eq_false_iff_ne,List.length_cons];omega
        have hl1:(1:Int)<=((q::p'').length:Int):=by rw [List.length_cons];omega
        have hl0:(0:Int)<((q::p'').length:Int):=by rw [List.length_cons];omega
        go_wp2_with fail
        refine (node_any wr _ _ _ _ q d' hqb hdb (by omega)).mono ?_
        rintro e w1 ⟨v1,rfl,hown1,hx1⟩
        have hx2:=hx.trans (hx1.mono hx.size)
        have hpt:=(hp'.tail).map_ (w':=w1) (F':=fun k=>k<w1.heap.size) (fun v n xs h=>(h.below hx1).weak (fun k hk _=>hk))
        have hpt1:c=1->BList w1 (fun k=>k<w1.heap.size) (.slice (some ⟨b,off,none⟩) p''.length 0) p'':=fun e=>by subst e;exact hpt
        have hpt2:¬ c=1->BList w1 (fun k=>k<w1.heap.size) (.slice (some ⟨b,off+1,none⟩) p''.length (c-1)) p'':=fun e=>by rw [if_neg e] at hpt;exact hpt
        clear hpt
        have hod:Bytes w1 (fun k=>k<w1.heap.size) v1 _:=(OwnB.bytes hown1).weak (fun k hk _=>hk)
        go_wp2_with fail
        all_goals
         go_roundg (gk / 2)
         case measure=>omega
         case rel =>
          first
           | exact ⟨_,i' / 2,p'',congrArg (Value.int .i64) (by omega),congrArg (Value.int .i64) (by omega),by omega,by omega,hod,hpt1 (by omega),by rw [Tr.length_nodeH];omega,hs'',HC0,hx2⟩
           | exact ⟨_,i' / 2,p'',congrArg (Value.int .i64) (by omega),congrArg (Value.int .i64) (by omega),by omega,by omega,hod,hpt2 (by omega),by rw [Tr.length_nodeH];omega,hs'',HC0,hx2⟩
  · have hk0B:decide ((0:Int)<(gk:Int))=false:=by simp;omega
    have h0:gk=0:=by omega
    subst h0
    have hc0:=HC.out
    rw [Tr.climb.eq_def,dif_neg (by omega)] at hc0
    have HC0:=Lib.hid hc0
    clear hc0 HC hA
    by_cases hp0:p'=[]
    · subst hp0
      have hlB:(((([]:List Bs).length:Nat):Int)==0)=true:=by simp
      simp only [List.length_nil] at *
      go_wp2_with fail
      go_ret2
      refine ⟨.slice A2 d'.length c2,?_,?_,hx⟩
      · rw [<-HC0.out];rfl
      · intro r hr
        rw [<-HC0.out] at hr
        simp at hr
        subst hr
        exact ⟨hd'.weak (fun _ _ _=>trivial),hd1'⟩
    · have hlB:(((p'.length:Nat):Int)==0)=false:=by
       rw [beq_eq_false_iff_ne]
       have:=List.length_pos_iff.2 hp0
       omega
      go_wp2_with fail
      go_ret2
      refine ⟨.slice A2 d'.length c2,?_,?_,hx⟩
      · rw [<-HC0.out,if_neg hp0];rfl
      · intro r hr
        rw [<-HC0.out,if_neg hp0] at hr
        cases hr
end Go.Proofs.Ytfdibjgmbdkbcaa
namespace Go.Proofs.Ytfdibjgmbdkbcaa
open Go.RowKit Go.Lib
def standsS (n:Int) (r b:Bs) (i:Int) (p:List Bs):Bool :=
 decide (1<=n/\n<=100/\0<=i/\i<n/\b.length<=200)&&(allD p&&(Tr.up (Tr.leafH b) i.toNat n.toNat p==some r))
theorem standsS_no {n:Int} {r b:Bs} {i:Int} {p:List Bs} (h:¬ (1<=n/\n<=100/\0<=i/\i<n/\b.length<=200)):standsS n r b i p=false:=by
 unfold standsS
 rw [decide_eq_false h]
 rfl
theorem allD_short {p:List Bs} (h:allD p=true):Short p:=fun d hd=>by have:=(allD_iff p).1 h d hd;omega
theorem keep2 {w' W1 W2:World} {g:Nat} {u v:Value} (hg:g<w'.heap.size) (h:W1.cell? ⟨g,0,none⟩=some u/\W1.cell? ⟨g,1,none⟩=some v/\Below w'.heap.size w' W1) (hx:Below W1.heap.size W1 W2) :
 W2.cell? ⟨g,0,none⟩=some u/\W2.cell? ⟨g,1,none⟩=some v/\Below w'.heap.size w' W2:=by
 have h1:=h.2.2.size
 exact ⟨(hx.cell (p:=⟨g,0,none⟩) (by show g<_;omega)).trans h.1,(hx.cell (p:=⟨g,1,none⟩) (by show g<_;omega)).trans h.2.1,h.2.2.trans (hx.mono h1)⟩
set_option maxRecDepth 100000 in
set_option maxHeartbeats 2000000 in
theorem stands_any (w:World) (F F' F'':Nat->Prop) (vr vb vp:Value) (n:Int) (r b:Bs) (i:Int) (p:List Bs) (hr:Bytes w F vr r) (hb:Bytes w F' vb b) (hp:BList w F'' vp p) :
 Calls Try.prog 25 #[.agg #[.int .i64 n,vr],vb,.int .i64 i,vp] w fun e w'=>e = .returned (.bool (standsS n r b i p))/\Below w.heap.size w w':=by
 obtain ⟨A,c,hvp,_,_,_⟩:=hp.shape
 subst hvp
 obtain ⟨A2,c2,hvb,_,hc2⟩:=hb.form'
 subst hvb
 obtain ⟨A3,c3,hvr,_,_⟩:=hr.form'
 subst hvr
 unfold maxLen at hc2
 have hx0:Below w.heap.size w (w.alloc (.cells #[.int .i64 n,.slice A3 r.length c3] 39)):=(Below.refl _ _).alloc (Nat.le_refl _) _
 by_cases hall:1<=n/\n<=100/\0<=i/\i<n/\b.length<=200
 · obtain ⟨a1,a2,a3,a4,a5⟩:=hall
   have hS:Hid (standsS n r b i p=(allD p&&(Tr.up (Tr.leafH b) i.toNat n.toNat p==some r))):=Lib.hid (by unfold standsS;rw [decide_eq_true ⟨a1,a2,a3,a4,a5⟩];rfl)
   have b1:decide (n<1)=false:=by simp;omega
   have b2:decide (100<n)=false:=by simp;omega
   have b3:decide (i<0)=false:=by simp;omega
   have b4:decide (n<=i)=false:=by simp;omega
   have b5:decide ((200:Int)<(b.length:Int))=false:=by simp;omega
   have hd:=digests_any (w.alloc (.cells #[.int .i64 n,.slice A3 r.length c3] 39)) F'' _ p (hp.alloc _)
   have HD:=Lib.hid hd
   clear hd
   cases hal:allD p with
   | false =>
     rw [hal] at HD
     have HS:Hid (standsS n r b i p=false):=Lib.hid (by rw [hS.out,hal];rfl)
     clear hS hal
     go_enter Try.func25,Try.ntmps25
     go_wp2_with fail
     refine HD.out.mono ?_
     rintro e w' ⟨rfl,hw⟩
     subst hw
     go_wp2_with fail
     go_ret
     exact ⟨by rw [HS.out];rfl,hx0⟩
   | true =>
     rw [hal] at HD
     have hsp:=allD_short hal
     have HS:Hid (standsS n r b i p=(Tr.up (Tr.leafH b) i.toNat n.toNat p==some r)):=Lib.hid (by rw [hS.out,hal];rfl)
     clear hS hal
     obtain ⟨ni,hni⟩:∃ k:Nat,n=(k:Int):=⟨n.toNat,by omega⟩
     obtain ⟨ii,hii⟩:∃ k:Nat,i=(k:Int):=⟨i.toNat,by omega⟩
     subst hni hii
     have HS2:Hid (standsS (ni:Int) r b (ii:Int) p=(Tr.climb (Tr.leafH b) ii (ni-1) p==some r)):=Lib.hid (by rw [HS.out,Tr.climb_up _ _ _ _ (by omega)];congr 2;omega)
     have b4':decide (ni<=ii)=false:=by simp;omega
     clear HS
     go_enter Try.func25,Try.ntmps25
     go_wp2_with fail
     refine HD.out.mono ?_
     rintro e w' ⟨rfl,hw⟩
     have hw0:w'.cell? ⟨w.heap.size,0,none⟩=some (.int .i64 ni):=by rw [hw,World.cell?_alloc_mark];rfl
     have hw1:w'.cell? ⟨w.heap.size,1,none⟩=some (.slice A3 r.length c3):=by rw [hw,World.cell?_alloc_mark];rfl
     have hbw:=hb.alloc (.cells #[.int .i64 ni,.slice A3 r.length c3] 39)
     have hpw:=hp.alloc (.cells #[.int .i64 ni,.slice A3 r.length c3] 39)
     have hrw:=hr.alloc (.cells #[.int .i64 ni,.slice A3 r.length c3] 39)
     have hsz:w.heap.size<w'.heap.size:=by rw [hw];simp
     rw [<-hw] at hx0 hbw hpw hrw
     clear hw HD
     go_wp2_with fail
     go_region_held3 (fun w'':World=>w''.cell? ⟨w.heap.size,0,none⟩=some (.int .i64 ni)/\w''.cell? ⟨w.heap.size,1,none⟩=some (.slice A3 r.length c3)/\Below w'.heap.size w' w'') (first | assumption | exact ⟨hw0,hw1,(Below.refl _ _).drew⟩)
      (first
        | ((with_reducible refine (leaf_any _ F' (.slice A2 b.length c2) b (Bytes.below hbw (by exact And.right (And.right (by assumption)))) (by omega)).mono ?_)
           rintro e w1 ⟨v1,rfl,hown1,hx1⟩
           have hS1:=keep2 hsz (by assumption) hx1)
        | ((with_reducible refine (climb_any _ _ F'' _ _ (Tr.leafH b) ii ni p (OwnB.bytes hown1) (hpw.below (by exact hS1.2.2)) (by omega) (by omega) (by omega) (by rw [Tr.length_leafH];omega) hsp).mono ?_)
           rintro e w2 ⟨v2,rfl,hres,hx2⟩
           have hS2:=keep2 hsz hS1 hx2))
     generalize Tr.climb (Tr.leafH b) ii (ni-1) p=o at *
     cases o with
     | none =>
       go_wp2_with fail
       go_ret
       exact ⟨by rw [HS2.out];rfl,hx0.trans (hS2.2.2.mono hx0.size)⟩
     | some x =>
       obtain ⟨hx2,_⟩:=hres x rfl
       obtain ⟨g0,g1,g2⟩:=hS2
       have hrw2:=SlAt.below hrw g2
       clear hres hS1
       go_wp2_with fail
       refine (equal_any w2 _ _ v2 _ x r hx2 hrw2).mono ?_
       rintro e w3 ⟨rfl,rfl⟩
       go_wp2_with fail
       go_ret
       exact ⟨by rw [HS2.out];rfl,hx0.trans (g2.mono hx0.size)⟩
 · have HS:=Lib.hid (standsS_no (r:=r) (p:=p) hall)
   have hcase:n<1\/(¬ n<1/\100<n)\/(¬ n<1/\¬ 100<n/\i<0)\/(¬ n<1/\¬ 100<n/\¬ i<0/\n<=i)\/(¬ n<1/\¬ 100<n/\¬ i<0/\¬ n<=i/\(200:Int)<(b.length:Int)):=by omega
   clear hall
   rcases hcase with h1 | ⟨h1,h2⟩ | ⟨h1,h2,h3⟩ | ⟨h1,h2,h3,h4⟩ | ⟨h1,h2,h3,h4,h5⟩
   · have b1:decide (n<1)=true:=by simp;omega
     go_enter Try.func25,Try.ntmps25
     go_wp2_with fail
     go_ret
     exact ⟨by rw [HS.out];rfl,hx0⟩
   · have b1:decide (n<1)=false:=by simp;omega
     have b2:decide (100<n)=true:=by simp;omega
     go_enter Try.func25,Try.ntmps25
     go_wp2_with fail
     go_ret
     exact ⟨by rw [HS.out];rfl,hx0⟩
   · have b1:decide (n<1)=false:=by simp;omega
     have b2:decide (100<n)=false:=by simp;omega
     have b3:decide (i<0)=true:=by simp;omega
     go_enter Try.func25,Try.ntmps25
     go_wp2_with fail
     go_ret
     exact ⟨by rw [HS.out];rfl,hx0⟩
   · have b1:decide (n<1)=false:=by simp;omega
     have b2:decide (100<n)=false:=by simp;omega
     have b3:decide (i<0)=false:=by simp;omega
     have b4:decide (n<=i)=true:=by simp;omega
     go_enter Try.func25,Try.ntmps25
     go_wp2_with fail
     go_ret
     exact ⟨by rw [HS.out];rfl,hx0⟩
   · have b1:decide (n<1)=false:=by simp;omega
     have b2:decide (100<n)=false:=by simp;omega
     have b3:decide (i<0)=false:=by simp;omega
     have b4:decide (n<=i)=false:=by simp;omega
     have b5:decide ((200:Int)<(b.length:Int))=true:=by simp;omega
     go_enter Try.func25,Try.ntmps25
     go_wp2_with fail
     go_ret
     exact ⟨by rw [HS.out];rfl,hx0⟩
end Go.Proofs.Ytfdibjgmbdkbcaa
namespace Go.Proofs.Ytfdibjgmbdkbcaa
open Go.RowKit Go.Lib
def f0:Value:=.agg #[.int .i64 0,.int .i64 0]
theorem Root_fine (w:World) (F:Nat->Prop) (v:Value) (ll:List Bs) (hl:BList w F v ll) (hf:Fine ll) :
 Calls Try.prog 40 #[v] w fun e w'=>∃ rv,e = .returned (.tuple #[rv,.agg #[.int .i64 0,.int .i64 0]])/\OwnB w' w.heap.size rv (Tr.root (ll.map Tr.leafH))/\Below w.heap.size w w':=by
 refine (Root_any w F v ll hl).mono ?_
 rintro e w' ⟨rv,rfl,h1,_,hx⟩
 exact ⟨rv,by rw [wrongS_zero ll ((wrongS_ok ll).2 hf)];rfl,h1 hf,hx⟩
theorem Path_fine (w:World) (F:Nat->Prop) (v:Value) (ll:List Bs) (z:Int) (hl:BList w F v ll) (hf:Fine ll) (h0:0<=z) (h1:z<ll.length) :
 Calls Try.prog 41 #[v,.int .i64 z] w fun e w'=>∃ rv,e = .returned (.tuple #[rv,.agg #[.int .i64 0,.int .i64 0]])/\OwnL w' w.heap.size rv (Tr.path (ll.map Tr.leafH) z.toNat)/\Below w.heap.size w w':=by
 have hp:pathF ll z=(0,0):=by unfold pathF;rw [if_neg (by rw [(wrongS_ok ll).2 hf];simp),if_pos ⟨h0,h1⟩]
 refine (Path_any w F v ll z hl).mono ?_
 rintro e w' ⟨rv,rfl,h1,_,hx⟩
 exact ⟨rv,by rw [hp];rfl,h1 (by rw [hp]),hx⟩
theorem Path_none (w:World) (F:Nat->Prop) (v:Value) (ll:List Bs) (z:Int) (hl:BList w F v ll) (hf:Fine ll) (h0:¬ (0<=z/\z<ll.length)) :
 Calls Try.prog 41 #[v,.int .i64 z] w fun e w'=>e = .returned (.tuple #[.slice none 0 0,.agg #[.int .i64 6,.int .i64 0]])/\Below w.heap.size w w':=by
 have hp:pathF ll z=(6,0):=by unfold pathF;rw [if_neg (by rw [(wrongS_ok ll).2 hf];simp),if_neg h0]
 refine (Path_any w F v ll z hl).mono ?_
 rintro e w' ⟨rv,rfl,_,h2,hx⟩
 exact ⟨by rw [hp,h2 (by rw [hp];simp)];rfl,hx⟩
def D32 (l:List Bs):Prop:=∀ d ∈ l,d.length=32
theorem D32.take {l:List Bs} (h:D32 l) (k:Nat):D32 (l.take k):=fun d hd=>h d (List.mem_of_mem_take hd)
theorem D32.drop {l:List Bs} (h:D32 l) (k:Nat):D32 (l.drop k):=fun d hd=>h d (List.mem_of_mem_drop hd)
theorem D32.snoc {l:List Bs} {x:Bs} (h:D32 l) (hx:x.length=32):D32 (l++[x]):=fun d hd=>by
 rcases List.mem_append.1 hd with h1 | h1
 · exact h d h1
 · have:d=x:=by simpa using h1
   subst this;exact hx
theorem Fine.take {ll:List Bs} (h:Fine ll) (k:Nat):Fine (ll.take k):=⟨by rw [List.length_take];have:=h.1;omega,fun b hb=>h.2 b (List.mem_of_mem_take hb)⟩
end Go.Proofs.Ytfdibjgmbdkbcaa
namespace Go.Proofs.Ytfdibjgmbdkbcaa
namespace Tr
def rootL (l:List Bs):Bs:=root (l.map leafH)
theorem length_rootL (l:List Bs):(rootL l).length=32:=length_root _ (by intro a ha;obtain ⟨b,_,rfl⟩:=List.mem_map.1 ha;exact length_leafH b)
end Tr
end Go.Proofs.Ytfdibjgmbdkbcaa
