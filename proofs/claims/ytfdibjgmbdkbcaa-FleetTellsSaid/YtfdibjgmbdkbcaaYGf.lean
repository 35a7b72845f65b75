/-
  THE WALKS of tree.root, path, grows. Conditions: what is read is a list of bytes, not too many, none too long. THE WALKS of tree.Root, Path, Grows. Conditions: what is read is a list of bytes. THE WALKS of tree.climb, Stands. Conditions: what is read is bytes, and lists of bytes. What the walks of tree tell, in the forms that callers want. No conditions. Plain law, no program: who shows what is not so has two texts with one digest. No conditions.
-/
import Derived.Deep.DeepCutAuto
import Derived.Laws.BitsAllLaws
import Derived.Laws.BitsLemmas
import Derived.Test.YtfdibjgmbdkbcaaYGc
namespace Go.Proofs.Ytfdibjgmbdkbcaa
open Go.RowKit Go.Lib
theorem SlAt.rest {w:World} {F:Nat->Prop} {n c:Nat} {b off:Nat} {xs:List Value} (h:SlAt w F 1 (.slice (some ⟨b,off,none⟩) n c) n xs) (k:Nat) (hk:k<=n) :
 SlAt w F 1 (.slice (some ⟨b,off+k,none⟩) (n-k) (c-k)) (n-k) (xs.drop k):=by
 obtain ⟨A',c',hv,h1,h2,h3,h4⟩:=h
 injection hv with e1 e2 e3
 subst e1 e3
 refine ⟨_,c-k,rfl,by omega,by omega,by rw [List.length_drop];omega,fun hp=>?_⟩
 obtain ⟨b',off',hA,hF,hb,hc⟩:=h4 (by omega)
 injection hA with hA
 injection hA with e1 e2
 subst e1 e2
 refine ⟨_,_,rfl,hF,hb,fun j u hu=>?_⟩
 rw [List.getElem?_drop] at hu
 rw [Nat.add_assoc]
 exact hc _ u hu
theorem BList.first {w:World} {F:Nat->Prop} {A:Option Addr} {c:Nat} {ll:List Bs} (h:BList w F (.slice A ll.length c) ll) (k:Nat) (hk:k<=ll.length):BList w F (.slice A k c) (ll.take k):=by
 obtain ⟨vs,h1,h2⟩:=h
 refine ⟨vs.take k,?_,fun i b hb=>?_⟩
 · rw [List.length_take,Nat.min_eq_left hk]
   exact h1.first k hk
 · have hi:i<k:=by
    rcases Nat.lt_or_ge i k with h | h
    · exact h
    · rw [List.getElem?_eq_none (by rw [List.length_take];omega)] at hb;cases hb
   rw [List.getElem?_take_of_lt hi] at hb ⊢
   exact h2 i b hb
theorem BList.rest {w:World} {F:Nat->Prop} {b off c:Nat} {ll:List Bs} (h:BList w F (.slice (some ⟨b,off,none⟩) ll.length c) ll) (k:Nat) (hk:k<=ll.length):BList w F (.slice (some ⟨b,off+k,none⟩) (ll.length-k) (c-k)) (ll.drop k):=by
 obtain ⟨vs,h1,h2⟩:=h
 refine ⟨vs.drop k,?_,fun i b hb=>?_⟩
 · rw [List.length_drop]
   exact h1.rest k hk
 · rw [List.getElem?_drop] at hb ⊢
   exact h2 _ b hb
theorem BList.shape {w:World} {F:Nat->Prop} {v:Value} {ll:List Bs} (h:BList w F v ll):∃ A c,v = .slice A ll.length c/\ll.length<=c/\c<=maxLen/\(0<ll.length->∃ b off,A=some ⟨b,off,none⟩/\F b/\b<w.heap.size):=by
 obtain ⟨vs,⟨A,c,hv,h1,h2,_,h4⟩,_⟩:=h
 refine ⟨A,c,hv,h1,h2,fun hn=>?_⟩
 obtain ⟨b,off,hA,hF,hb,_⟩:=h4 hn
 exact ⟨b,off,hA,hF,hb⟩
def Short (ll:List Bs):Prop:=∀ b ∈ ll,b.length<=1000
theorem Short.take {ll:List Bs} (h:Short ll) (k:Nat):Short (ll.take k):=fun b hb=>h b (List.mem_of_mem_take hb)
theorem Short.drop {ll:List Bs} (h:Short ll) (k:Nat):Short (ll.drop k):=fun b hb=>h b (List.mem_of_mem_drop hb)
theorem Short.root {ll:List Bs} (h:Short ll):(Tr.root ll).length<=1000:=by
 by_cases h2:2<=ll.length
 · rw [Tr.root_two h2,Tr.length_nodeH];omega
 · match ll,h,h2 with
   | [],_,_=>rw [Tr.root_nil,Tr.length_nilH];omega
   | [a],h,_=>rw [Tr.root_one];exact h a (by simp)
   | _::_::_,_,h2=>simp at h2
set_option maxRecDepth 100000 in
set_option maxHeartbeats 1000000 in
theorem root_tree (n:Nat):∀ (w:World) (F:Nat->Prop) (v:Value) (ll:List Bs),BList w F v ll->ll.length=n->n<=128->Short ll →
 Calls Try.prog 99 #[v] w fun e w'=>∃ v,e = .returned v/\OwnB w' w.heap.size v (Tr.root ll)/\Below w.heap.size w w':=by
 induction n using Nat.strongRecOn with
 | ind n ih =>
   intro w F v ll hl hn hn128 hs
   obtain ⟨A,c,hv,hnc,hcm,hA⟩:=hl.shape
   subst hv
   unfold maxLen at hcm
   by_cases h2:2<=n
   · obtain ⟨b,off,rfl,hF,hb⟩:=hA (by omega)
     have hk1:=Tr.split_lt h2
     have hk0:=Tr.split_pos n
     have hl1:=hl.first (Tr.split n) (by omega)
     have hl2:=hl.rest (Tr.split n) (by omega)
     have hr:Tr.root ll=Tr.nodeH (Tr.root (ll.take (Tr.split n))) (Tr.root (ll.drop (Tr.split n))):=by rw [Tr.root_two (by omega),hn]
     have ih1:=ih (Tr.split n) hk1
     have ih2:=ih (n-Tr.split n) (by omega)
     have hs1:=(hs.take (Tr.split n)).root
     have hs2:=(hs.drop (Tr.split n)).root
     have HR:=Lib.hid hr
     have HI1:=Lib.hid ih1
     have HI2:=Lib.hid ih2
     have HI:=Lib.hid ih
     have hl3:(ll.take (Tr.split n)).length=Tr.split n:=by rw [List.length_take];omega
     have hl4:(ll.drop (Tr.split n)).length=n-Tr.split n:=by rw [List.length_drop];omega
     have HL3:=Lib.hid hl3
     have HL4:=Lib.hid hl4
     have hst:=hs.take (Tr.split n)
     have hsd:=hs.drop (Tr.split n)
     rw [hn] at hl2
     clear hr ih1 ih2 ih hl3 hl4
     rw [hn]
     rw [hn] at hnc
     clear hn hA
     have hq:=half_any n (w:=w) h2 hn128
     have HQ:=Lib.hid hq
     clear hq
     generalize Tr.split n=k at *
     have hnB:((n:Int)==0)=false:=by rw [beq_eq_false_iff_ne];omega
     have hnB1:((n:Int)==1)=false:=by rw [beq_eq_false_iff_ne];omega
     have k0:(0:Int)<=(k:Int):=by omega
     have k1:(k:Int)<=(n:Int):=by omega
     have k2:(k:Int)<=(c:Int):=by omega
     have k3:(n:Int)<=(c:Int):=by omega
     have k4:((c:Int)==(k:Int))=false:=by rw [beq_eq_false_iff_ne];omega
     go_enter Try.func99,Try.ntmps99
     go_wp2_with fail
     refine HQ.out.mono ?_
     rintro e w' ⟨rfl,hw⟩
     subst hw
     go_wp2_with fail
     have hx0:Below w'.heap.size w' w':=Below.refl _ _
     go_region_held3 (fun w'':World=>Below w'.heap.size w' w'') (first | assumption | exact (Below.refl _ _).drew)
      (first
        | ((with_reducible refine (HI1.out _ F (.slice (some ⟨b,off,none⟩) k c) (ll.take k) (hl1.below (by assumption)) HL3.out (by omega) hst).mono ?_)
           rintro e w1 ⟨v1,rfl,hown1,hx1⟩
           have hxa:Below w'.heap.size w' w1:=Below.trans (b:=_) (by assumption) (hx1.mono (Below.size (by assumption))))
        | ((with_reducible refine (HI2.out _ F (.slice (some ⟨b,off+k,none⟩) (n-k) (c-k)) (ll.drop k) (hl2.below (by assumption)) HL4.out (by omega) hsd).mono ?_)
           rintro e w2 ⟨v2,rfl,hown2,hx2⟩
           have hxb:Below w'.heap.size w' w2:=Below.trans (b:=_) (by assumption) (hx2.mono (Below.size (by assumption))))
        | ((with_reducible refine (node_any _ _ _ _ _ (Tr.root (ll.take k)) (Tr.root (ll.drop k)) ((OwnB.bytes hown1).below hx2) (OwnB.bytes hown2) (by omega)).mono ?_)
           rintro e w3 ⟨v3,rfl,hown3,hx3⟩
           have hxc:Below w'.heap.size w' w3:=Below.trans (b:=_) (by assumption) (hx3.mono (Below.size (by assumption)))))
     go_wp2_with fail
     go_ret
     refine ⟨_,rfl,?_,by assumption⟩
     rw [HR.out]
     exact Own.mono hown3 (Below.size (by assumption))
   · by_cases h0:n=0
     · have hll:ll=[]:=List.eq_nil_of_length_eq_zero (by omega)
       subst hll
       have HS:=Lib.hid (Tr.root_nil)
       clear hA ih hn
       simp only [List.length_nil] at *
       go_enter Try.func99,Try.ntmps99
       go_wp2_with fail
       refine (sum_any w (fun _=>True) _ [] (SlAt.nil_ _ _ _) (by simp)).mono ?_
       rintro e w1 ⟨v1,rfl,hown1,hx1⟩
       go_wp2_with fail
       go_ret
       exact ⟨_,rfl,by rw [HS.out];exact hown1,hx1⟩
     · match ll,hn with
       | [a],hn =>
         obtain ⟨b,off,u,hA,hc,_,hb,hub⟩:=hl.at_ (j:=0) (by simp)
         subst hA
         have hc':w.cell? ⟨b,off,none⟩=some u:=hc
         have hsl:=hs a (by simp)
         have HS:=Lib.hid (Tr.root_one a)
         clear hA ih hn hc
         simp only [List.length_cons,List.length_nil] at *
         go_enter Try.func99,Try.ntmps99
         go_wp2_with fail
         refine (clone_any _ _ _ a hub (by omega)).mono ?_
         rintro e w1 ⟨v1,rfl,hown1,hx1⟩
         go_wp2_with fail
         go_ret
         exact ⟨_,rfl,by rw [HS.out];exact hown1,hx1⟩
       | [],hn=>exact absurd hn.symm h0
       | _::_::_,hn=>simp at hn;omega
end Go.Proofs.Ytfdibjgmbdkbcaa
namespace Go.Proofs.Ytfdibjgmbdkbcaa
open Go.RowKit Go.Lib
theorem Fine.short {ll:List Bs} (h:Fine ll):Short ll:=fun b hb=>by have:=h.2 b hb;omega
theorem short_leaves (ll:List Bs):Short (ll.map Tr.leafH):=fun b hb=>by
 obtain ⟨x,_,rfl⟩:=List.mem_map.1 hb
 rw [Tr.length_leafH];omega
theorem OwnL.setBlk {w:World} {B g:Nat} {v:Value} {ll:List Bs} {t:TypeId} {cs:Array Value} (h:OwnL w B v ll) (hg:Blk w g t cs) (h1:5≠t) (h2:22≠t) (i:Nat) (u:Value):OwnL (w.setCell ⟨g,i,none⟩ u) B v ll:=by
 obtain ⟨vs,ho,hin⟩:=h
 refine ⟨vs,ho.setCell (p:=⟨g,i,none⟩) (ho.ne_blk hg h2) u,fun j b hb=>?_⟩
 obtain ⟨x,hx,hb⟩:=hin j b hb
 exact ⟨x,hx,Own.setCell (p:=⟨g,i,none⟩) hb (Own.ne_blk hb hg h1) u⟩
set_option maxRecDepth 100000 in
set_option maxHeartbeats 1000000 in
theorem Root_any (w:World) (F:Nat->Prop) (v:Value) (ll:List Bs) (hl:BList w F v ll) :
 Calls Try.prog 40 #[v] w fun e w'=>∃ rv,e = .returned (.tuple #[rv,fv (wrongS ll)])/\(Fine ll->OwnB w' w.heap.size rv (Tr.root (ll.map Tr.leafH)))/\(¬ Fine ll->rv = .slice none 0 0)/\Below w.heap.size w w':=by
 obtain ⟨A,c,hv,hnc,hcm,_⟩:=hl.shape
 subst hv
 have hok:=wrongS_ok ll
 have hze:=wrongS_zero ll
 have hx0:Below w.heap.size w (w.alloc (.cells #[.int .i64 0,.int .i64 0] 32)):=(Below.refl _ _).alloc (Nat.le_refl _) _
 have hl0:=hl.alloc (.cells #[.int .i64 0,.int .i64 0] 32)
 have hw:=wrong_any _ F _ ll hl0
 have hle:=wrongS_le ll
 generalize wrongS ll=p at *
 obtain ⟨a,b⟩:=p
 dsimp only at hok hle
 have HOK:=Lib.hid hok
 have HZ:=Lib.hid hze
 have HW:=Lib.hid hw
 clear hok hze hw
 go_enter Try.func40,Try.ntmps40
 go_wp2_with fail
 refine HW.out.mono ?_
 rintro e w1 ⟨rfl,hx1⟩
 unfold fv
 dsimp only
 have hxa:=hx0.trans (hx1.mono hx0.size)
 have hs1:=hxa.size
 have hc0:w1.cell? ⟨w.heap.size,0,none⟩=some (.int .i64 0):=(hx1.cell (p:=⟨w.heap.size,0,none⟩) (by simp)).trans (by rw [World.cell?_alloc_mark];rfl)
 have hc1:w1.cell? ⟨w.heap.size,1,none⟩=some (.int .i64 0):=(hx1.cell (p:=⟨w.heap.size,1,none⟩) (by simp)).trans (by rw [World.cell?_alloc_mark];rfl)
 by_cases h0:a=0
 · have hB:((a:Int) != 0)=false:=by rw [bne_eq_false_iff_eq];omega
   have hfine:Fine ll:=HOK.out.1 h0
   have hz:=HZ.out h0
   simp only [Prod.mk.injEq] at hz
   obtain ⟨rfl,rfl⟩:=hz
   have hxb:=hxa.alloc hs1 (.cells #[.int .i64 0,.int .i64 0] 32)
   have hb1:Blk w1 w.heap.size 32 #[.int .i64 0,.int .i64 0]:=Blk.keep (heap_alloc_new w _) (hx1.block _ (by simp))
   have hb2:=hb1.alloc (.cells #[.int .i64 0,.int .i64 0] 32)
   have hlt:w.heap.size<w1.heap.size:=by have:=hx1.size;simp at this;omega
   have hl2:=(hl.below hxa).alloc (.cells #[.int .i64 0,.int .i64 0] 32)
   clear h0
   go_wp2_with fail
   refine (leaves_any _ _ _ ll hl2 (by have:=hfine.1;omega) (fun b hb=>by have:=hfine.2 b hb;omega)).mono ?_
   rintro e w3 ⟨v3,rfl,hown3,hx3⟩
   have hb3:=hb2.below hx3 (by simp;omega)
   have hxc:=hxb.trans (hx3.mono hxb.size)
   go_wp2_with fail
   refine (root_tree ll.length w3 _ v3 (ll.map Tr.leafH) hown3.blist (by simp) (by have:=hfine.1;omega) (short_leaves ll)).mono ?_
   rintro e w4 ⟨v4,rfl,hown4,hx4⟩
   have hb4:=hb3.below hx4 (by have:=hxc.size;have:=hx3.size;simp at this;omega)
   have hxd:=hxc.trans (hx4.mono hxc.size)
   have e0:w4.cell? ⟨w.heap.size,0,none⟩=some (.int .i64 0):=hb4.cell 0
   have e1:w4.cell? ⟨w.heap.size,1,none⟩=some (.int .i64 0):=hb4.cell 1
   have f0:=hb4.frozen 0
   have f1:=hb4.frozen 1
   go_wp2_with fail
   have hne:=Own.ne_blk hown4 hb4 (by decide)
   have hb5:=(hb4.set_ 0 (.int .i64 0)).set_ 1 (.int .i64 0)
   have ho5:=(Own.setCell (p:=⟨w.heap.size,0,none⟩) (OwnB.mono hown4 hxc.size) hne (.int .i64 0)).setCell (p:=⟨w.heap.size,1,none⟩) hne (.int .i64 0)
   have hxe:=(hxd.setCell (p:=⟨w.heap.size,0,none⟩) (Nat.le_refl _) (.int .i64 0)).setCell (p:=⟨w.heap.size,1,none⟩) (Nat.le_refl _) (.int .i64 0)
   generalize (w4.setCell ⟨w.heap.size,0,none⟩ (.int .i64 0)).setCell ⟨w.heap.size,1,none⟩ (.int .i64 0)=w5 at *
   have e4:w5.cell? ⟨w.heap.size,0,none⟩=some (.int .i64 0):=hb5.cell 0
   have e5:w5.cell? ⟨w.heap.size,1,none⟩=some (.int .i64 0):=hb5.cell 1
   exact bodyPost_ret (v:=.tuple #[v4,.agg #[.int .i64 0,.int .i64 0]]) (by simp [results,Try.results40,go_sem,e4,e5]) rfl ⟨_,rfl,fun _=>ho5,fun h=>absurd hfine h,hxe⟩
 · have hB:((a:Int) != 0)=true:=by rw [bne_iff_ne];omega
   go_wp2_with fail
   have hxb:=hxa.alloc hs1 (.cells #[.int .i64 (a:Int),.int .i64 (b:Int)] 32)
   have hb1:Blk w1 w.heap.size 32 #[.int .i64 0,.int .i64 0]:=Blk.keep (heap_alloc_new w _) (hx1.block _ (by simp))
   have hb2:=hb1.alloc (.cells #[.int .i64 (a:Int),.int .i64 (b:Int)] 32)
   have hb3:Blk (w1.alloc (.cells #[.int .i64 (a:Int),.int .i64 (b:Int)] 32)) w1.heap.size 32 #[.int .i64 (a:Int),.int .i64 (b:Int)]:=heap_alloc_new w1 _
   have hlt:w.heap.size<w1.heap.size:=by have:=hx1.size;simp at this;omega
   generalize (w1.alloc (.cells #[.int .i64 (a:Int),.int .i64 (b:Int)] 32))=w2 at *
   have e0:w2.cell? ⟨w.heap.size,0,none⟩=some (.int .i64 0):=hb2.cell 0
   have e1:w2.cell? ⟨w.heap.size,1,none⟩=some (.int .i64 0):=hb2.cell 1
   have f0:=hb2.frozen 0
   have f1:=hb2.frozen 1
   have e2:w2.cell? ⟨w1.heap.size,0,none⟩=some (.int .i64 (a:Int)):=hb3.cell 0
   have e3:w2.cell? ⟨w1.heap.size,1,none⟩=some (.int .i64 (b:Int)):=hb3.cell 1
   have hb4:Blk ((w2.setCell ⟨w.heap.size,0,none⟩ (.int .i64 (a:Int))).setCell ⟨w.heap.size,1,none⟩ (.int .i64 (b:Int))).drew w.heap.size 32 #[.int .i64 (a:Int),.int .i64 (b:Int)]:=((hb2.set_ 0 (.int .i64 (a:Int))).set_ 1 (.int .i64 (b:Int))).drewN 1
   have hxc:Below w.heap.size w ((w2.setCell ⟨w.heap.size,0,none⟩ (.int .i64 (a:Int))).setCell ⟨w.heap.size,1,none⟩ (.int .i64 (b:Int))).drew:=((hxb.setCell (p:=⟨w.heap.size,0,none⟩) (Nat.le_refl _) _).setCell (p:=⟨w.heap.size,1,none⟩) (Nat.le_refl _) _).drew
   go_region
   go_wp2_with fail
   generalize ((w2.setCell ⟨w.heap.size,0,none⟩ (.int .i64 (a:Int))).setCell ⟨w.heap.size,1,none⟩ (.int .i64 (b:Int))).drew=w3 at *
   have e4:w3.cell? ⟨w.heap.size,0,none⟩=some (.int .i64 (a:Int)):=hb4.cell 0
   have e5:w3.cell? ⟨w.heap.size,1,none⟩=some (.int .i64 (b:Int)):=hb4.cell 1
   exact bodyPost_ret (v:=.tuple #[.slice none 0 0,.agg #[.int .i64 (a:Int),.int .i64 (b:Int)]]) (by simp [results,Try.results40,go_sem,e4,e5]) rfl ⟨_,rfl,fun h=>absurd (HOK.out.2 h) h0,fun _=>rfl,hxc⟩
end Go.Proofs.Ytfdibjgmbdkbcaa
namespace Go.Proofs.Ytfdibjgmbdkbcaa
open Go.RowKit Go.Lib
theorem BList.tail {w:World} {F:Nat->Prop} {b off c:Nat} {x:Bs} {ll:List Bs} (h:BList w F (.slice (some ⟨b,off,none⟩) (x::ll).length c) (x::ll)) :
 BList w F (.slice (if c=1 then some ⟨b,off,none⟩ else some ⟨b,off+1,none⟩) ll.length (c-1)) ll:=by
 have hr:=h.rest 1 (by simp)
 split
 · rename_i hc
   subst hc
   have hn:ll=[]:=by
    obtain ⟨A,c',hv,h1,_⟩:=h.shape
    injection hv with _ _ e3
    exact List.eq_nil_of_length_eq_zero (by simp at h1;omega)
   subst hn
   exact ⟨[],⟨_,0,rfl,Nat.le_refl _,by simp [maxLen],by simp,fun h=>absurd h (by simp)⟩,fun i b hb=>by simp at hb⟩
 · simpa using hr
end Go.Proofs.Ytfdibjgmbdkbcaa
namespace Go.Proofs.Ytfdibjgmbdkbcaa
open Go.RowKit Go.Lib
def f0:Value:=.agg #[.int .i64 0,.int .i64 0]
theorem Root_fine (w:World) (F:Nat->Prop) (v:Value) (ll:List Bs) (hl:BList w F v ll) (hf:Fine ll) :
 Calls Try.prog 40 #[v] w fun e w'=>∃ rv,e = .returned (.tuple #[rv,.agg #[.int .i64 0,.int .i64 0]])/\OwnB w' w.heap.size rv (Tr.root (ll.map Tr.leafH))/\Below w.heap.size w w':=by
 refine (Root_any w F v ll hl).mono ?_
 rintro e w' ⟨rv,rfl,h1,_,hx⟩
 exact ⟨rv,by rw [wrongS_zero ll ((wrongS_ok ll).2 hf)];rfl,h1 hf,hx⟩
def D32 (l:List Bs):Prop:=∀ d ∈ l,d.length=32
theorem D32.take {l:List Bs} (h:D32 l) (k:Nat):D32 (l.take k):=fun d hd=>h d (List.mem_of_mem_take hd)
theorem D32.drop {l:List Bs} (h:D32 l) (k:Nat):D32 (l.drop k):=fun d hd=>h d (List.mem_of_mem_drop hd)
theorem D32.snoc {l:List Bs} {x:Bs} (h:D32 l) (hx:x.length=32):D32 (l++[x]):=fun d hd=>by
 rcases List.mem_append.1 hd with h1 | h1
 · exact h d h1
 · have:d=x:=by simpa using h1
   subst this;exact hx
theorem Fine.take {ll:List Bs} (h:Fine ll) (k:Nat):Fine (ll.take k):=⟨by rw [List.length_take];have:=h.1;omega,fun b hb=>h.2 b (List.mem_of_mem_take hb)⟩
end Go.Proofs.Ytfdibjgmbdkbcaa
namespace Go.Proofs.Ytfdibjgmbdkbcaa
namespace Tr
def rootL (l:List Bs):Bs:=root (l.map leafH)
theorem length_rootL (l:List Bs):(rootL l).length=32:=length_root _ (by intro a ha;obtain ⟨b,_,rfl⟩:=List.mem_map.1 ha;exact length_leafH b)
end Tr
end Go.Proofs.Ytfdibjgmbdkbcaa
