/-
  THE WALK of yearref5.ParseRow. Conditions: what is read is bytes. THE WALK of yearref5.Lay; and lists of pieces of the call's own bytes. Conditions: what is read is a list of texts, a hundred at the most, each of 200 bytes at the most. THE WALK of yearref5.Take. Conditions: what is read is a piece of bytes of the call's own, not too long; a hundred entries at the most.
-/
import Derived.Deep.Cut
import Derived.BigQuiet
import Derived.Test.YtfdibjgmbdkbcaaYGc
import Derived.Test.YtfdibjgmbdkbcaaYSh0
import Derived.Test.YtfdibjgmbdkbcaaYBook
import Derived.Test.YtfdibjgmbdkbcaaYSt
namespace Go.Proofs.Ytfdibjgmbdkbcaa
open Go.RowKit Go.Lib
attribute [local go_sem ↓] Go.wp_at_zero Go.wp_at_succ
theorem Bytes.cells {w:World} {F:Nat->Prop} {A:Option Addr} {c:Nat} {b:Bs} (hb:Bytes w F (.slice A b.length c) b) (h0:0<b.length) :
 ∃ q off,A=some ⟨q,off,none⟩/\q<w.heap.size/\∀ i,i<b.length->w.cell? ⟨q,off+i,none⟩=some (.int .u8 ((b.getD i 0).toNat:Int)):=by
 obtain ⟨A',c',hv,_,_,_,h⟩:=hb
 injection hv with e1 e2 e3
 subst e1
 obtain ⟨q,off,h,_,hq,hcc⟩:=h (by omega)
 exact ⟨q,off,h,hq,fun i hi=>hcc i (bv (b.getD i 0)) (by rw [List.getElem?_map,List.getElem?_eq_getElem hi,List.getD_eq_getElem?_getD,List.getElem?_eq_getElem hi];rfl)⟩
end Go.Proofs.Ytfdibjgmbdkbcaa
namespace Go.Proofs.Ytfdibjgmbdkbcaa
open Go.RowKit Go.Lib
set_option maxRecDepth 100000 in
set_option maxHeartbeats 2000000 in
theorem rlay_any (w:World) (F:Nat->Prop) (v:Value) (ll:List Bs) (hl:BList w F v ll) (hn:ll.length<=100) (hs:∀ e ∈ ll,e.length<=200) :
 Calls Try.prog 110 #[v] w fun e w'=>∃ v,e = .returned v/\OwnB w' w.heap.size v (Shf.lay ll)/\Below w.heap.size w w':=by
 obtain ⟨i0,hi,hz0,hz1,hz2⟩:=info_parts info_u8
 obtain ⟨A,c,hv⟩:=hl.form
 subst hv
 go_enter Try.func110,Try.ntmps110
 go_wp2_with fail
 go_loopg [3,8] ll.length (fun k v i wr=>∃ j:Nat,j+k=ll.length/\i = .int .i64 (j:Int)/\OwnB wr w.heap.size v (Shf.lay (ll.take j))/\Below w.heap.size w wr)
 case atStart=>exact ⟨0,by omega,rfl,Own.nil_ _ _ _ _,Below.refl _ _⟩
 case round =>
  obtain ⟨j,hj,rfl,hown,hx⟩:=hrel
  obtain ⟨A1,c1,hv1,hac1,hcm1⟩:=Own.shape hown
  subst hv1
  by_cases hlt:j<ll.length
  · obtain ⟨b,off,u,hA,q0,_,hb,hub⟩:=BList.at_ hl hlt
    subst hA
    have hltB:(j:Int)<(ll.length:Int):=by omega
    have hlen:ll[j].length<=200:=hs _ (List.getElem_mem hlt)
    have hsn:Shf.lay (ll.take (j+1))=Shf.lay (ll.take j)++Shf.lay1 ll[j]:=by rw [List.take_succ_eq_append_getElem hlt,Shf.lay_snoc]
    have hll:=Shf.lay_len (ll.take j) (fun e he=>hs e (List.mem_of_mem_take he))
    have htl:(ll.take j).length<=100:=by rw [List.length_take];omega
    have p0:=(hx.cell (p:=⟨b,off+j,none⟩) hb).trans q0
    have hue:=hub.below hx
    generalize hT:Shf.lay (ll.take j)=T at *
    generalize ll[j]=e at *
    have HSN:=Lib.hid hsn
    clear hsn hT q0
    obtain ⟨A3,c3,hv3,hlc3,hcm3⟩:=hue.form'
    subst hv3
    obtain ⟨hownB,hsrc⟩:=byte_prep (UInt8.ofNat e.length) hown
    have hbv:bv (UInt8.ofNat e.length) = .int .u8 (e.length:Int):=by rw [bv_def,UInt8.toNat_ofNat'];congr 1;omega
    have hxB:=hx.alloc hx.size (.cells #[bv (UInt8.ofNat e.length)] 5)
    have hueB:=hue.alloc (.cells #[bv (UInt8.ofNat e.length)] 5)
    rw [hbv] at hownB hsrc hxB hueB
    have HBV:=Lib.hid hbv
    have hTl:T.length<=20100:=by omega
    clear hbv hll htl
    go_wp2_with (at_builtin
                 first
                 | (refine wpList_append_Own _ (by rfl) (.tmp 12) (.tmp 16) 22 (by rfl) w.heap.size 5 i0 _ 1 1 Try.underlying22 hi hz0 hz1 hz2 (by rfl) (by omega) (.slice A1 T.length c1) T.length (T.map bv) (by rfl) hownB _ _ _ _ (by rfl) hsrc (by simp [Value.oneCell']) (by simp only [maxLen];omega) (by omega) (by simp;have:=hx.size;omega) ?_
                    intro v2 w2 hown2 hgr2 hat2
                    have hx2:Below w.heap.size w w2:=hxB.grown hgr2 hxB.size (fun k hk=>(Own.lt hownB k hk).1)
                    have hsr2:=hub.below hx2
                    obtain ⟨A5,c5,hv5,hac5,hcm5⟩:=Own.shape hown2
                    subst hv5)
                 | (refine wpList_append_Own _ (by rfl) (.tmp 18) (.tmp 19) 22 (by rfl) w.heap.size 5 i0 _ 1 1 Try.underlying22 hi hz0 hz1 hz2 (by rfl) (by omega) _ (T.length+1) (T.map bv++[.int .u8 (e.length:Int)]) (by rfl) hown2 _ _ _ _ (by rfl) hsr2 (by simp [bv_oneCell]) (by simp only [maxLen];omega) (by omega) hx2.size ?_
                    intro v4 w4 hown4 hgr4 hat4
                    have hx4:Below w.heap.size w w4:=hx2.grown hgr4 hx2.size (fun k hk=>(Own.lt hown2 k hk).1)))
    go_roundg (gk-1)
    case measure=>omega
    case rel =>
     refine ⟨j+1,by omega,by go_num,?_,hx4⟩
     rw [HSN.out]
     unfold OwnB Shf.lay1
     rw [List.length_append,List.length_cons,List.map_append,List.map_cons,HBV.out,show T.length+(e.length+1)=T.length+1+e.length by omega,show List.map bv T++Value.int .u8 (e.length:Int)::List.map bv e=List.map bv T++[Value.int .u8 (e.length:Int)]++List.map bv e by simp]
     exact hown4
  · have hltB:decide ((j:Int)<(ll.length:Int))=false:=by simp;omega
    have hjn:ll.take j=ll:=List.take_of_length_le (by omega)
    go_wp2_with fail
    go_ret
    have hown':OwnB wr w.heap.size (.slice A1 (Shf.lay (ll.take j)).length c1) (Shf.lay ll):=by
     have:=hown
     rw [hjn] at this ⊢
     exact this
    exact ⟨_,rfl,hown',hx⟩
def ByB (w:World) (B:Nat) (k:Nat):Prop:=B<=k/\∃ cs,w.heap[k]? = some (.cells cs 5 (0,0))
def PcB (w:World) (B:Nat) (v:Value) (l:Bs):Prop:=Bytes w (ByB w B) v l
def OwnQ (w:World) (R B:Nat) (v:Value) (ll:List Bs):Prop :=
 ∃ vs:List Value,Own w R 22 1 v ll.length vs/\∀ (i:Nat) (b:Bs),ll[i]? = some b->∃ u:Value,vs[i]? = some u/\PcB w B u b
section
variable {w w':World} {R B:Nat} {v:Value} {l:Bs} {ll:List Bs}
theorem PcB.of_own (h:OwnB w B v l):PcB w B v l:=h.slAt fun k hk=>⟨(Own.type h k hk).1,(Own.type h k hk).2⟩
theorem PcB.keep (h:PcB w B v l) (hs:w.heap.size<=w'.heap.size) (hk:∀ k,k<w.heap.size->ByB w B k->w'.heap[k]? = w.heap[k]?):PcB w' B v l:=by
 have h1:Bytes w' (ByB w B) v l:=SlAt.keep h hs hk
 obtain ⟨A,c,hv,h1,h2,h3,h4⟩:=h
 refine ⟨A,c,hv,h1,h2,h3,fun hn=>?_⟩
 obtain ⟨b,off,hA,hF,hb,hc⟩:=h4 hn
 have e:=hk b hb hF
 exact ⟨b,off,hA,⟨hF.1,by rw [e];exact hF.2⟩,by omega,fun j u hu=>(World.cell?_of_block e).trans (hc j u hu)⟩
theorem PcB.below (h:PcB w B v l) (hb:Below w.heap.size w w'):PcB w' B v l:=h.keep hb.size fun k hk _=>hb.block k hk
theorem PcB.mono (h:PcB w B v l) {B':Nat} (hb:B'<=B):PcB w B' v l:=SlAt.weak h (fun _ _ hk=>⟨Nat.le_trans hb hk.1,hk.2⟩)
theorem PcB.alloc (h:PcB w B v l) (o:Obj):PcB (w.alloc o) B v l:=h.below ((Below.refl _ _).alloc (Nat.le_refl _) o)
theorem OwnQ.nil_ (w:World) (R B:Nat):OwnQ w R B (.slice none 0 0) []:=⟨[],Own.nil_ _ _ _ _,fun i b hb=>by simp at hb⟩
theorem OwnQ.below (h:OwnQ w R B v ll) (hb:Below w.heap.size w w'):OwnQ w' R B v ll:=by
 obtain ⟨vs,h1,h2⟩:=h
 refine ⟨vs,h1.below hb,fun i b hi=>?_⟩
 obtain ⟨u,hu,ho⟩:=h2 i b hi
 exact ⟨u,hu,ho.below hb⟩
theorem OwnQ.mono (h:OwnQ w R B v ll) {R' B':Nat} (hr:R'<=R) (hb:B'<=B):OwnQ w R' B' v ll:=by
 obtain ⟨vs,h1,h2⟩:=h
 refine ⟨vs,h1.mono hr,fun i b hi=>?_⟩
 obtain ⟨u,hu,ho⟩:=h2 i b hi
 exact ⟨u,hu,ho.mono hb⟩
theorem OwnQ.blist (h:OwnQ w R B v ll):BList w (fun _=>True) v ll:=by
 obtain ⟨vs,h1,h2⟩:=h
 refine ⟨vs,h1.slAt (fun _ _=>trivial),fun i b hi=>?_⟩
 obtain ⟨u,hu,ho⟩:=h2 i b hi
 exact ⟨u,hu,SlAt.weak ho (fun _ _ _=>trivial)⟩
theorem PcB.grown (h:PcB w B v l) {z:Value} {n:Nat} {vs:List Value} (hz:Own w R 22 1 z n vs) (hg:w.grownBy w' z.ownBlock):PcB w' B v l :=
 h.keep hg.size fun k hk hF=>hg.block k hk (fun e=>by
  obtain ⟨_,cur,hc⟩:=hz.type k e.symm
  obtain ⟨_,cs,hF⟩:=hF
  rw [hc] at hF
  injection hF with hF
  injection hF with _ hF
  exact absurd hF (by decide))
theorem OwnQ.join {v':Value} {vs us:List Value} {mm:List Bs} (h1:∀ (i:Nat) (b:Bs),ll[i]? = some b->∃ u:Value,vs[i]? = some u/\PcB w B u b) (hvs:vs.length=ll.length) (h2:∀ (i:Nat) (b:Bs),mm[i]? = some b->∃ u:Value,us[i]? = some u/\PcB w B u b)
 (hv:Own w R 22 1 v ll.length vs) (hg:w.grownBy w' v.ownBlock) (hown:Own w' R 22 1 v' (ll.length+mm.length) (vs++us)):OwnQ w' R B v' (ll++mm):=by
 refine ⟨vs++us,by rw [List.length_append];exact hown,fun i c hi=>?_⟩
 rcases Nat.lt_or_ge i ll.length with hlt | hge
 · rw [List.getElem?_append_left hlt] at hi
   obtain ⟨x,hx,ho⟩:=h1 i c hi
   exact ⟨x,by rw [List.getElem?_append_left (by omega)];exact hx,ho.grown hv hg⟩
 · rw [List.getElem?_append_right hge] at hi
   obtain ⟨x,hx,ho⟩:=h2 _ c hi
   exact ⟨x,by rw [List.getElem?_append_right (by omega),hvs];exact hx,ho.grown hv hg⟩
end
end Go.Proofs.Ytfdibjgmbdkbcaa
namespace Go.Proofs.Ytfdibjgmbdkbcaa
open Go.RowKit Go.Lib
def RTakePost (w:World) (B:Nat) (b:Bs) (n:Nat) (e:Ending) (w':World):Prop :=
 ∃ v,e = .returned (.tuple #[v,.bool (Shf.taken b n).isSome])/\(∀ l,Shf.taken b n=some l->OwnQ w' w.heap.size B v l)/\Below w.heap.size w w'
theorem drop_at (b:Bs) (i:Nat) (h:i<b.length):b.drop i=b.getD i 0::b.drop (i+1):=by
 rw [List.drop_eq_getElem_cons h]
 simp only [List.getD_eq_getElem?_getD,List.getElem?_eq_getElem h,Option.getD_some]
theorem OwnQ.snoc {w w':World} {R B:Nat} {v v' u:Value} {ll:List Bs} {b:Bs} {vs:List Value} (h1:∀ (i:Nat) (b:Bs),ll[i]? = some b->∃ u:Value,vs[i]? = some u/\PcB w B u b) (hvs:vs.length=ll.length) (hu:PcB w B u b)
 (hv:Own w R 22 1 v ll.length vs) (hg:w.grownBy w' v.ownBlock) (hown:Own w' R 22 1 v' (ll.length+1) (vs++[u])):OwnQ w' R B v' (ll++[b]) :=
 OwnQ.join (mm:=[b]) (us:=[u]) h1 hvs (fun i c hc=>by
  rcases i with _ | i
  · simp at hc;subst hc;exact ⟨u,rfl,hu⟩
  · simp at hc) hv hg hown
set_option maxRecDepth 100000 in
set_option maxHeartbeats 4000000 in
theorem rtake_any (w:World) (B:Nat) (v:Value) (b:Bs) (hb:PcB w B v b) (hbl:b.length<=100000) (n:Nat) (hn:n<=100) :
 Calls Try.prog 112 #[v,.int .i64 (n:Int)] w (RTakePost w B b n):=by
 obtain ⟨i1,hi1,hy0,hy1,hy2⟩:=info_parts info_bytes
 obtain ⟨A,c,hv,hbc,hcm⟩:=Bytes.form' hb
 subst hv
 unfold maxLen at hcm
 obtain ⟨K,HK⟩:∃ K,Hid (K=Shf.take n b):=⟨_,Lib.hid rfl⟩
 go_enter Try.func112,Try.ntmps112
 go_wp2_with fail
 go_loopg [6,7,8] n (fun k vo va i wr=>∃ (j at_:Nat) (acc:List Bs),j+k=n/\i = .int .i64 (j:Int)/\va = .int .i64 (at_:Int)/\at_<=b.length/\Hid (K=(Shf.take k (b.drop at_)).map fun p=>(acc++p.1,p.2))/\acc.length=j/\OwnQ wr w.heap.size B vo acc/\Below w.heap.size w wr)
 case atStart=>exact ⟨0,0,[],by omega,rfl,rfl,Nat.zero_le _,Lib.hid (by rw [HK.out,List.drop_zero];cases Shf.take n b<;>rfl),rfl,OwnQ.nil_ _ _ _,Below.refl _ _⟩
 case round =>
  obtain ⟨j,at_,acc,hj,rfl,rfl,hat,HR,hal,hown,hx⟩:=hrel
  by_cases hlt:j<n
  · have hltB:(j:Int)<(n:Int):=by omega
    obtain ⟨k,rfl⟩:∃ k,gk=k+1:=⟨gk-1,by omega⟩
    by_cases hend:b.length<=at_
    · have heB:(b.length:Int)<=(at_:Int):=by omega
      have hKn:K=none:=by rw [HR.out,List.drop_eq_nil_of_le hend];rfl
      have hT:Shf.taken b n=none:=by unfold Shf.taken;rw [<-HK.out,hKn]
      have HT:=Lib.hid hT
      clear hKn hT
      go_wp2_with fail
      go_ret2
      exact ⟨_,by rw [HT.out];rfl,fun l h=>(by rw [HT.out] at h;cases h),hx⟩
    · have heB:decide ((b.length:Int)<=(at_:Int))=false:=by simp;omega
      obtain ⟨q,off,hA,hq,hcc⟩:=Bytes.cells hb (by omega)
      subst hA
      have q0:=hcc at_ (by omega)
      have hdr:=drop_at b at_ (by omega)
      have hb1:=Bytes.piece hb (at_+1) (b.getD at_ 0).toNat
      have hx256:(b.getD at_ 0).toNat<256:=(b.getD at_ 0).toNat_lt
      have p0:wr.cell? ⟨q,off+at_,none⟩=some (.int .u8 ((b.getD at_ 0).toNat:Int)):=(hx.cell (p:=⟨q,off+at_,none⟩) hq).trans q0
      clear q0 hcc
      generalize b.getD at_ 0=x at *
      have hdl:(b.drop (at_+1)).length=b.length-(at_+1):=List.length_drop
      have hKb:K=(if 200<x.toNat\/(b.drop (at_+1)).length<x.toNat then none else (Shf.take k ((b.drop (at_+1)).drop x.toNat)).map fun p=>((b.drop (at_+1)).take x.toNat::p.1,p.2)).map fun p=>(acc++p.1,p.2):=by rw [HR.out,hdr];rfl
      have hat1:(at_:Int)<(b.length:Int):=by omega
      by_cases hbad:200<x.toNat\/(b.drop (at_+1)).length<x.toNat
      · have hKn:K=none:=by rw [hKb,if_pos hbad];rfl
        have hT:Shf.taken b n=none:=by unfold Shf.taken;rw [<-HK.out,hKn]
        have HT:=Lib.hid hT
        rw [hdl] at hbad
        clear hKn hT hKb hdr hb1 hdl
        by_cases h200:200<x.toNat
        · have h200B:(200:Int)<(x.toNat:Int):=by omega
          clear hbad
          go_wp2_with fail
          go_ret2
          exact ⟨_,by rw [HT.out];rfl,fun l h=>(by rw [HT.out] at h;cases h),hx⟩
        · have h200B:decide ((200:Int)<(x.toNat:Int))=false:=by simp;omega
          have hshB:(b.length:Int)<(at_:Int)+1+(x.toNat:Int):=by omega
          clear hbad
          go_wp2_with fail
          go_ret2
          exact ⟨_,by rw [HT.out];rfl,fun l h=>(by rw [HT.out] at h;cases h),hx⟩
      · rw [if_neg hbad,List.drop_drop] at hKb
        rw [hdl] at hbad
        have h200B:decide ((200:Int)<(x.toNat:Int))=false:=by simp;omega
        have hshB:decide ((b.length:Int)<(at_:Int)+1+(x.toNat:Int))=false:=by simp;omega
        have hpc:=hb1 (by omega)
        have hlk:((b.drop (at_+1)).take x.toNat).length=x.toNat:=by rw [List.length_take,hdl];omega
        have hin1:at_+1+x.toNat<=b.length:=by omega
        have HKB:=Lib.hid hKb
        generalize (b.drop (at_+1)).take x.toNat=rk at *
        have HRK:=Lib.hid hlk
        clear hKb hdr hb1 hdl hbad hlk
        by_cases hc1:at_+1=c
        · have hx0:x.toNat=0:=by omega
          have hrk:rk=[]:=List.eq_nil_of_length_eq_zero (by rw [HRK.out];exact hx0)
          subst hrk
          have HPC:Hid (PcB w B (.slice (some ⟨q,off,none⟩) 0 0) ([]:Bs)):=Lib.hid ⟨_,0,rfl,Nat.le_refl _,by simp [maxLen],rfl,fun h=>absurd h (by simp)⟩
          have hx00:x=0:=UInt8.toNat_inj.1 hx0
          subst hx00
          subst hc1
          have p0':wr.cell? ⟨q,off+at_,none⟩=some (.int .u8 0):=p0
          have hbl1:b.length=at_+1:=by omega
          have hshB':decide ((b.length:Int)<(at_:Int)+1)=false:=by simp;omega
          have HB1:=Lib.hid hbl1
          clear hx0 p0 hx256 h200B hshB hpc hbl1 HRK
          obtain ⟨vs,hO,hin⟩:=hown
          obtain ⟨A3,c3,hv3,hlc3,hcm3⟩:=Own.shape hO
          subst hv3
          have hpw:PcB wr B (.slice (some ⟨q,off,none⟩) 0 0) (([]:Bs)):=HPC.out.below hx
          have hO2:=Own.alloc hO (.cells #[.slice (some ⟨q,off,none⟩) 0 0] 22)
          have hsrc:=SlAt.new wr 22 [.slice (some ⟨q,off,none⟩) 0 0] 1 rfl (by decide)
          have hxB:=hx.alloc hx.size (.cells #[.slice (some ⟨q,off,none⟩) 0 0] 22)
          have hpB:=hpw.alloc (.cells #[.slice (some ⟨q,off,none⟩) 0 0] 22)
          have hinB:∀ (i:Nat) (b':Bs),acc[i]? = some b'->∃ u:Value,vs[i]? = some u/\PcB (wr.alloc (.cells #[.slice (some ⟨q,off,none⟩) 0 0] 22)) B u b':=fun i b' h=>by
           obtain ⟨u,hu,ho⟩:=hin i b' h
           exact ⟨u,hu,ho.alloc _⟩
          have HAL:=Lib.hid hal
          have hal100:acc.length<=100:=by omega
          clear hal
          go_wp2_with (at_builtin
                       refine wpList_append_Own _ (by rfl) (.tmp 47) (.tmp 53) 40 (by rfl) w.heap.size 22 i1 _ 1 24 Try.underlying40 hi1 hy0 hy1 hy2 (by rfl) (by omega) (.slice A3 acc.length c3) acc.length vs (by rfl) hO2 _ _ _ _ (by rfl) hsrc (by simp [Value.oneCell']) (by simp only [maxLen];omega) (by omega) (by have:=hx.size;simp;omega) ?_
                       intro v4 w4 hown4 hgr4 hat4
                       have hL:OwnQ w4 w.heap.size B v4 (acc++[([]:Bs)]):=OwnQ.snoc hinB (by have:=hO.1;omega) hpB hO2 hgr4 hown4
                       have hx4:Below w.heap.size w w4:=hxB.grown hgr4 hxB.size (fun k hk=>(Own.lt hO2 k hk).1))
          go_roundg k
          case measure=>omega
          case rel=>exact ⟨j+1,at_+1,acc++[[]],by omega,by go_num,by go_num,hin1,Lib.hid (by rw [HKB.out,Option.map_map];congr 1;funext p;simp),by rw [List.length_append,HAL.out];rfl,hL,hx4⟩
        · have hc1B:((c:Int)==(at_:Int)+1)=false:=by rw [beq_eq_false_iff_ne];omega
          have hc1C:¬ c=at_+1:=by omega
          have ck1:(at_:Int)+1+(x.toNat:Int)<=(c:Int):=by omega
          have ck0:(at_:Int)+1<=(at_:Int)+1+(x.toNat:Int):=by omega
          have HPC:Hid (PcB w B (.slice (some ⟨q,off+(at_+1),none⟩) rk.length (c-(at_+1))) rk):=Lib.hid (by unfold PcB;rw [HRK.out];exact hpc)
          rw [HRK.out] at HPC
          clear hpc
          obtain ⟨vs,hO,hin⟩:=hown
          obtain ⟨A3,c3,hv3,hlc3,hcm3⟩:=Own.shape hO
          subst hv3
          have hpw:PcB wr B (.slice (some ⟨q,off+(at_+1),none⟩) x.toNat (c-(at_+1))) (rk):=HPC.out.below hx
          have hO2:=Own.alloc hO (.cells #[.slice (some ⟨q,off+(at_+1),none⟩) x.toNat (c-(at_+1))] 22)
          have hsrc:=SlAt.new wr 22 [.slice (some ⟨q,off+(at_+1),none⟩) x.toNat (c-(at_+1))] 1 rfl (by decide)
          have hxB:=hx.alloc hx.size (.cells #[.slice (some ⟨q,off+(at_+1),none⟩) x.toNat (c-(at_+1))] 22)
          have hpB:=hpw.alloc (.cells #[.slice (some ⟨q,off+(at_+1),none⟩) x.toNat (c-(at_+1))] 22)
          have hinB:∀ (i:Nat) (b':Bs),acc[i]? = some b'->∃ u:Value,vs[i]? = some u/\PcB (wr.alloc (.cells #[.slice (some ⟨q,off+(at_+1),none⟩) x.toNat (c-(at_+1))] 22)) B u b':=fun i b' h=>by
           obtain ⟨u,hu,ho⟩:=hin i b' h
           exact ⟨u,hu,ho.alloc _⟩
          have HAL:=Lib.hid hal
          have hal100:acc.length<=100:=by omega
          clear hal
          go_wp2_with (at_builtin
                       refine wpList_append_Own _ (by rfl) (.tmp 47) (.tmp 53) 40 (by rfl) w.heap.size 22 i1 _ 1 24 Try.underlying40 hi1 hy0 hy1 hy2 (by rfl) (by omega) (.slice A3 acc.length c3) acc.length vs (by rfl) hO2 _ _ _ _ (by rfl) hsrc (by simp [Value.oneCell']) (by simp only [maxLen];omega) (by omega) (by have:=hx.size;simp;omega) ?_
                       intro v4 w4 hown4 hgr4 hat4
                       have hL:OwnQ w4 w.heap.size B v4 (acc++[rk]):=OwnQ.snoc hinB (by have:=hO.1;omega) hpB hO2 hgr4 hown4
                       have hx4:Below w.heap.size w w4:=hxB.grown hgr4 hxB.size (fun k hk=>(Own.lt hO2 k hk).1))
          go_roundg k
          case measure=>omega
          case rel=>exact ⟨j+1,at_+1+x.toNat,acc++[rk],by omega,by go_num,by go_num,hin1,Lib.hid (by rw [HKB.out,Option.map_map];congr 1;funext p;simp),by rw [List.length_append,HAL.out];rfl,hL,hx4⟩
  · have hltB:decide ((j:Int)<(n:Int))=false:=by simp;omega
    have hk0:gk=0:=by omega
    subst hk0
    have hK1:K=some (acc,b.drop at_):=by rw [HR.out];simp [Shf.take]
    have hT:Shf.taken b n=if b.drop at_=[] then some acc else none:=by
     unfold Shf.taken
     rw [<-HK.out,hK1]
     rcases b.drop at_ with _ | ⟨x,r⟩<;>rfl
    by_cases he:at_=b.length
    · subst he
      rw [if_pos (List.drop_length)] at hT
      have HT:=Lib.hid hT
      clear hT hK1
      go_wp2_with fail
      go_ret2
      refine ⟨_,by rw [HT.out];rfl,fun l h=>(by rw [HT.out] at h;simp at h;subst h;exact hown),hx⟩
    · rw [if_neg (by intro h;have:=List.drop_eq_nil_iff.1 h;omega)] at hT
      have HT:=Lib.hid hT
      have heB:((at_:Int)==(b.length:Int))=false:=by rw [beq_eq_false_iff_ne];omega
      clear hT hK1
      go_wp2_with fail
      go_ret2
      exact ⟨_,by rw [HT.out];rfl,fun l h=>(by rw [HT.out] at h;simp at h),hx⟩
end Go.Proofs.Ytfdibjgmbdkbcaa
