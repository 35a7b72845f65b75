/-
  Entries laid one behind the other, and taken again; plain. No conditions. THE WALK of shelf.lay. Conditions: what is read is a list of texts, a hundred at the most, each of 200 bytes at the most. A piece of bytes, and a tail. No conditions. THE WALK of shelf.take. Conditions: what is read is bytes; a hundred entries at the most.
-/
import Derived.Test.YtfdibjgmbdkbcaaYGa
import Derived.Test.YtfdibjgmbdkbcaaYGc
import Derived.Test.YtfdibjgmbdkbcaaYRepr
namespace Go.Proofs.Ytfdibjgmbdkbcaa
namespace Shf
def lay1 (e:Bs):Bs:=UInt8.ofNat e.length::e
def lay (l:List Bs):Bs:=l.flatMap lay1
def take:Nat->Bs->Option (List Bs × Bs)
 | 0,b=>some ([],b)
 | n+1,b=>match b with
   | []=>none
   | k::r=>if 200<k.toNat\/r.length<k.toNat then none else (take n (r.drop k.toNat)).map fun p=>(r.take k.toNat::p.1,p.2)
def taken (b:Bs) (n:Nat):Option (List Bs):=match take n b with
 | some (l,[])=>some l
 | _=>none
theorem lay_snoc (l:List Bs) (e:Bs):lay (l++[e])=lay l++lay1 e:=by simp [lay]
theorem lay_len:∀ l:List Bs,(∀ e ∈ l,e.length<=200)->(lay l).length<=201*l.length
 | [],_=>by simp [lay]
 | e::l,h=>by
   have h1:=lay_len l (fun x hx=>h x (List.mem_cons_of_mem _ hx))
   have h2:=h e (List.mem_cons_self ..)
   unfold lay at h1 ⊢
   rw [List.flatMap_cons,List.length_append,List.length_cons]
   unfold lay1 at h1 ⊢
   rw [List.length_cons]
   omega
end Shf
end Go.Proofs.Ytfdibjgmbdkbcaa
namespace Go.Proofs.Ytfdibjgmbdkbcaa
open Go.RowKit Go.Lib
set_option maxRecDepth 100000 in
set_option maxHeartbeats 2000000 in
theorem lay_any (w:World) (F:Nat->Prop) (v:Value) (ll:List Bs) (hl:BList w F v ll) (hn:ll.length<=100) (hs:∀ e ∈ ll,e.length<=200) :
 Calls Try.prog 109 #[v] w fun e w'=>∃ v,e = .returned v/\OwnB w' w.heap.size v (Shf.lay ll)/\Below w.heap.size w w':=by
 obtain ⟨i0,hi,hz0,hz1,hz2⟩:=info_parts info_u8
 obtain ⟨A,c,hv⟩:=hl.form
 subst hv
 go_enter Try.func109,Try.ntmps109
 go_wp2_with fail
 go_loopg [3,8] ll.length (fun k v i wr=>∃ j:Nat,j+k=ll.length/\i = .int .i64 (j:Int)/\OwnB wr w.heap.size v (Shf.lay (ll.take j))/\Below w.heap.size w wr)
 case atStart=>exact ⟨0,by omega,rfl,Own.nil_ _ _ _ _,Below.refl _ _⟩
 case round =>
  obtain ⟨j,hj,rfl,hown,hx⟩:=hrel
  obtain ⟨A1,c1,hv1,hac1,hcm1⟩:=Own.shape hown
  subst hv1
  by_cases hlt:j<ll.length
  · obtain ⟨b,off,u,hA,q0,_,hb,hub⟩:=BList.at_ hl hlt
    subst hA
    have hltB:(j:Int)<(ll.length:Int):=by omega
    have hlen:ll[j].length<=200:=hs _ (List.getElem_mem hlt)
    have hsn:Shf.lay (ll.take (j+1))=Shf.lay (ll.take j)++Shf.lay1 ll[j]:=by rw [List.take_succ_eq_append_getElem hlt,Shf.lay_snoc]
    have hll:=Shf.lay_len (ll.take j) (fun e he=>hs e (List.mem_of_mem_take he))
    have htl:(ll.take j).length<=100:=by rw [List.length_take];omega
    have p0:=(hx.cell (p:=⟨b,off+j,none⟩) hb).trans q0
    have hue:=hub.below hx
    generalize hT:Shf.lay (ll.take j)=T at *
    generalize ll[j]=e at *
    have HSN:=Lib.hid hsn
    clear hsn hT q0
    obtain ⟨A3,c3,hv3,hlc3,hcm3⟩:=hue.form'
    subst hv3
    obtain ⟨hownB,hsrc⟩:=byte_prep (UInt8.ofNat e.length) hown
    have hbv:bv (UInt8.ofNat e.length) = .int .u8 (e.length:Int):=by rw [bv_def,UInt8.toNat_ofNat'];congr 1;omega
    have hxB:=hx.alloc hx.size (.cells #[bv (UInt8.ofNat e.length)] 5)
    have hueB:=hue.alloc (.cells #[bv (UInt8.ofNat e.length)] 5)
    rw [hbv] at hownB hsrc hxB hueB
    have HBV:=Lib.hid hbv
    have hTl:T.length<=20100:=by omega
    clear hbv hll htl
    go_wp2_with (at_builtin
                 first
                 | (refine wpList_append_Own _ (by rfl) (.tmp 12) (.tmp 16) 22 (by rfl) w.heap.size 5 i0 _ 1 1 Try.underlying22 hi hz0 hz1 hz2 (by rfl) (by omega) (.slice A1 T.length c1) T.length (T.map bv) (by rfl) hownB _ _ _ _ (by rfl) hsrc (by simp [Value.oneCell']) (by simp only [maxLen];omega) (by omega) (by simp;have:=hx.size;omega) ?_
                    intro v2 w2 hown2 hgr2 hat2
                    have hx2:Below w.heap.size w w2:=hxB.grown hgr2 hxB.size (fun k hk=>(Own.lt hownB k hk).1)
                    have hsr2:=hub.below hx2)
                 | (refine wpList_append_Own _ (by rfl) (.tmp 17) (.tmp 18) 22 (by rfl) w.heap.size 5 i0 _ 1 1 Try.underlying22 hi hz0 hz1 hz2 (by rfl) (by omega) v2 (T.length+1) (T.map bv++[.int .u8 (e.length:Int)]) (by rfl) hown2 _ _ _ _ (by rfl) hsr2 (by simp [bv_oneCell]) (by simp only [maxLen];omega) (by omega) hx2.size ?_
                    intro v4 w4 hown4 hgr4 hat4
                    have hx4:Below w.heap.size w w4:=hx2.grown hgr4 hx2.size (fun k hk=>(Own.lt hown2 k hk).1)))
    go_roundg (gk-1)
    case measure=>omega
    case rel =>
     refine ⟨j+1,by omega,by go_num,?_,hx4⟩
     rw [HSN.out]
     unfold OwnB Shf.lay1
     rw [List.length_append,List.length_cons,List.map_append,List.map_cons,HBV.out,show T.length+(e.length+1)=T.length+1+e.length by omega,show List.map bv T++Value.int .u8 (e.length:Int)::List.map bv e=List.map bv T++[Value.int .u8 (e.length:Int)]++List.map bv e by simp]
     exact hown4
  · have hltB:decide ((j:Int)<(ll.length:Int))=false:=by simp;omega
    have hjn:ll.take j=ll:=List.take_of_length_le (by omega)
    go_wp2_with fail
    go_ret
    have hown':OwnB wr w.heap.size (.slice A1 (Shf.lay (ll.take j)).length c1) (Shf.lay ll):=by
     have:=hown
     rw [hjn] at this ⊢
     exact this
    exact ⟨_,rfl,hown',hx⟩
end Go.Proofs.Ytfdibjgmbdkbcaa
namespace Go.Proofs.Ytfdibjgmbdkbcaa
open Go.RowKit
theorem Bytes.piece {w:World} {F:Nat->Prop} {q off c:Nat} {l:Bs} (h:Bytes w F (.slice (some ⟨q,off,none⟩) l.length c) l) (i n:Nat) (hn:i+n<=l.length) :
 Bytes w F (.slice (some ⟨q,off+i,none⟩) n (c-i)) ((l.drop i).take n):=by
 have h1:=(rdL_bytes.2 h).rest (k:=i) (by omega)
 have h2:=h1.first n (by rw [List.length_drop];omega)
 rw [show Rp.sz UInt8=1 from rfl,Nat.mul_one] at h2
 exact rdL_bytes.1 h2
theorem Bytes.tail {w:World} {F:Nat->Prop} {q off c:Nat} {l:Bs} (h:Bytes w F (.slice (some ⟨q,off,none⟩) l.length c) l) (i:Nat) (hn:i<=l.length) :
 Bytes w F (.slice (some ⟨q,off+i,none⟩) (l.length-i) (c-i)) (l.drop i):=by
 have h1:=(rdL_bytes.2 h).rest (k:=i) (by omega)
 rw [show Rp.sz UInt8=1 from rfl,Nat.mul_one] at h1
 exact rdL_bytes.1 h1
end Go.Proofs.Ytfdibjgmbdkbcaa
namespace Go.Proofs.Ytfdibjgmbdkbcaa
open Go.RowKit Go.Lib
def TakePost (w:World) (b:Bs) (n:Nat) (e:Ending) (w':World):Prop :=
 ∃ v,e = .returned (.tuple #[v,.bool (Shf.taken b n).isSome])/\(∀ l,Shf.taken b n=some l->OwnL w' w.heap.size v l)/\Below w.heap.size w w'
set_option maxRecDepth 100000 in
set_option maxHeartbeats 4000000 in
theorem take_any (w:World) (F:Nat->Prop) (v:Value) (b:Bs) (hb:Bytes w F v b) (n:Nat) (hn:n<=100) :
 Calls Try.prog 111 #[v,.int .i64 (n:Int)] w (TakePost w b n):=by
 obtain ⟨i1,hi1,hy0,hy1,hy2⟩:=info_parts info_bytes
 obtain ⟨A,c,hv,hbc,hcm⟩:=hb.form'
 subst hv
 unfold maxLen at hcm
 obtain ⟨K,HK⟩:∃ K,Hid (K=Shf.take n b):=⟨_,Lib.hid rfl⟩
 go_enter Try.func111,Try.ntmps111
 go_wp2_with fail
 go_loopg [0,6,9] n (fun k vr vo i wr=>∃ (j:Nat) (r:Bs) (acc:List Bs),j+k=n/\i = .int .i64 (j:Int)/\Hid (K=(Shf.take k r).map fun p=>(acc++p.1,p.2))/\acc.length=j/\Bytes w F vr r/\OwnL wr w.heap.size vo acc/\Below w.heap.size w wr)
 case atStart=>exact ⟨0,b,[],by omega,rfl,Lib.hid (by rw [HK.out];cases Shf.take n b<;>rfl),rfl,hb,OwnL.nil_ _ _,Below.refl _ _⟩
 case round =>
  obtain ⟨j,r,acc,hj,rfl,HR,hal,hr,hown,hx⟩:=hrel
  obtain ⟨A1,c1,hv1,hrc,hrm⟩:=hr.form'
  subst hv1
  unfold maxLen at hrm
  by_cases hlt:j<n
  · have hltB:(j:Int)<(n:Int):=by omega
    obtain ⟨k,rfl⟩:∃ k,gk=k+1:=⟨gk-1,by omega⟩
    cases r with
    | nil =>
      have hKn:K=none:=by rw [HR.out];rfl
      have hT:Shf.taken b n=none:=by unfold Shf.taken;rw [<-HK.out,hKn]
      clear hKn
      have HT:=Lib.hid hT
      clear hT
      go_wp2_with fail
      go_ret2
      exact ⟨_,by rw [HT.out];rfl,fun l h=>(by rw [HT.out] at h;cases h),hx⟩
    | cons x r =>
      obtain ⟨b1,o1,hA1⟩:∃ b1 o1,A1=some ⟨b1,o1,none⟩/\b1<w.heap.size/\w.cell? ⟨b1,o1,none⟩=some (bv x):=by
       obtain ⟨A',c',hv',_,_,_,h4⟩:=hr
       injection hv' with e1 _ _
       obtain ⟨b1,o1,hA,_,hlt1,hc⟩:=h4 (by simp)
       exact ⟨b1,o1,e1.trans hA,hlt1,hc 0 _ rfl⟩
      obtain ⟨hA1,hlt1,q0⟩:=hA1
      subst hA1
      have p0:wr.cell? ⟨b1,o1,none⟩=some (.int .u8 (x.toNat:Int)):=(hx.cell (p:=⟨b1,o1,none⟩) hlt1).trans q0
      have hx256:x.toNat<256:=x.toNat_lt
      have hz0B:((r.length:Int)+1==0)=false:=by rw [beq_eq_false_iff_ne];omega
      have hrl:r.length<=9223372036854775806:=by rw [List.length_cons] at hrc;omega
      by_cases hbad:200<x.toNat\/r.length<x.toNat
      · have hKn:K=none:=by rw [HR.out];simp [Shf.take,hbad]
        have hT:Shf.taken b n=none:=by unfold Shf.taken;rw [<-HK.out,hKn]
        have HT:=Lib.hid hT
        clear hKn hT
        by_cases h200:200<x.toNat
        · have h200B:(200:Int)<(x.toNat:Int):=by omega
          clear hbad q0
          go_wp2_with fail
          go_ret2
          exact ⟨_,by rw [HT.out];rfl,fun l h=>(by rw [HT.out] at h;cases h),hx⟩
        · have h200B:decide ((200:Int)<(x.toNat:Int))=false:=by simp;omega
          have hshB:(r.length:Int)<(x.toNat:Int):=by omega
          clear hbad q0
          go_wp2_with fail
          go_ret2
          exact ⟨_,by rw [HT.out];rfl,fun l h=>(by rw [HT.out] at h;cases h),hx⟩
      · have h200B:decide ((200:Int)<(x.toNat:Int))=false:=by simp;omega
        have hshB:decide ((r.length:Int)<(x.toNat:Int))=false:=by simp;omega
        have hk:x.toNat<=r.length:=by omega
        have hKs:K=((Shf.take k (r.drop x.toNat)).map fun p=>(r.take x.toNat::p.1,p.2)).map fun p=>(acc++p.1,p.2):=by rw [HR.out];simp [Shf.take,hbad]
        have HKS:=Lib.hid hKs
        have hbad':=hbad
        clear hKs hbad q0
        by_cases hc1:c1=1
        · have hr0:r=[]:=by rw [List.length_cons] at hrc;exact List.eq_nil_of_length_eq_zero (by omega)
          have hx0:x=0:=by
           rw [hr0] at hk
           apply UInt8.toNat_inj.1
           rw [List.length_nil] at hk
           exact Nat.le_zero.1 hk
          subst hr0 hx0 hc1
          have p0':wr.cell? ⟨b1,o1,none⟩=some (.int .u8 0):=p0
          have HAL:=Lib.hid hal
          have hal100:acc.length<=100:=by omega
          clear hal p0 hx256 h200B hshB hk hbad' hz0B
          go_wp2_with fail
          refine (clone_any wr (fun _=>True) (.slice (some ⟨b1,o1,none⟩) 0 0) [] ⟨_,0,rfl,Nat.le_refl _,by simp [maxLen],rfl,fun h=>absurd h (by simp)⟩ (by simp)).mono ?_
          rintro e w2 ⟨v2,rfl,ho2,hx2⟩
          obtain ⟨A2,c2,hv2,hlc2,hcm2⟩:=Own.shape ho2
          subst hv2
          obtain ⟨vs,hO,hin⟩:=hown.below hx2
          obtain ⟨A3,c3,hv3,hlc3,hcm3⟩:=Own.shape hO
          subst hv3
          obtain ⟨hownB,hsrc,hend⟩:=OwnL.prep hO hin (OwnB.mono ho2 hx.size)
          have hxb:=hx.trans (hx2.mono hx.size)
          have hxB:=hxb.alloc hxb.size (.cells #[.slice A2 ([]:Bs).length c2] 22)
          go_wp2_with (at_builtin
                       refine wpList_append_Own _ (by rfl) (.tmp 35) (.tmp 41) 40 (by rfl) w.heap.size 22 i1 _ 1 24 Try.underlying40 hi1 hy0 hy1 hy2 (by rfl) (by omega) (.slice A3 acc.length c3) acc.length vs (by rfl) hownB _ _ _ _ (by rfl) hsrc (by simp [Value.oneCell']) (by simp only [maxLen];omega) (by omega) (by have:=hxb.size;simp;omega) ?_
                       intro v4 w4 hown4 hgr4 hat4
                       have hL:=hend _ _ hown4 hgr4
                       have hx4:Below w.heap.size w w4:=hxB.grown hgr4 hxB.size (fun k hk=>(Own.lt hownB k hk).1))
          go_roundg k
          case measure=>omega
          case rel =>
           refine ⟨j+1,[],acc++[[]],by omega,by go_num,Lib.hid ?_,by rw [List.length_append,HAL.out];rfl,?_,hL,hx4⟩
           · rw [HKS.out,Option.map_map]
             congr 1
             funext p
             simp
           · exact ⟨_,0,rfl,Nat.le_refl _,by simp [maxLen],rfl,fun h=>absurd h (by simp)⟩
        · have hc1B:((c1:Int)==1)=false:=by rw [beq_eq_false_iff_ne];omega
          have hpc:=Bytes.piece hr 1 x.toNat (by rw [List.length_cons];omega)
          rw [List.drop_one,List.tail_cons] at hpc
          have hlk:(r.take x.toNat).length=x.toNat:=by rw [List.length_take];omega
          have hpw:=hpc.below hx
          have hrt:∃ A' c',(if 1+x.toNat=c1 then some (⟨b1,o1,none⟩:Addr) else some ⟨b1,o1+(1+x.toNat),none⟩)=A'/\c1-(1+x.toNat)=c'/\Bytes w F (.slice A' (r.length-x.toNat) c') (r.drop x.toNat):=by
           have ht:=Bytes.tail hr (1+x.toNat) (by rw [List.length_cons];omega)
           rw [Nat.add_comm 1,List.drop_succ_cons,List.length_cons,show r.length+1-(x.toNat+1)=r.length-x.toNat by omega] at ht
           refine ⟨_,_,rfl,rfl,?_⟩
           rw [Nat.add_comm 1]
           split
           · rename_i hcc
             have hd0:r.drop x.toNat=[]:=List.drop_eq_nil_of_le (by rw [List.length_cons] at hrc;omega)
             rw [hd0,show r.length-x.toNat=0 by rw [List.length_cons] at hrc;omega]
             exact ⟨_,_,rfl,by simp,by simp [maxLen];omega,by simp,fun h=>absurd h (by simp)⟩
           · exact ht
          generalize hrk:r.take x.toNat=rk at *
          clear hrk
          have ck1:(1:Int)+(x.toNat:Int)<=(c1:Int):=by rw [List.length_cons] at hrc;omega
          have hx200:x.toNat<=200:=Nat.le_of_not_lt (fun h=>hbad' (.inl h))
          have hlk':rk.length<=200:=by omega
          have HLK:=Lib.hid hlk
          have HRT:=Lib.hid hrt
          clear hlk hrt hpc
          go_wp2_with fail
          refine (clone_any wr _ _ rk hpw (by omega)).mono ?_
          rintro e w2 ⟨v2,rfl,ho2,hx2⟩
          obtain ⟨A2,c2,hv2,hlc2,hcm2⟩:=Own.shape ho2
          subst hv2
          obtain ⟨vs,hO,hin⟩:=hown.below hx2
          obtain ⟨A3,c3,hv3,hlc3,hcm3⟩:=Own.shape hO
          subst hv3
          obtain ⟨hownB,hsrc,hend⟩:=OwnL.prep hO hin (OwnB.mono ho2 hx.size)
          have hxb:=hx.trans (hx2.mono hx.size)
          have hxB:=hxb.alloc hxb.size (.cells #[.slice A2 rk.length c2] 22)
          have HAL:=Lib.hid hal
          have hal100:acc.length<=100:=by omega
          clear hal
          go_wp2_with (at_builtin
                       refine wpList_append_Own _ (by rfl) (.tmp 35) (.tmp 41) 40 (by rfl) w.heap.size 22 i1 _ 1 24 Try.underlying40 hi1 hy0 hy1 hy2 (by rfl) (by omega) (.slice A3 acc.length c3) acc.length vs (by rfl) hownB _ _ _ _ (by rfl) hsrc (by simp [Value.oneCell']) (by simp only [maxLen];omega) (by omega) (by have:=hxb.size;simp;omega) ?_
                       intro v4 w4 hown4 hgr4 hat4
                       have hL:=hend _ _ hown4 hgr4
                       have hx4:Below w.heap.size w w4:=hxB.grown hgr4 hxB.size (fun k hk=>(Own.lt hownB k hk).1))
          all_goals
           go_roundg k
           case measure=>omega
           case rel =>
            refine ⟨j+1,r.drop x.toNat,acc++[rk],by omega,by go_num,Lib.hid ?_,by rw [List.length_append,HAL.out];rfl,?_,hL,hx4⟩
            · rw [HKS.out,Option.map_map]
              congr 1
              funext p
              simp
            · obtain ⟨A',c',e1,e2,hB⟩:=HRT.out
              first
               | (rw [if_pos (by omega)] at e1
                  subst e1
                  rw [show r.length+1-(1+x.toNat)=r.length-x.toNat by omega,show (0:Nat)=c' by omega]
                  exact hB)
               | (rw [if_neg (by omega)] at e1
                  subst e1 e2
                  rw [show r.length+1-(1+x.toNat)=r.length-x.toNat by omega]
                  exact hB)
  · have hltB:decide ((j:Int)<(n:Int))=false:=by simp;omega
    have hk0:gk=0:=by omega
    subst hk0
    have hK1:K=some (acc,r):=by rw [HR.out];simp [Shf.take]
    have hT:Shf.taken b n=if r=[] then some acc else none:=by
     unfold Shf.taken
     rw [<-HK.out,hK1]
     rcases r with _ | ⟨x,r⟩<;>rfl
    have HT:=Lib.hid hT
    clear hT hK1
    cases r with
    | nil =>
      go_wp2_with fail
      go_ret2
      exact ⟨_,by rw [HT.out];rfl,fun l h=>(by rw [HT.out] at h;simp at h;subst h;exact hown),hx⟩
    | cons x r =>
      have hneB:(((x::r).length:Int)==0)=false:=by rw [beq_eq_false_iff_ne,List.length_cons];omega
      go_wp2_with fail
      go_ret2
      exact ⟨_,by rw [HT.out];rfl,fun l h=>(by rw [HT.out] at h;simp at h),hx⟩
end Go.Proofs.Ytfdibjgmbdkbcaa
