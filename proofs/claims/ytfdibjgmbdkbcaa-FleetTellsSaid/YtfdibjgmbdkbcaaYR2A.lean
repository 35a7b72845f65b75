/-
  THE WALKS of yearref2.In, Pair, Wrong, Good, Split. Conditions: what is read is bytes, or a list of bytes; not too many.
-/
import Derived.Test.YtfdibjgmbdkbcaaYGc
import Derived.Test.YtfdibjgmbdkbcaaYGf
namespace Go.Proofs.Ytfdibjgmbdkbcaa
open Go.RowKit
set_option maxHeartbeats 1000000 in
theorem In_any (w:World) (F:Nat->Prop) (v:Value) (b:Bs) (hb:Bytes w F v b) (hlen:b.length<=140737488355100) :
 Calls Try.prog 32 #[v] w fun e w'=>∃ v,e = .returned v/\OwnB w' w.heap.size v (0::b)/\Below w.heap.size w w':=by
 obtain ⟨i8,hi8,hy0,hy1,hy2⟩:=info_parts info_u8
 obtain ⟨A,c,rfl⟩:=hb.form
 have hx:=(Below.refl w.heap.size w).alloc (Nat.le_refl _) (.cells #[.int .u8 0] 5)
 have hm0:=Own.new w w.heap.size 5 [.int .u8 0] 1 rfl (by decide) (Nat.le_refl _)
 have hsrc:SlAt (w.alloc (.cells #[.int .u8 0] 5)) F 1 (.slice A b.length c) b.length (b.map bv):=Bytes.below hb hx
 go_enter Try.func32,Try.ntmps32
 go_wp2_with (at_builtin
              refine wpList_append_Own _ rfl (.tmp 3) (.tmp 4) 22 rfl w.heap.size 5 i8 _ 1 1 Try.underlying22 hi8 hy0 hy1 hy2 rfl (by omega) _ _ _ rfl hm0 _ _ _ _ rfl hsrc (map_oneCell b) (by simp only [maxLen];omega) (by omega) (by simp) ?_
              intro v1 w1 hm1 hgr1 hat1
              have hx1:Below w.heap.size w w1:=hx.grown hgr1 hx.size (fun k hk=>(hm0.lt k hk).1))
 go_ret
 refine ⟨_,rfl,?_,hx1⟩
 rw [Nat.add_comm] at hm1
 exact hm1
set_option maxRecDepth 100000 in
set_option maxHeartbeats 1000000 in
theorem Pair_any (w:World) (F F':Nat->Prop) (va vb:Value) (a b:Bs) (ha:Bytes w F va a) (hb:Bytes w F' vb b) (hlen:a.length+b.length<=140737488355100) :
 Calls Try.prog 34 #[va,vb] w fun e w'=>∃ v,e = .returned v/\OwnB w' w.heap.size v (1::(a++b))/\Below w.heap.size w w':=by
 obtain ⟨i8,hi8,hy0,hy1,hy2⟩:=info_parts info_u8
 obtain ⟨A,c,rfl⟩:=ha.form
 obtain ⟨A',c',rfl⟩:=hb.form
 have hx:=(Below.refl w.heap.size w).alloc (Nat.le_refl _) (.cells #[.int .u8 1] 5)
 have hm0:=Own.new w w.heap.size 5 [.int .u8 1] 1 rfl (by decide) (Nat.le_refl _)
 have hsrc:SlAt (w.alloc (.cells #[.int .u8 1] 5)) F 1 (.slice A a.length c) a.length (a.map bv):=Bytes.below ha hx
 go_enter Try.func34,Try.ntmps34
 go_wp2_with (at_builtin
              first
              | (refine wpList_append_Own _ rfl (.tmp 5) (.tmp 6) 22 rfl w.heap.size 5 i8 _ 1 1 Try.underlying22 hi8 hy0 hy1 hy2 rfl (by omega) _ _ _ rfl hm0 _ _ _ _ rfl hsrc (map_oneCell a) (by simp only [maxLen];omega) (by omega) (by simp) ?_
                 intro v1 w1 hm1 hgr1 hat1
                 have hx1:Below w.heap.size w w1:=hx.grown hgr1 hx.size (fun k hk=>(hm0.lt k hk).1)
                 have hsrc2:SlAt w1 F' 1 (.slice A' b.length c') b.length (b.map bv):=Bytes.below hb hx1)
              | (refine wpList_append_Own _ rfl (.tmp 7) (.tmp 8) 22 rfl w.heap.size 5 i8 _ 1 1 Try.underlying22 hi8 hy0 hy1 hy2 rfl (by omega) _ _ _ rfl hm1 _ _ _ _ rfl hsrc2 (map_oneCell b) (by simp only [maxLen];omega) (by omega) hx1.size ?_
                 intro v2 w2 hm2 hgr2 hat2
                 have hx2:Below w.heap.size w w2:=hx1.grown hgr2 hx1.size (fun k hk=>(hm1.lt k hk).1)))
 go_ret
 refine ⟨_,rfl,?_,hx2⟩
 have hl:1+a.length+b.length=(1::(a++b)).length:=by simp;omega
 rw [hl] at hm2
 have hc:([Value.int .u8 1]++a.map bv++b.map bv)=(1::(a++b)).map bv:=by simp;rfl
 rw [hc] at hm2
 exact hm2
set_option maxHeartbeats 1000000 in
theorem rwrong_any (w:World) (F:Nat->Prop) (v:Value) (ll:List Bs) (hl:BList w F v ll) :
 Calls Try.prog 30 #[v] w fun e w'=>e = .returned (fv (wrongS ll))/\Below w.heap.size w w':=by
 obtain ⟨A,c,hv⟩:=hl.form
 subst hv
 have hn63:ll.length<=9223372036854775807:=by
  obtain ⟨vs,⟨A',c',hv,h1,h2,_⟩,_⟩:=hl
  unfold maxLen at h2
  omega
 have hx:Below w.heap.size w (w.alloc (.cells #[.int .i64 0,.int .i64 0] 32)):=(Below.refl _ _).alloc (Nat.le_refl _) _
 by_cases hmany:100<ll.length
 · have hS:Hid (wrongS ll=(5,0)):=Lib.hid (by unfold wrongS;rw [if_pos hmany])
   have hB:(100:Int)<(ll.length:Int):=by omega
   go_enter Try.func30,Try.ntmps30
   go_wp2_with fail
   refine bodyPost_ret (v:=.agg #[.int .i64 5,.int .i64 0]) (by simp [results,Try.results30,go_sem]) rfl ⟨by rw [hS.out];rfl,?_⟩
   exact (Below.refl _ _).alloc (Nat.le_refl _) _
 · have hB:decide ((100:Int)<(ll.length:Int))=false:=by simp;omega
   have hS:Hid (wrongS ll=wrongF ll 0):=Lib.hid (by unfold wrongS;rw [if_neg hmany])
   go_enter Try.func30,Try.ntmps30
   go_wp2_with fail
   go_loopg [11] ll.length (fun k i wr=>∃ j:Nat,j+k=ll.length/\i = .int .i64 (j:Int)/\Hid (wrongF (ll.drop j) j=wrongF ll 0)/\wr=w.alloc (.cells #[.int .i64 0,.int .i64 0] 32))
   case atStart=>exact ⟨0,by omega,rfl,Lib.hid (by simp),rfl⟩
   case round =>
    obtain ⟨j,hj,rfl,HP,rfl⟩:=hrel
    by_cases hlt:j<ll.length
    · obtain ⟨b,off,u,hA,hc,_,hb,hub⟩:=hl.at_ hlt
      subst hA
      obtain ⟨A2,c2,hv2,hac2,hcm2⟩:=hub.form'
      subst hv2
      unfold maxLen at hcm2
      have hltB:(j:Int)<(ll.length:Int):=by omega
      have hc':=(hx.cell (p:=⟨b,off+j,none⟩) hb).trans hc
      have hnx:ll.drop j=ll[j]::ll.drop (j+1):=List.drop_eq_getElem_cons hlt
      generalize ll[j]=x at *
      have HN:=Lib.hid hnx
      clear hnx hc
      by_cases h200:200<x.length
      · have hB2:(200:Int)<(x.length:Int):=by omega
        have HF:Hid (wrongF ll 0=(4,j)):=Lib.hid (by rw [<-HP.out,HN.out,wrongF,if_pos h200])
        go_wp2_with fail
        refine bodyPost_ret (v:=.agg #[.int .i64 4,.int .i64 j]) (by simp [results,Try.results30,go_sem]) rfl ⟨by rw [hS.out,HF.out];rfl,?_⟩
        exact (Below.refl _ _).alloc (Nat.le_refl _) _
      · have hB2:decide ((200:Int)<(x.length:Int))=false:=by simp;omega
        have HF:Hid (wrongF (ll.drop (j+1)) (j+1)=wrongF ll 0):=Lib.hid (by rw [<-HP.out,HN.out,wrongF,if_neg h200])
        go_wp2_with fail
        go_roundg (gk-1)
        case measure=>omega
        case rel=>exact ⟨j+1,by omega,by go_num,HF,rfl⟩
    · have hltB:decide ((j:Int)<(ll.length:Int))=false:=by simp;omega
      have HF:Hid (wrongF ll 0=(0,0)):=Lib.hid (by rw [<-HP.out,List.drop_of_length_le (by omega)];rfl)
      go_wp2_with fail
      refine bodyPost_ret (v:=.agg #[.int .i64 0,.int .i64 0]) (by simp [results,Try.results30,go_sem]) rfl ⟨by rw [hS.out,HF.out];rfl,?_⟩
      exact (Below.refl _ _).alloc (Nat.le_refl _) _
set_option maxHeartbeats 1000000 in
theorem Split_any (n:Nat) (w:World) (h2:2<=n) (hn:n<=128) :
 Calls Try.prog 103 #[.int .i64 (n:Int)] w fun e w'=>e = .returned (.int .i64 (Tr.split n:Nat))/\w'=w:=by
 go_enter Try.func103,Try.ntmps103
 go_wp2_with fail
 go_loopg [3] (n-1) (fun k x wr=>∃ c:Nat,1<=c/\c<n/\k+c=n/\Hid (∃ j,c=2 ^ j)/\x = .int .i64 (c:Int)/\wr=w)
 case atStart=>exact ⟨1,by omega,by omega,by omega,Lib.hid ⟨0,rfl⟩,rfl,rfl⟩
 case round =>
  obtain ⟨c,hc1,hcn,hk,HJ,rfl,rfl⟩:=hrel
  by_cases hlt:2*c<n
  · have hltB:2*(c:Int)<(n:Int):=by omega
    go_wp2_with fail
    go_roundg (n-2*c)
    case measure=>omega
    case rel=>exact ⟨2*c,by omega,hlt,by omega,Lib.hid (by obtain ⟨j,hj⟩:=HJ.out;exact ⟨j+1,by rw [hj,Nat.pow_succ];omega⟩),by go_num,rfl⟩
  · have hltB:decide (2*(c:Int)<(n:Int))=false:=by simp;omega
    have HS:Hid (Tr.split n=c):=Lib.hid (by obtain ⟨j,hj⟩:=HJ.out;rw [hj] at hcn hlt ⊢;exact Tr.split_eq hcn (by omega))
    go_wp2_with fail
    go_ret
    exact ⟨by rw [HS.out];rfl,rfl⟩
end Go.Proofs.Ytfdibjgmbdkbcaa
