/-
  THE WALK of slices.Chunk over lists of bytes: a range over a function; the iterator's part. Conditions: the slice's cells are not read.
-/
import Derived.RangeFuncNested
import Derived.RangeFuncBound
import Derived.RangeFuncCalls
import Derived.RangeFuncLeaves
import Derived.RangeFuncBox
import Derived.Shelf.Abstract
import Derived.Shelf.RegionOpen
import Derived.WalkKit
import Derived.OwnWalkIn
import Derived.TacticsInMore
import Derived.LoopNIn
import Derived.LoopIn
import Derived.Maps.AppendAt
import Derived.Test.YtfdibjgmbdkbcaaYChunkT
namespace Go.Proofs.Ytfdibjgmbdkbcaa
open Go.RowKit Go.Lib Go.Shelf
attribute [local go_sem] Oper.semAt_some
set_option maxRecDepth 100000 in
set_option maxHeartbeats 2000000 in
theorem chunkL1_in (F:Fence) (n:Nat) (hF:F.fn 132) (hro:F.round=none) (hn:1<=n) (l Bs Bn q off len cap:Nat) (A:Option Addr) (hA:0<len->A=some ⟨q,off,none⟩) (hlc:len<=cap) (hcm:cap<=9223372036854775807) (hlen:len<=100000) (J Jx:List Nat->World->Prop)
 (hY:∀ pre x W,J pre W->pre.length<eights len->YieldAt F (n-1) Try.prog l #[eighth q off 1 len x] W fun e W' =>
   (e = .returned (.bool true)/\J (pre++[x]) W'/\Kp2 Bs Bn W W')\/(e = .returned (.bool false)/\Jx (pre++[x]) W'))
 (hJd:∀ pre W,J pre W->J pre W.drew)
 (W:World) (hBs:W.heap[Bs]? = some (.cells #[.slice A len cap] 40 (0,0))) (hBn:W.heap[Bn]? = some (.cells #[.int .i64 8] 3 (0,0))) (h0:J [] W) :
 CallsIn F n Try.prog 132 #[.func (.yield l) #[] #[],.pointer (some ⟨Bs,0,none⟩),.pointer (some ⟨Bn,0,none⟩)] W fun e W'=>(∃ v,e = .returned v) ∧
  ((∃ ys,ys=List.range (eights len)/\J ys W')\/(∃ pre,(∃ k,k<=eights len/\pre=List.range k)/\Jx pre W')):=by
 refine callsIn_of_wp Try.func132 rfl hF ?_ hro
 simp only [Try.ntmps132,List.size_toArray,List.length_cons,List.length_nil,Nat.reduceAdd,Nat.reduceSub,Array.replicate_succ,Array.replicate_zero,List.push_toArray,List.append_toArray,List.nil_append,List.cons_append]
 gi_wp2
 gi_loopw [4] (fun i wr=>∃ k:Nat,k<=eights len/\i = .int .i64 (8*(k:Int))/\J (List.range k) wr/\Kp2 Bs Bn W wr)
  (fun i _=>eights len-(RowKit.intOf i).toNat / 8)
 case atStart=>exact ⟨0,Nat.zero_le _,rfl,h0,rfl,rfl⟩
 case round =>
  obtain ⟨k,hk,rfl,hJs,hk1,hk2⟩:=hrel
  have b1:Blk wr Bs 40 #[.slice A len cap]:=hk1.trans hBs
  have b2:Blk wr Bn 3 #[.int .i64 8]:=hk2.trans hBn
  have e1:wr.cell? ⟨Bs,0,none⟩=some (.slice A len cap):=b1.cell 0
  have e2:wr.cell? ⟨Bn,0,none⟩=some (.int .i64 8):=b2.cell 0
  by_cases hlt:8*k<len
  · have hAe:=hA (by omega)
    subst hAe
    have hltB:8*(k:Int)<(len:Int):=by omega
    have c1:8*(k:Int)<=(cap:Int):=by omega
    have c2:(0:Int)<=8*(k:Int):=by omega
    have hkl:k<eights len:=by unfold eights;omega
    obtain ⟨m,hm⟩:∃ m,min 8 (len-8*k)=m:=⟨_,rfl⟩
    have hm1:min (8:Int) ((len-8*k:Nat):Int)=(m:Int):=by omega
    have hm2:(8*(k:Int)+(m:Int)).toNat-8*k=m:=by omega
    have hm3:8*(k:Int)+(m:Int)<=(cap:Int):=by omega
    have hm4:8*(k:Int)<=8*(k:Int)+(m:Int):=by omega
    have hm5:(0:Int)<(m:Int):=by omega
    have hm6:8*k+m<=cap:=by omega
    have hmix:Try.prog.follows .mixedOrders=true:=by kernel_rfl
    obtain ⟨fn,tmps,assign,body,hy,hR⟩:=hY (List.range k) k wr.drew (hJd _ _ hJs) (by rw [List.length_range];exact hkl)
    unfold eighth at hy
    rw [hm,Nat.mul_one] at hy
    have HR:=Lib.hid hR
    clear hm hR
    gi_wp2
    gi_region_with_o (fail)
    all_goals gi_wp2
    all_goals refine HR.out.mono ?_
    all_goals rintro e W3 (⟨rfl,hJ3,hk3,hk4⟩ | ⟨rfl,hJx3⟩)
    all_goals first
     | (have b4:Blk W3 Bn 3 #[.int .i64 8]:=hk4.trans b2
        have e4:W3.cell? ⟨Bn,0,none⟩=some (.int .i64 8):=b4.cell 0
        gi_wp2
        go_roundw
        case rel=>exact ⟨k+1,by omega,by congr 1<;>omega,by rw [List.range_succ];exact hJ3,hk3.trans hk1,hk4.trans hk2⟩
        case measure=>simp [RowKit.intOf];omega)
     | (gi_wp2
        refine bodyPost_ret (results_none rfl _ _ _) rfl ?_
        exact ⟨⟨_,rfl⟩,.inr ⟨_,⟨k+1,by omega,(List.range_succ ..).symm⟩,hJx3⟩⟩)
  · have hltB:decide (8*(k:Int)<(len:Int))=false:=by simp;omega
    gi_wp2
    go_end0
    have hke:k=eights len:=by unfold eights at hk ⊢;omega
    exact ⟨⟨_,rfl⟩,.inl ⟨_,rfl,by rw [<-hke];exact hJs⟩⟩
set_option maxHeartbeats 1000000 in
theorem chunkL_in (F:Fence) (n:Nat) (hF:F.fn 108) (hro:F.round=none) (A:Option Addr) (len cap:Nat) (w:World) :
 CallsIn F n Try.prog 108 #[.slice A len cap,.int .i64 8] w fun e w'=>e = .returned (.func (.func 132) #[] #[.pointer (some ⟨w.heap.size,0,none⟩),.pointer (some ⟨w.heap.size+1,0,none⟩)]) ∧
  w'=(w.alloc (.cells #[.slice A len cap] 40)).alloc (.cells #[.int .i64 8] 3):=by
 refine callsIn_of_wp Try.func108 rfl hF ?_ hro
 simp only [Try.ntmps108,List.size_toArray,List.length_cons,List.length_nil,Nat.reduceAdd,Nat.reduceSub,Array.replicate_succ,Array.replicate_zero,List.push_toArray,List.append_toArray,List.nil_append,List.cons_append]
 gi_wp2
 go_ret
 exact ⟨rfl,rfl⟩
theorem chunkL_stops (F:Fence) (n:Nat) (hF:F.fn 132) (hro:F.round=none) (hn:1<=n) (Bs Bn q off len cap:Nat) (A:Option Addr) (hA:0<len->A=some ⟨q,off,none⟩) (hlc:len<=cap) (hcm:cap<=9223372036854775807) (hlen:len<=100000) (w:World)
 (hBs:Blk w Bs 40 #[.slice A len cap]) (hBn:Blk w Bn 3 #[.int .i64 8]) :
 SeqStopsK F n Try.prog 132 #[.pointer (some ⟨Bs,0,none⟩),.pointer (some ⟨Bn,0,none⟩)] (fun x:Nat=>#[eighth q off 1 len x]) (Kp2 Bs Bn) (fun ys=>ys=List.range (eights len)) (fun pre=>∃ k,k<=eights len/\pre=List.range k) (eights len) w:=fun l J Jx W hW hJ _ hY h0 =>
 chunkL1_in F n hF hro hn l Bs Bn q off len cap A hA hlc hcm hlen J Jx hY (fun pre W h=>hJ pre W W.drew none h ⟨rfl,rfl,rfl,Nat.le_refl _,fun _ _ _=>rfl⟩ (fun r e=>by cases e)) W (hBs.below hW hBs.lt) (hBn.below hW hBn.lt) h0
end Go.Proofs.Ytfdibjgmbdkbcaa
