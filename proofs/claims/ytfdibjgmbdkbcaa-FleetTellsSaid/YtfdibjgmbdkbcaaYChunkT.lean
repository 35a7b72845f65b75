/-
  THE WALK of slices.Chunk over tokens: a range over a function; the iterator's part. Conditions: the slice's cells are not read. THE WALK of pack.Pack: a range over a function, whose body appends and stores. Conditions: what is read is bytes.
-/
import Derived.RangeFuncNested
import Derived.RangeFuncBound
import Derived.RangeFuncCalls
import Derived.RangeFuncLeaves
import Derived.RangeFuncBox
import Derived.Shelf.Abstract
import Derived.Shelf.RegionOpen
import Derived.WalkKit
import Derived.OwnWalkIn
import Derived.TacticsInMore
import Derived.LoopNIn
import Derived.LoopIn
import Derived.Maps.AppendAt
import Derived.Sort.CutIn
import Derived.Test.YtfdibjgmbdkbcaaYGe
import Derived.Test.YtfdibjgmbdkbcaaYPk5
namespace Go.Proofs.Ytfdibjgmbdkbcaa
open Go.RowKit Go.Lib Go.Shelf
attribute [local go_sem] Oper.semAt_some
def eights (n:Nat):Nat:=(n+7) / 8
def eighth (q off size n k:Nat):Value:=.slice (some ⟨q,off+8*k*size,none⟩) (min 8 (n-8*k)) (min 8 (n-8*k))
def Kp2 (a b:Nat) (W W':World):Prop:=W'.heap[a]? = W.heap[a]?/\W'.heap[b]? = W.heap[b]?
set_option maxRecDepth 100000 in
set_option maxHeartbeats 2000000 in
theorem chunkT1_in (F:Fence) (n:Nat) (hF:F.fn 125) (hro:F.round=none) (hn:1<=n) (l Bs Bn q off len cap:Nat) (A:Option Addr) (hA:0<len->A=some ⟨q,off,none⟩) (hlc:len<=cap) (hcm:cap<=9223372036854775807) (hlen:len<=100000) (J Jx:List Nat->World->Prop)
 (hY:∀ pre x W,J pre W->pre.length<eights len->YieldAt F (n-1) Try.prog l #[eighth q off 3 len x] W fun e W' =>
   (e = .returned (.bool true)/\J (pre++[x]) W'/\Kp2 Bs Bn W W')\/(e = .returned (.bool false)/\Jx (pre++[x]) W'))
 (hJd:∀ pre W,J pre W->J pre W.drew)
 (W:World) (hBs:W.heap[Bs]? = some (.cells #[.slice A len cap] 26 (0,0))) (hBn:W.heap[Bn]? = some (.cells #[.int .i64 8] 3 (0,0))) (h0:J [] W) :
 CallsIn F n Try.prog 125 #[.func (.yield l) #[] #[],.pointer (some ⟨Bs,0,none⟩),.pointer (some ⟨Bn,0,none⟩)] W fun e W'=>(∃ v,e = .returned v) ∧
  ((∃ ys,ys=List.range (eights len)/\J ys W')\/(∃ pre,(∃ k,k<=eights len/\pre=List.range k)/\Jx pre W')):=by
 refine callsIn_of_wp Try.func125 rfl hF ?_ hro
 simp only [Try.ntmps125,List.size_toArray,List.length_cons,List.length_nil,Nat.reduceAdd,Nat.reduceSub,Array.replicate_succ,Array.replicate_zero,List.push_toArray,List.append_toArray,List.nil_append,List.cons_append]
 gi_wp2
 gi_loopw [4] (fun i wr=>∃ k:Nat,k<=eights len/\i = .int .i64 (8*(k:Int))/\J (List.range k) wr/\Kp2 Bs Bn W wr)
  (fun i _=>eights len-(RowKit.intOf i).toNat / 8)
 case atStart=>exact ⟨0,Nat.zero_le _,rfl,h0,rfl,rfl⟩
 case round =>
  obtain ⟨k,hk,rfl,hJs,hk1,hk2⟩:=hrel
  have b1:Blk wr Bs 26 #[.slice A len cap]:=hk1.trans hBs
  have b2:Blk wr Bn 3 #[.int .i64 8]:=hk2.trans hBn
  have e1:wr.cell? ⟨Bs,0,none⟩=some (.slice A len cap):=b1.cell 0
  have e2:wr.cell? ⟨Bn,0,none⟩=some (.int .i64 8):=b2.cell 0
  by_cases hlt:8*k<len
  · have hAe:=hA (by omega)
    subst hAe
    have hltB:8*(k:Int)<(len:Int):=by omega
    have c1:8*(k:Int)<=(cap:Int):=by omega
    have c2:(0:Int)<=8*(k:Int):=by omega
    have hkl:k<eights len:=by unfold eights;omega
    obtain ⟨m,hm⟩:∃ m,min 8 (len-8*k)=m:=⟨_,rfl⟩
    have hm1:min (8:Int) ((len-8*k:Nat):Int)=(m:Int):=by omega
    have hm2:(8*(k:Int)+(m:Int)).toNat-8*k=m:=by omega
    have hm3:8*(k:Int)+(m:Int)<=(cap:Int):=by omega
    have hm4:8*(k:Int)<=8*(k:Int)+(m:Int):=by omega
    have hm5:(0:Int)<(m:Int):=by omega
    have hm6:8*k+m<=cap:=by omega
    have hmix:Try.prog.follows .mixedOrders=true:=by kernel_rfl
    obtain ⟨fn,tmps,assign,body,hy,hR⟩:=hY (List.range k) k wr.drew (hJd _ _ hJs) (by rw [List.length_range];exact hkl)
    unfold eighth at hy
    rw [hm] at hy
    have HR:=Lib.hid hR
    clear hm hR
    gi_wp2
    gi_region_with_o (fail)
    all_goals gi_wp2
    all_goals refine HR.out.mono ?_
    all_goals rintro e W3 (⟨rfl,hJ3,hk3,hk4⟩ | ⟨rfl,hJx3⟩)
    all_goals first
     | (have b4:Blk W3 Bn 3 #[.int .i64 8]:=hk4.trans b2
        have e4:W3.cell? ⟨Bn,0,none⟩=some (.int .i64 8):=b4.cell 0
        gi_wp2
        go_roundw
        case rel=>exact ⟨k+1,by omega,by congr 1<;>omega,by rw [List.range_succ];exact hJ3,hk3.trans hk1,hk4.trans hk2⟩
        case measure=>simp [RowKit.intOf];omega)
     | (gi_wp2
        refine bodyPost_ret (results_none rfl _ _ _) rfl ?_
        exact ⟨⟨_,rfl⟩,.inr ⟨_,⟨k+1,by omega,(List.range_succ ..).symm⟩,hJx3⟩⟩)
  · have hltB:decide (8*(k:Int)<(len:Int))=false:=by simp;omega
    gi_wp2
    go_end0
    have hke:k=eights len:=by unfold eights at hk ⊢;omega
    exact ⟨⟨_,rfl⟩,.inl ⟨_,rfl,by rw [<-hke];exact hJs⟩⟩
set_option maxHeartbeats 1000000 in
theorem chunkT_in (F:Fence) (n:Nat) (hF:F.fn 86) (hro:F.round=none) (A:Option Addr) (len cap:Nat) (w:World) :
 CallsIn F n Try.prog 86 #[.slice A len cap,.int .i64 8] w fun e w'=>e = .returned (.func (.func 125) #[] #[.pointer (some ⟨w.heap.size,0,none⟩),.pointer (some ⟨w.heap.size+1,0,none⟩)]) ∧
  w'=(w.alloc (.cells #[.slice A len cap] 26)).alloc (.cells #[.int .i64 8] 3):=by
 refine callsIn_of_wp Try.func86 rfl hF ?_ hro
 simp only [Try.ntmps86,List.size_toArray,List.length_cons,List.length_nil,Nat.reduceAdd,Nat.reduceSub,Array.replicate_succ,Array.replicate_zero,List.push_toArray,List.append_toArray,List.nil_append,List.cons_append]
 gi_wp2
 go_ret
 exact ⟨rfl,rfl⟩
theorem chunkT_stops (F:Fence) (n:Nat) (hF:F.fn 125) (hro:F.round=none) (hn:1<=n) (Bs Bn q off len cap:Nat) (A:Option Addr) (hA:0<len->A=some ⟨q,off,none⟩) (hlc:len<=cap) (hcm:cap<=9223372036854775807) (hlen:len<=100000) (w:World)
 (hBs:Blk w Bs 26 #[.slice A len cap]) (hBn:Blk w Bn 3 #[.int .i64 8]) :
 SeqStopsK F n Try.prog 125 #[.pointer (some ⟨Bs,0,none⟩),.pointer (some ⟨Bn,0,none⟩)] (fun x:Nat=>#[eighth q off 3 len x]) (Kp2 Bs Bn) (fun ys=>ys=List.range (eights len)) (fun pre=>∃ k,k<=eights len/\pre=List.range k) (eights len) w:=fun l J Jx W hW hJ _ hY h0 =>
 chunkT1_in F n hF hro hn l Bs Bn q off len cap A hA hlc hcm hlen J Jx hY (fun pre W h=>hJ pre W W.drew none h ⟨rfl,rfl,rfl,Nat.le_refl _,fun _ _ _=>rfl⟩ (fun r e=>by cases e)) W (hBs.below hW hBs.lt) (hBn.below hW hBn.lt) h0
end Go.Proofs.Ytfdibjgmbdkbcaa
namespace Go.Proofs.Ytfdibjgmbdkbcaa
open Go.RowKit Go.Lib Go.Shelf
attribute [local go_sem] Oper.semAt_some
theorem wpListIn_append_Own {F:Fence} {n:Nat} {P:Program} (w:World) {ops:Array Oper} {rest:List Oper} {o:Oper} {a:Act} {Q:Exit->Act->World->Prop}
 (hg:o.guard=none) (s x:Operand) (t:TypeId) (hop:o.op = .call { callee:=.builtin .append,args:=#[s,x],argTypes:=#[t,t] })
 (base:Nat) (e:TypeId) (i:TypeInfo) (z:Value) (size bytes:Nat) (ht:P.underlying t=some (.slice e)) (hi:P.info? e=some i) (hz:i.zero=some z)
 (hsize:i.size=size) (hby:i.bytes=bytes) (hzs:z.cells.size=size) (hsz:0<size)
 (v:Value) (k:Nat) (xs:List Value) (hs:a.eval s=v) (hown:Own w base e size v k xs)
 (G:Nat->Prop) (u:Value) (m:Nat) (news:List Value) (hx:a.eval x=u) (hr:SlAt w G size u m news) (h1:∀ u ∈ news,u.oneCell'=true)
 (h63:k+m<=maxLen) (hbytes:(k+m)*bytes<=140737488355328) (hbase:base<=w.heap.size)
 (hK:∀ v' w',Own w' base e size v' (k+m) (xs++news)->w.grownBy w' v.ownBlock->(v'.ownBlock=v.ownBlock\/v'.ownBlock=some w.heap.size)->wpListIn F n P ops Q rest (a.put o.dst v') w') :
 wpListIn F n P ops Q (o::rest) a w:=by
 refine wpListIn_plain hg fun K hK'=>?_
 obtain ⟨v',w',hrun,r1,r2,r3⟩:=run_append_Own (P:=P) w base t o.type e i z size bytes ht hi hz hsize hby hzs hsz v k xs hown G u m news hr h1 h63 hbytes hbase
 unfold Oper.wpIn
 refine ⟨?_,?_⟩
 · simp [Oper.about,hop,resolve,Target.leads,Sem.run_pure]
 · rw [Oper.semAt_plain F _ _ (by rw [hop];intro c hc';cases hc')]
   simp [execOp,hop,resolve,invoke,builtin,hs,hx,hrun,Result.andThen]
   exact hK' _ _ (hK v' w' r1 r2 r3)
theorem rangeOne {α:Type} {F:Fence} {n:Nat} {P:Program} {g:Operand} {y:Nat} {assign body:Code} {Q:Exit->Act->World->Prop} {a:Act} {w:World} (p:Nat)
 (hro:F.round=none) (h1:1<=n) {gf:Nat} {lb:Array Value} (hg:a.eval g = .func (.func gf) #[] lb) (hFg:F.fn gf) (eg:∀ args w,(callFunc gf args).run P w = .ok (.enter gf args) w)
 {enc:α->Value} {Kp:World->World->Prop} {S Sp:List α->Prop} {N:Nat} {w0:World} (hseq:SeqStopsK F (n-1) P gf lb (fun x=>#[enc x]) Kp S Sp N w0)
 (hKt:∀ {A B C:World},Kp A B->Kp B C->Kp A C) (hKb:∀ (W:World) (l:Nat) (o o':Obj),w.heap.size<=l->W.heap[l]? = some o->o.isCells=false->o.isWalk=false->Kp W (W.putObj l o')) (hb0:Below w0.heap.size w0 w)
 (I:List α->World->Prop) (Ix:Code->List α->World->Prop) (hI:OwnFrom w.heap.size I) (hIx:∀ c,OwnFrom w.heap.size (Ix c)) (h0:I [] w)
 (hassign:∀ (l:Nat) (x:α) (W:World) (K:Act->World->Prop),K { tmps:=(a.tmps.setIfInBounds y (enc x)).setIfInBounds p (enc x),defers:=[] } W →
   assign.wpIn (F.inRound l) (n-1-1) P (Exit.then K (fun _ _ _=>False)) { tmps:=a.tmps.setIfInBounds y (enc x),defers:=[] } W)
 (hbody:∀ (l:Nat) (pre:List α) (x:α) (W:World),I pre W->pre.length<N->body.wpIn (F.inRound l) (n-1-1) P (ownPostG w.heap.size Kp I Ix (pre++[x]) W) { tmps:=(a.tmps.setIfInBounds y (enc x)).setIfInBounds p (enc x),defers:=[] } W)
 (hdone:∀ (D:Nat) (xs:List α) (W:World),w.heap.size<=D->S xs->I xs W->W.heap[D]? = some (.deferred (some []))->Q .normal { a with defers:={ target:=.collected D,args:=#[] }::a.defers } W)
 (hstop:∀ (D:Nat) (c:Code) (pre:List α) (W:World),w.heap.size<=D->Sp pre->Ix c pre W->W.heap[D]? = some (.deferred (some []))->c.wpIn F n P Q { a with defers:={ target:=.collected D,args:=#[] }::a.defers } W) :
 (Code.rangeFunc g #[y] assign body).wpIn F n P Q a w :=
 wpIn_rangeFunc_ownG hro h1 hg hFg eg hseq hKt hKb hb0 (fun _=>rfl) I Ix hI hIx h0 (fun x=>{ tmps:=(a.tmps.setIfInBounds y (enc x)).setIfInBounds p (enc x),defers:=[] }) (fun l x W K hK=>by simpa using hassign l x W K hK) hbody hdone hstop
def PkI (w:World) (B:Nat) (A:Option Addr) (n c:Nat) (T:List Pk.Tok) (out:Bs) (W:World):Prop :=
 ∃ v,Blk W (B+1) 22 #[v]/\OwnB W B v out/\RdL W (fun k=>k<B) (.slice A n c) T ∧
  Blk W (B+2) 26 #[.slice A n c]/\Blk W (B+3) 3 #[.int .i64 8]/\Below w.heap.size w W
theorem Own.noncells {w w':World} {B:Nat} {v:Value} {l:Bs} {row:Option Nat} (h:OwnB w B v l) (hg:w.grownBy w' row) (hr:∀ r,row=some r->∃ o:Obj,w.heap[r]? = some o/\o.isCells=false):OwnB w' B v l:=by
 refine Own.keep h fun k hk hkl _=>hg.block k hkl (fun e=>?_)
 obtain ⟨o,h1,h2⟩:=hr k e.symm
 obtain ⟨_,cs,hb⟩:=Own.type h k hk
 rw [hb] at h1
 cases h1
 cases h2
theorem Blk.noncells {w w':World} {g:Nat} {t:TypeId} {cs:Array Value} {row:Option Nat} (h:Blk w g t cs) (hg:w.grownBy w' row) (hr:∀ r,row=some r->∃ o:Obj,w.heap[r]? = some o/\o.isCells=false):Blk w' g t cs:=by
 refine h.keep (hg.block g h.lt (fun e=>?_))
 obtain ⟨o,h1,h2⟩:=hr g e.symm
 rw [h] at h1
 cases h1
 cases h2
theorem PkI.from_ (w:World) (B:Nat) (A:Option Addr) (n c:Nat) (T:List Pk.Tok) (f:List Nat->Bs) (B':Nat) (hw:w.heap.size<=B) (hB:B+4<=B'):OwnFrom B' (fun pre W=>PkI w B A n c T (f pre) W):=by
 rintro pre W W' row ⟨v,h1,h2,h3,h4,h5,h6⟩ hg hr
 have hr':∀ r,row=some r->∃ o:Obj,W.heap[r]? = some o/\o.isCells=false:=fun r e=>(hr r e).2
 exact ⟨v,h1.noncells hg hr',Own.noncells h2 hg hr',h3.keep hg.size (fun k hk hF=>⟨hF,hg.block k hk (fun e=>by have:=(hr k e.symm).1;omega)⟩),h4.noncells hg hr',h5.noncells hg hr',h6.grown hg h6.size (fun k e=>by have:=(hr k e).1;omega)⟩
theorem four_blks (w1:World) (o1 o2 o3 o4:Obj):((((w1.alloc o1).alloc o2).alloc o3).alloc o4).heap[w1.heap.size+1]? = some o2 ∧
 ((((w1.alloc o1).alloc o2).alloc o3).alloc o4).heap[w1.heap.size+1+1]? = some o3/\((((w1.alloc o1).alloc o2).alloc o3).alloc o4).heap[w1.heap.size+1+1+1]? = some o4:=by
 have h2:=World.alloc_heap_new (w1.alloc o1) o2
 have h3:=World.alloc_heap_new ((w1.alloc o1).alloc o2) o3
 have h4:=World.alloc_heap_new (((w1.alloc o1).alloc o2).alloc o3) o4
 simp only [World.size_alloc] at h2 h3 h4
 exact ⟨(Below.heap_alloc _ _ _ (by simp)).trans ((Below.heap_alloc _ _ _ (by simp)).trans h2),(Below.heap_alloc _ _ _ (by simp)).trans h3,h4⟩
theorem PkI.app {w W w2:World} {B n c m:Nat} {A:Option Addr} {T:List Pk.Tok} {v v2:Value} {out news:Bs} (hw:w.heap.size<=B) (hB:Blk W (B+1) 22 #[v]) (hO:OwnB W B v out) (hR:RdL W (fun k=>k<B) (.slice A n c) T)
 (hBs:Blk W (B+2) 26 #[.slice A n c]) (hBn:Blk W (B+3) 3 #[.int .i64 8]) (hx:Below w.heap.size w W) (hown:Own w2 B 5 1 v2 (out.length+m) (out.map bv++news.map bv)) (hm:news.length=m)
 (hgr:W.grownBy w2 v.ownBlock):PkI w B A n c T (out++news) (w2.setCell ⟨B+1,0,none⟩ v2)/\KeepsFrom (B+4) W (w2.setCell ⟨B+1,0,none⟩ v2):=by
 have hB2:Blk w2 (B+1) 22 #[v]:=hB.keep (hgr.block _ hB.lt (fun e=>Own.ne_blk hO hB (by decide) e.symm))
 have hBs2:Blk w2 (B+2) 26 #[.slice A n c]:=hBs.keep (hgr.block _ hBs.lt (fun e=>Own.ne_blk hO hBs (by decide) e.symm))
 have hBn2:Blk w2 (B+3) 3 #[.int .i64 8]:=hBn.keep (hgr.block _ hBn.lt (fun e=>Own.ne_blk hO hBn (by decide) e.symm))
 have hx2:Below w.heap.size w w2:=hx.grown hgr hx.size (fun k hk=>by have:=(Own.lt hO k hk).1;omega)
 have hR2:RdL w2 (fun k=>k<B) (.slice A n c) T:=hR.keep hgr.size (fun k hk hF=>⟨hF,hgr.block k hk (fun e=>by have:=(Own.lt hO k e.symm).1;omega)⟩)
 refine ⟨⟨v2,hB2.set_ 0 v2,?_,hR2.setCell (p:=⟨B+1,0,none⟩) (by show ¬ B+1<B;omega) v2,hBs2.far (p:=⟨B+1,0,none⟩) (by show B+2≠B+1;omega) v2,hBn2.far (p:=⟨B+1,0,none⟩) (by show B+3≠B+1;omega) v2,hx2.setCell (p:=⟨B+1,0,none⟩) (by show w.heap.size<=B+1;omega) v2⟩,?_⟩
 · unfold OwnB
   rw [List.length_append,List.map_append,hm]
   exact Own.setCell (p:=⟨B+1,0,none⟩) hown (Own.ne_blk hown hB2 (by decide)) v2
 · refine ((KeepsOthers.of_grownBy hgr (fun k o hk ho=>?_)).trans (KeepsOthers.setCell _ _ _)).from _
   obtain ⟨_,cur,hc⟩:=Own.type hO k hk
   rw [hc] at ho
   cases ho
   rfl
theorem keeps_alloc {B:Nat} {W W':World} (h:KeepsFrom B W W') (o:Obj):KeepsFrom B W (W'.alloc o):=h.trans ((KeepsOthers.alloc W' o).from B)
theorem eighth_rd {W:World} {F:Nat->Prop} {q off c n:Nat} {T:List Pk.Tok} (hR:RdL W F (.slice (some ⟨q,off,none⟩) n c) T) (x:Nat):RdL W F (eighth q off 3 n x) ((T.drop (8*x)).take 8):=by
 obtain ⟨A',c',hv,h1,h2,h3⟩:=hR
 injection hv with e1 e2 e3
 subst e1 e2 e3
 have hl:((T.drop (8*x)).take 8).length=min 8 (T.length-8*x):=by rw [List.length_take,List.length_drop]
 refine ⟨_,_,by unfold eighth;rw [hl],by rw [hl];omega,by simp [maxLen];omega,fun hn=>?_⟩
 obtain ⟨b',off',hA,hF,hb,hc⟩:=h3 (by omega)
 injection hA with hA
 injection hA with e1 e2
 subst e1 e2
 refine ⟨_,_,rfl,hF,hb,fun i a ha=>?_⟩
 rw [List.getElem?_take] at ha
 split at ha
 · rw [List.getElem?_drop] at ha
   obtain ⟨ecs,he,hj⟩:=hc _ a ha
   refine ⟨ecs,he,fun j u hu=>?_⟩
   have:=hj j u hu
   have e:off+(8*x+i)*Rp.sz Pk.Tok+j=off+8*x*3+i*Rp.sz Pk.Tok+j:=by rw [Nat.add_mul,<-Nat.add_assoc];rfl
   rwa [e] at this
 · cases ha
set_option maxRecDepth 100000 in
set_option maxHeartbeats 2000000 in
theorem pack_any (w:World) (G:Nat->Prop) (v:Value) (b:Bs) (hb:Bytes w G v b) (hlen:b.length<=4000) :
 Calls Try.prog 21 #[v] w fun e w'=>∃ v,e = .returned (.tuple #[v,.int .i64 0])/\OwnB w' w.heap.size v (Pk.pack b)/\Below w.heap.size w w':=by
 obtain ⟨i0,hi,hz0,hz1,hz2⟩:=info_parts info_u8
 obtain ⟨A,c,hv,hac,hcm⟩:=hb.form'
 subst hv
 refine (callsIn_wide (n:=6)).1 ?_
 refine callsIn_of_wp_marks Try.func21 rfl trivial ?_ rfl
 simp only [Try.ntmps21,List.size_toArray,List.length_cons,List.length_nil,Nat.reduceAdd,Nat.reduceSub,Array.replicate_succ,Array.replicate_zero,List.push_toArray,List.append_toArray,List.nil_append,List.cons_append]
 gi_wp2_with (refine ⟨trivial,?_⟩;gi_at_call 16;refine (callsIn_wide.2 (tokens_any w G _ b hb hlen)).mono ?_;rintro e w1 ⟨v1,rfl,ho1,hx1⟩;obtain ⟨A1,c1,hv1,hlc1,hcm1⟩:=ho1.shape;subst hv1)
 gi_wp2_with (refine ⟨trivial,?_⟩;gi_at_call 86;refine (chunkT_in Fence.wide _ trivial rfl _ _ _ _).mono ?_;rintro e w' ⟨rfl,rfl⟩)
 obtain ⟨q,off,hA1⟩:∃ q off,0<(Pk.toks b).length->A1=some ⟨q,off,none⟩:=by
  by_cases h0:0<(Pk.toks b).length
  · obtain ⟨bb,oo,cc,hv,_⟩:=RdL.at_ (OwnR.rd (F:=fun _=>True) ho1 (fun _ _=>trivial)) h0
    injection hv with hv
    exact ⟨bb,oo,fun _=>hv⟩
  · exact ⟨0,0,fun h=>absurd h h0⟩
 refine rangeOne (α:=Nat) 7 rfl (by omega) (enc:=eighth q off 3 (Pk.toks b).length) (Kp:=Kp2 (w1.heap.size+2) (w1.heap.size+3)) (N:=eights (Pk.toks b).length) rfl trivial (enters_of Try.func125 (by kernel_rfl) rfl) (chunkT_stops Fence.wide _ trivial rfl (by omega) _ _ q off _ _ A1 hA1 hlc1 hcm1 ?hlen2 _ ?hb1 ?hb2) ?hKt ?hKb (Below.refl _ _) (fun pre W=>PkI w w1.heap.size A1 (Pk.toks b).length c1 (Pk.toks b) (Pk.outs b.length (Pk.toks b) pre) W) (fun _ _ _=>False) ?hI ?hIx ?h0 ?hassign ?hbody ?hdone ?hstop
 case hbody =>
  intro l pre x W hI hN
  have hn0:0<(Pk.toks b).length:=by unfold eights at hN;omega
  have hAe:=hA1 hn0
  subst hAe
  obtain ⟨v,hB,hO,hR,hBs,hBn,hx⟩:=hI
  obtain ⟨A2,c2,hv2,hlc2,hcm2⟩:=Own.shape hO
  subst hv2
  have hol:(Pk.outs b.length (Pk.toks b) pre).length<=8602:=by have:=Pk.outs_len b.length (Pk.toks b) pre;have:=Pk.toks_len b;unfold eights at hN;omega
  have hgR:=eighth_rd hR x
  have hsn:=Pk.outs_snoc b.length (Pk.toks b) pre x
  have hgok:∀ t ∈ ((Pk.toks b).drop (8*x)).take 8,Pk.Okt t:=fun t ht=>Pk.toksF_ok b _ _ t (List.mem_of_mem_drop (List.mem_of_mem_take ht))
  have hgl:(((Pk.toks b).drop (8*x)).take 8).length<=8:=by rw [List.length_take];omega
  have hgR':∀ W',RdL W' (fun k=>k<w1.heap.size) (.slice (some ⟨q,off,none⟩) (Pk.toks b).length c1) (Pk.toks b)->RdL W' (fun k=>k<w1.heap.size) (eighth q off 3 (Pk.toks b).length x) (((Pk.toks b).drop (8*x)).take 8):=fun W' h=>eighth_rd h x
  obtain ⟨A3,c3,hv3,hlc3,hcm3⟩:=hgR.form
  rw [hv3] at hgR hgR' ⊢
  clear hgR
  generalize ((Pk.toks b).drop (8*x)).take 8=g at *
  generalize Pk.outs b.length (Pk.toks b) pre=out at *
  have HS:=Lib.hid hsn
  clear hsn hv3
  have hc0:W.cell? ⟨w1.heap.size+1,0,none⟩=some (.slice A2 out.length c2):=hB.cell 0
  obtain ⟨hownB,hsrc⟩:=byte_prep 0 hO
  have hb0:bv 0 = .int .u8 0:=rfl
  have hxB:=hx.alloc hx.size (.cells #[bv 0] 5)
  have hBB:=hB.alloc (.cells #[bv 0] 5)
  have hBsB:=hBs.alloc (.cells #[bv 0] 5)
  have hBnB:=hBn.alloc (.cells #[bv 0] 5)
  have hRB:=hR.alloc (.cells #[bv 0] 5)
  have hKB:=keeps_alloc (KeepsFrom.refl (w1.heap.size+4) W) (.cells #[bv 0] 5)
  rw [hb0] at hownB hsrc hxB hBB hBsB hBnB hRB hKB
  gi_wp2_with (gi_at_builtin
               refine wpListIn_append_Own _ (by rfl) (.tmp 33) (.tmp 34) 22 (by rfl) w1.heap.size 5 i0 _ 1 1 Try.underlying22 hi hz0 hz1 hz2 (by rfl) (by omega) (.slice A2 out.length c2) out.length (out.map bv) (by rfl) hownB _ _ _ _ (by rfl) hsrc (by simp [Value.oneCell']) (by simp only [maxLen];omega) (by omega) (by have:=hB.lt;simp;omega) ?_
               intro v2 w2 hown2 hgr2 hat2
               obtain ⟨A4,c4,hv4,hlc4,hcm4⟩:=Own.shape hown2
               subst hv4
               have hB2:Blk w2 (w1.heap.size+1) 22 #[.slice A2 out.length c2]:=hBB.keep (hgr2.block _ hBB.lt (fun e=>Own.ne_blk hownB hBB (by decide) e.symm))
               have hd0:w2.frozen? ⟨w1.heap.size+1,0,none⟩=false:=hB2.frozen 0
               have hd1:w2.cell? ⟨w1.heap.size+1,0,none⟩=some (.slice A2 out.length c2):=hB2.cell 0
               obtain ⟨hI2,hK2⟩:=PkI.app (news:=[0]) (m:=1) (out:=out) hx1.size hBB hownB hRB hBsB hBnB hxB hown2 rfl hgr2)
  have hK3:=hKB.trans hK2
  generalize w2.setCell ⟨w1.heap.size+1,0,none⟩ (.slice A4 (out.length+1) c4)=w3 at *
  clear hd0 hd1 hB2 hc0 hownB hsrc hxB hBB hBsB hBnB hRB hKB hK2
  have hBs0:=hBs
  have hBn0:=hBn
  gi_loopw [38] (fun i wr=>∃ j:Nat,j<=g.length/\i = .int .i64 (j:Int)/\PkI w w1.heap.size (some ⟨q,off,none⟩) (Pk.toks b).length c1 (Pk.toks b) (out++Pk.grp (g.take j)) wr/\KeepsFrom (w1.heap.size+4) W wr)
   (fun i _=>g.length-(RowKit.intOf i).toNat)
  case atStart=>exact ⟨0,Nat.zero_le _,rfl,hI2,hK3⟩
  case round =>
   obtain ⟨j,hj,rfl,hIj,hKj⟩:=hrel
   clear hI2 hK3 hown2 hgr2 hat2 hO hB hBs hBn hx hR
   by_cases hlt:j<g.length
   · obtain ⟨v5,hB,hO,hR,hBs,hBn,hx⟩:=hIj
     obtain ⟨A5,c5,hv5,hlc5,hcm5⟩:=Own.shape hO
     subst hv5
     obtain ⟨b3,off3,c3',hA3,_,hb3,p0,p1,p2⟩:=tok_at (hgR' wr hR) hlt
     injection hA3 with hA3 _ hc3
     subst hA3 hc3
     have hltB:(j:Int)<(g.length:Int):=by omega
     have htk:g.take (j+1)=g.take j++[g[j]]:=List.take_succ_eq_append_getElem hlt
     have hok:Pk.Okt g[j]:=hgok _ (List.getElem_mem hlt)
     have hol5:(out++Pk.grp (g.take j)).length<=8700:=by have:=Pk.grp_len (g.take j);rw [List.length_take] at this;rw [List.length_append];omega
     have hfl:Pk.flags (g.take j)<2 ^ j:=by have:=Pk.flags_lt (g.take j);rwa [List.length_take,Nat.min_eq_left hj] at this
     have hflen:out.length<(out++Pk.grp (g.take j)).length:=by rw [List.length_append];unfold Pk.grp;rw [List.length_cons];omega
     have hg1:=@Pk.grp_lit g[j]
     have hg2:=Pk.grp_snoc g[j] (g.take j)
     rw [List.length_take,Nat.min_eq_left hj] at hg2
     have HTK:=Lib.hid htk
     clear htk
     generalize g[j]=t at *
     obtain ⟨tl,tb,ty⟩:=t
     simp only at p0 p1 p2 hg1 hg2
     generalize hgt:g.take j=gj at *
     clear hgt
     have hBA:=hB.alloc (.cells #[.int .i64 tl,.int .i64 tb,.int .u8 (ty.toNat:Int)] 126)
     have hBsA:=hBs.alloc (.cells #[.int .i64 tl,.int .i64 tb,.int .u8 (ty.toNat:Int)] 126)
     have hBnA:=hBn.alloc (.cells #[.int .i64 tl,.int .i64 tb,.int .u8 (ty.toNat:Int)] 126)
     have hRA:=hR.alloc (.cells #[.int .i64 tl,.int .i64 tb,.int .u8 (ty.toNat:Int)] 126)
     have hOA:=hO.alloc (.cells #[.int .i64 tl,.int .i64 tb,.int .u8 (ty.toNat:Int)] 126)
     have hxA:=hx.alloc hx.size (.cells #[.int .i64 tl,.int .i64 tb,.int .u8 (ty.toNat:Int)] 126)
     have hKA:=keeps_alloc hKj (.cells #[.int .i64 tl,.int .i64 tb,.int .u8 (ty.toNat:Int)] 126)
     have hgA:Blk (wr.alloc (.cells #[.int .i64 tl,.int .i64 tb,.int .u8 (ty.toNat:Int)] 126)) wr.heap.size 126 #[.int .i64 tl,.int .i64 tb,.int .u8 (ty.toNat:Int)]:=heap_alloc_new wr _
     gi_upto_region 12 with (fail)
     generalize (wr.alloc (.cells #[.int .i64 tl,.int .i64 tb,.int .u8 (ty.toNat:Int)] 126))=wA at *
     generalize wr.heap.size=gt at *
     have hgc0:wA.cell? ⟨gt,0,none⟩=some (.int .i64 tl):=hgA.cell 0
     have hgc1:wA.cell? ⟨gt,1,none⟩=some (.int .i64 tb):=hgA.cell 1
     have hgc2:wA.cell? ⟨gt,2,none⟩=some (.int .u8 (ty.toNat:Int)):=hgA.cell 2
     have hc0:wA.cell? ⟨w1.heap.size+1,0,none⟩=some (.slice A5 (out++Pk.grp gj).length c5):=hBA.cell 0
     by_cases hl0:tl=0
     · subst hl0
       have HG:=Lib.hid (hg1 rfl gj)
       clear hg1 hg2
       obtain ⟨hownB,hsrc⟩:=byte_prep ty hOA
       have hb0:bv ty = .int .u8 (ty.toNat:Int):=rfl
       have hxB:=hxA.alloc hxA.size (.cells #[bv ty] 5)
       have hBB:=hBA.alloc (.cells #[bv ty] 5)
       have hBsB:=hBsA.alloc (.cells #[bv ty] 5)
       have hBnB:=hBnA.alloc (.cells #[bv ty] 5)
       have hRB:=hRA.alloc (.cells #[bv ty] 5)
       have hKB:=keeps_alloc hKA (.cells #[bv ty] 5)
       rw [hb0] at hownB hsrc hxB hBB hBsB hBnB hRB hKB
       generalize hlo:(out++Pk.grp gj).length=lo at *
       have HLO:=Lib.hid hlo
       clear hlo
       gi_wp2_with (gi_at_builtin
                    refine wpListIn_append_Own _ (by rfl) (.tmp 46) (.tmp 49) 22 (by rfl) w1.heap.size 5 i0 _ 1 1 Try.underlying22 hi hz0 hz1 hz2 (by rfl) (by omega) (.slice A5 lo c5) lo ((out++Pk.grp gj).map bv) (by rfl) (by rw [<-HLO.out] at hownB ⊢;exact hownB) _ _ _ _ (by rfl) hsrc (by simp [Value.oneCell']) (by simp only [maxLen];omega) (by omega) (by have:=hBA.lt;simp;omega) ?_
                    intro v2 w2 hown2 hgr2 hat2
                    obtain ⟨A4,c4,hv4,hlc4,hcm4⟩:=Own.shape hown2
                    subst hv4
                    have hB2:Blk w2 (w1.heap.size+1) 22 #[.slice A5 lo c5]:=hBB.keep (hgr2.block _ hBB.lt (fun e=>Own.ne_blk hownB hBB (by decide) e.symm))
                    have hd0:w2.frozen? ⟨w1.heap.size+1,0,none⟩=false:=hB2.frozen 0
                    have hd1:w2.cell? ⟨w1.heap.size+1,0,none⟩=some (.slice A5 lo c5):=hB2.cell 0)
       obtain ⟨hI2,hK2⟩:=PkI.app (news:=[ty]) (m:=1) (out:=out++Pk.grp gj) hx1.size hBB (by unfold OwnB;rw [HLO.out];exact hownB) hRB hBsB hBnB hxB (by rw [HLO.out];exact hown2) rfl hgr2
       go_roundw
       case rel=>exact ⟨j+1,by omega,by congr 1,by rw [HTK.out,HG.out,<-List.append_assoc];exact hI2,hKB.trans hK2⟩
       case measure=>simp [RowKit.intOf];omega
     · obtain ⟨n,back,hn,hn3,hn66,hbk1,hbk2⟩:∃ n back:Nat,Pk.Tok.mk tl tb ty=Pk.cp n back/\3<=n/\n<=66/\1<=back/\back<=1024:=by
        rcases hok with ⟨cc,hcc⟩ | h
        · injection hcc with e1 _ _;exact absurd e1 hl0
        · exact h
       unfold Pk.cp at hn
       injection hn with e1 e2 e3
       subst e1 e2 e3
       clear hg1
       rw [if_neg hl0] at hg2
       obtain ⟨g5,off5,hA5⟩:∃ g5 off5,A5=some ⟨g5,off5,none⟩:=by
        obtain ⟨g5,off5,cap5,hv5,_⟩:=Own.form hOA (by omega)
        injection hv5 with hv5
        exact ⟨g5,off5,hv5⟩
       subst hA5
       have hat5:((out++Pk.grp gj).map bv)[out.length]? = some (bv (UInt8.ofNat (Pk.flags gj))):=by
        rw [List.getElem?_map,List.getElem?_append_right (Nat.le_refl _),Nat.sub_self];rfl
       obtain ⟨hf0,hf1⟩:=Own.at_ hOA hat5
       have hl0B:((n:Int)==0)=false:=by rw [beq_eq_false_iff_ne];exact hl0
       have hfB:(out.length:Int)<((out++Pk.grp gj).length:Int):=by omega
       have hj8:j<8:=by omega
       have hmix:Try.prog.follows .mixedOrders=true:=by kernel_rfl
       have HG2:=Lib.hid hg2
       generalize hlo:(out++Pk.grp gj).length=lo at *
       have HLO:=Lib.hid hlo
       have HL0:=Lib.hid hl0
       have hbv:bv (UInt8.ofNat (Pk.flags gj)) = .int .u8 (((UInt8.ofNat (Pk.flags gj)).toNat:Nat):Int):=rfl
       have hor:=Pk.flag_set _ _ hfl hj8
       rw [hbv] at hf0
       generalize (UInt8.ofNat (Pk.flags gj)).toNat=fb at *
       generalize hnb:UInt8.ofNat (Pk.flags gj+2 ^ j)=nb at *
       have HNB:=Lib.hid hnb
       have hor':Value.int .u8 (bits .or .u8 (fb:Int) (IntKind.u8.wrap (2 ^ j)))=bv nb:=by rw [hor];rfl
       have HOR:=Lib.hid hor'
       clear hlo hg2 hl0 hat5 hbv hnb hor hor'
       have hne1:g5≠w1.heap.size+1:=fun e=>Own.ne_blk hOA hBA (by decide) (by rw [<-e];rfl)
       have hne2:g5≠w1.heap.size+2:=fun e=>Own.ne_blk hOA hBsA (by decide) (by rw [<-e];rfl)
       have hne3:g5≠w1.heap.size+3:=fun e=>Own.ne_blk hOA hBnA (by decide) (by rw [<-e];rfl)
       have hne4:g5≠gt:=fun e=>Own.ne_blk hOA hgA (by decide) (by rw [<-e];rfl)
       have hge5:w1.heap.size<=g5:=(Own.lt hOA g5 rfl).1
       gi_upto_region 14 with (fail)
       gi_cut [76] from 51 (fun uz wq=>uz=undef/\wq=(wA.setCell ⟨g5,off5+out.length,none⟩ (bv nb)).drew)
       case first =>
        rename_i J K' hJ hK'
        gi_region_with_o (fail)
        all_goals refine hK' _ _ (Met.intro (hJ _ _ ?_))
        all_goals (repeat apply Exists.intro)
        all_goals refine ⟨?_,rfl⟩
        all_goals refine ⟨rfl,?_⟩
        all_goals rw [HOR.out]
       case rest =>
        obtain ⟨wS,hwS⟩:∃ wS:World,wS=(wA.setCell ⟨g5,off5+out.length,none⟩ (bv nb)).drew:=⟨_,rfl⟩
        obtain ⟨huz,hcut⟩:=hcut
        subst huz
        have hcu:wc=wS:=hcut.trans hwS.symm
        clear hcut
        subst hcu
        have hOL:Own wA w1.heap.size 5 1 (.slice (some ⟨g5,off5,none⟩) lo c5) lo ((out++Pk.grp gj).map bv):=by have:=hOA;unfold OwnB at this;rwa [HLO.out] at this
        have hOS:Own wc w1.heap.size 5 1 (.slice (some ⟨g5,off5,none⟩) lo c5) lo (((out++Pk.grp gj).set out.length nb).map bv):=by rw [hwS,List.map_set];exact (Own.set_ hOL out.length (bv nb)).drew
        have hBS:Blk wc (w1.heap.size+1) 22 #[.slice (some ⟨g5,off5,none⟩) lo c5]:=by rw [hwS];exact hBA.far (p:=⟨g5,off5+out.length,none⟩) (Ne.symm hne1) (bv nb)
        have hBsS:Blk wc (w1.heap.size+2) 26 #[.slice (some ⟨q,off,none⟩) (Pk.toks b).length c1]:=by rw [hwS];exact hBsA.far (p:=⟨g5,off5+out.length,none⟩) (Ne.symm hne2) (bv nb)
        have hBnS:Blk wc (w1.heap.size+3) 3 #[.int .i64 8]:=by rw [hwS];exact hBnA.far (p:=⟨g5,off5+out.length,none⟩) (Ne.symm hne3) (bv nb)
        have hgS:Blk wc gt 126 #[.int .i64 (n:Int),.int .i64 (back:Int),.int .u8 0]:=by rw [hwS];exact hgA.far (p:=⟨g5,off5+out.length,none⟩) (Ne.symm hne4) (bv nb)
        have hRS:RdL wc (fun k=>k<w1.heap.size) (.slice (some ⟨q,off,none⟩) (Pk.toks b).length c1) (Pk.toks b):=by rw [hwS];exact (hRA.setCell (p:=⟨g5,off5+out.length,none⟩) (by show ¬ g5<_;omega) (bv nb)).drew
        have hxS:Below w.heap.size w wc:=by rw [hwS];exact (hxA.setCell (p:=⟨g5,off5+out.length,none⟩) (by show _<=g5;have:=hx1.size;omega) (bv nb)).drew
        have hKS:KeepsFrom (w1.heap.size+4) W wc:=by rw [hwS];exact hKA.trans (((KeepsOthers.setCell wA ⟨g5,off5+out.length,none⟩ (bv nb)).trans (KeepsOthers.drew _)).from _)
        clear hwS hOL hOA hBA hBsA hBnA hgA hRA hxA hKA hc0 hgc0 hgc1 hgc2 hf0 hf1 p0 p1 p2
        obtain ⟨X,hX⟩:∃ X,Pk.wordOf (Pk.cp n back)=X:=⟨_,rfl⟩
        have hX2:=Pk.word_of n back hn3 hn66 hbk1 hbk2
        have hor2:bits .or .i64 (((n:Int)-3)*1024) ((back:Int)-1)=(X:Int):=by
         have:=Pk.or_1024 (n-3) (back-1) (by omega) (by omega)
         rw [<-hX,hX2,<-this]
         congr 2<;>omega
        have hXb:X<65536:=by omega
        have hend:out++Pk.grp (gj++[⟨(n:Int),(back:Int),0⟩])=((out++Pk.grp gj).set out.length nb)++[UInt8.ofNat (X / 256),UInt8.ofNat X]:=by
         rw [HG2.out,List.set_append_right _ _ (Nat.le_refl _),Nat.sub_self,List.append_assoc]
         unfold Pk.grp
         rw [List.set_cons_zero]
         have hbd:Pk.body ⟨(n:Int),(back:Int),0⟩=[UInt8.ofNat (X / 256),UInt8.ofNat X]:=by
          unfold Pk.body
          rw [if_neg HL0.out]
          show [UInt8.ofNat (Pk.wordOf (Pk.cp n back) / 256),UInt8.ofNat (Pk.wordOf (Pk.cp n back))]=_
          rw [hX]
         rw [hbd]
         rfl
        have HE:=Lib.hid hend
        have hb1:bv (UInt8.ofNat (X / 256)) = .int .u8 ((X:Int) / 256):=by rw [bv_def,UInt8.toNat_ofNat'];congr 1;omega
        have hb2:bv (UInt8.ofNat X) = .int .u8 ((X:Int) % 256):=by rw [bv_def,UInt8.toNat_ofNat'];congr 1
        generalize hso:(out++Pk.grp gj).set out.length nb=so at *
        have hsl:so.length=lo:=by rw [<-hso,List.length_set];exact HLO.out
        have HSL:=Lib.hid hsl
        have hsrc:SlAt (wc.alloc (.cells #[bv (UInt8.ofNat (X / 256)),bv (UInt8.ofNat X)] 5)) (fun k=>k=wc.heap.size) 1 (.slice (some ⟨wc.heap.size,0,none⟩) 2 2) 2 [bv (UInt8.ofNat (X / 256)),bv (UInt8.ofNat X)]:=SlAt.new wc 5 _ 2 rfl (by decide)
        have hownB:=hOS.alloc (.cells #[bv (UInt8.ofNat (X / 256)),bv (UInt8.ofNat X)] 5)
        have hBB:=hBS.alloc (.cells #[bv (UInt8.ofNat (X / 256)),bv (UInt8.ofNat X)] 5)
        have hBsB:=hBsS.alloc (.cells #[bv (UInt8.ofNat (X / 256)),bv (UInt8.ofNat X)] 5)
        have hBnB:=hBnS.alloc (.cells #[bv (UInt8.ofNat (X / 256)),bv (UInt8.ofNat X)] 5)
        have hRB:=hRS.alloc (.cells #[bv (UInt8.ofNat (X / 256)),bv (UInt8.ofNat X)] 5)
        have hxB:=hxS.alloc hxS.size (.cells #[bv (UInt8.ofNat (X / 256)),bv (UInt8.ofNat X)] 5)
        have hKB:=keeps_alloc hKS (.cells #[bv (UInt8.ofNat (X / 256)),bv (UInt8.ofNat X)] 5)
        rw [hb1,hb2] at hsrc hownB hBB hBsB hBnB hRB hxB hKB
        have HB1:=Lib.hid hb1
        have HB2:=Lib.hid hb2
        have hc0:wc.cell? ⟨w1.heap.size+1,0,none⟩=some (.slice (some ⟨g5,off5,none⟩) lo c5):=hBS.cell 0
        have hgc0:wc.cell? ⟨gt,0,none⟩=some (.int .i64 (n:Int)):=hgS.cell 0
        have hgc1:wc.cell? ⟨gt,1,none⟩=some (.int .i64 (back:Int)):=hgS.cell 1
        have hlo87:lo<=8700:=hol5
        have hltw:=hBS.lt
        clear hX hX2 hend hb1 hb2 hso hsl hgS hOS hBS hBsS hBnS hRS hxS hKS
        gi_wp2_with (gi_at_builtin
                     refine wpListIn_append_Own _ (by rfl) (.tmp 67) (.tmp 73) 22 (by rfl) w1.heap.size 5 i0 _ 1 1 Try.underlying22 hi hz0 hz1 hz2 (by rfl) (by omega) (.slice (some ⟨g5,off5,none⟩) lo c5) lo (so.map bv) (by rfl) hownB _ _ _ _ (by rfl) hsrc (by simp [Value.oneCell']) (by simp only [maxLen];omega) (by omega) (by simp;omega) ?_
                     intro v2 w2 hown2 hgr2 hat2
                     obtain ⟨A4,c4,hv4,hlc4,hcm4⟩:=Own.shape hown2
                     subst hv4
                     have hB2:Blk w2 (w1.heap.size+1) 22 #[.slice (some ⟨g5,off5,none⟩) lo c5]:=hBB.keep (hgr2.block _ hBB.lt (fun e=>Own.ne_blk hownB hBB (by decide) e.symm))
                     have hd0:w2.frozen? ⟨w1.heap.size+1,0,none⟩=false:=hB2.frozen 0
                     have hd1:w2.cell? ⟨w1.heap.size+1,0,none⟩=some (.slice (some ⟨g5,off5,none⟩) lo c5):=hB2.cell 0)
        obtain ⟨hI2,hK2⟩:=PkI.app (news:=[UInt8.ofNat (X / 256),UInt8.ofNat X]) (m:=2) (out:=so) hx1.size hBB (by unfold OwnB;rw [HSL.out];exact hownB) hRB hBsB hBnB hxB (by rw [HSL.out,List.map_cons,List.map_cons,HB1.out,HB2.out];exact hown2) rfl hgr2
        go_roundw
        case rel=>exact ⟨j+1,by omega,by congr 1,by rw [HTK.out,HE.out];exact hI2,hKB.trans hK2⟩
        case measure=>simp [RowKit.intOf];omega
   · have hltB:decide ((j:Int)<(g.length:Int))=false:=by simp;omega
     have hje:g.take j=g:=List.take_of_length_le (by omega)
     rw [hje,<-HS.out] at hIj
     gi_wp2
     have hI9:=hIj
     obtain ⟨_,_,_,_,hBs9,hBn9,_⟩:=hI9
     exact ⟨by simpa [World.size_alloc] using hKj,⟨hBs9.trans hBs0.symm,hBn9.trans hBn0.symm⟩,hIj⟩
 case hlen2=>have:=Pk.toks_len b;omega
 case hb1=>exact (four_blks _ _ _ _ _).2.1
 case hb2=>exact (four_blks _ _ _ _ _).2.2
 case h0 =>
  have e1:bv (UInt8.ofNat (b.length / 256)) = .int .u8 ((b.length:Int) / 256):=by rw [bv_def,UInt8.toNat_ofNat'];congr 1;omega
  have e2:bv (UInt8.ofNat b.length) = .int .u8 ((b.length:Int) % 256):=by rw [bv_def,UInt8.toNat_ofNat'];congr 1
  have hO:OwnB (w1.alloc (.cells #[.int .u8 ((b.length:Int) / 256),.int .u8 ((b.length:Int) % 256)] 5)) w1.heap.size (.slice (some ⟨w1.heap.size,0,none⟩) 2 2) (Pk.size2 b.length):=by
   have:=Own.new w1 w1.heap.size 5 [bv (UInt8.ofNat (b.length / 256)),bv (UInt8.ofNat b.length)] 2 rfl (by decide) (Nat.le_refl _)
   rw [e1,e2] at this
   unfold OwnB Pk.size2
   rw [List.map_cons,List.map_cons,e1,e2]
   exact this
  have hR:=OwnR.rd (F:=fun k=>k<w1.heap.size) ho1 (fun k hk=>(OwnR.lt ho1 k hk).2)
  rw [Pk.outs_nil]
  exact ⟨_,(four_blks _ _ _ _ _).1,((hO.alloc _).alloc _).alloc _,(((hR.alloc _).alloc _).alloc _).alloc _,(four_blks _ _ _ _ _).2.1,(four_blks _ _ _ _ _).2.2,
   (((hx1.alloc hx1.size _).alloc (by have:=hx1.size;simp;omega) _).alloc (by have:=hx1.size;simp;omega) _).alloc (by have:=hx1.size;simp;omega) _⟩
 case hassign =>
  intro l x W K hK
  gi_wp2
  exact hK
 case hIx=>exact fun _=>fun _ _ _ _ h _ _=>h
 case hI=>exact PkI.from_ w w1.heap.size A1 (Pk.toks b).length c1 (Pk.toks b) _ _ hx1.size (by simp)
 case hKt=>exact fun h k=>⟨k.1.trans h.1,k.2.trans h.2⟩
 case hKb =>
  intro W l o o' hl _ _ _
  simp at hl
  exact ⟨World.putObj_heap_other (by omega),World.putObj_heap_other (by omega)⟩
 case hstop=>intro D c pre W hD _ hf;exact absurd hf id
 case hdone =>
  rintro D xs W hD rfl ⟨v,hB,hO,hR,hBs,hBn,hx⟩ hK
  obtain ⟨A2,c2,hv2,hlc2,hcm2⟩:=Own.shape hO
  subst hv2
  have hc0:W.cell? ⟨w1.heap.size+1,0,none⟩=some (.slice A2 (Pk.outs b.length (Pk.toks b) (List.range (eights (Pk.toks b).length))).length c2):=hB.cell 0
  have hout:Pk.outs b.length (Pk.toks b) (List.range (eights (Pk.toks b).length))=Pk.pack b:=(Pk.pack_outs b).symm
  rw [hout] at hO hc0
  clear hout
  gi_wp2
  refine ⟨by simp,.inl ⟨_,_,rfl,run_takeDeferred hK,?_⟩⟩
  have hgr:=grownBy_putObj' W D (.deferred none)
  have hD':w.heap.size<=D:=by have:=hx1.size;simp at hD;omega
  exact ⟨.tuple #[.slice A2 (Pk.pack b).length c2,.int .i64 0],by simp [results,Try.results21,go_sem],_,rfl,OwnB.mono (Own.noncells hO hgr (fun r e=>by cases e;exact ⟨_,hK,rfl⟩)) hx1.size,hx.trans (belowK_b (w:=w) (Nat.le_refl _) W D _ _ hD' hK rfl rfl)⟩
end Go.Proofs.Ytfdibjgmbdkbcaa
