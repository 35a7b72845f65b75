/-
  Words for memory: lists of lists of bytes of the call's own; what string(..) of bytes gives. No conditions. Plain law, no program: trees of digests: roots, paths, proofs of growth, right edges; from above and from below. No conditions. THE WALKS of math/bits.Len, tree.half, Leaf, Node, digests, Wrong. Conditions: what is read is bytes; the numbers are small. THE WALKS of slices.Clone, tree.digests, Wrong, leaves. Conditions: what is read is bytes, and lists of bytes. THE WALKS of tree.Wrong, leaves. Conditions: what is read is lists of bytes. Words for memory: a byte, or two, laid ahead of an append. No conditions.
-/
import Derived.Laws.BytesArg
import Derived.Laws.BytesString
import Derived.WalkKit
import Derived.Lib.Small
import Derived.Lib.Walk
import Derived.Lib.BitFns
import Derived.BigQuiet
import Derived.Deep.LoopGhost
import Derived.Deep.RegionHeld3
import Derived.Lib.LazyBuf
import Derived.Test.YtfdibjgmbdkbcaaYGa
import Derived.Test.YtfdibjgmbdkbcaaYGb
import Derived.Test.YtfdibjgmbdkbcaaYGm
namespace Go.Proofs.Ytfdibjgmbdkbcaa
open Go.RowKit
def OwnL (w:World) (B:Nat) (v:Value) (ll:List Bs):Prop :=
 ∃ vs:List Value,Own w B 22 1 v ll.length vs/\∀ (i:Nat) (b:Bs),ll[i]? = some b->∃ u:Value,vs[i]? = some u/\OwnB w B u b
theorem Bytes.below {w w':World} {F:Nat->Prop} {v:Value} {l:Bs} (h:Bytes w F v l) (hb:Below w.heap.size w w'):Bytes w' F v l:=SlAt.below h hb
theorem Bytes.alloc {w:World} {F:Nat->Prop} {v:Value} {l:Bs} (h:Bytes w F v l) (o:Obj):Bytes (w.alloc o) F v l:=SlAt.alloc h o
theorem Bytes.drewN {w:World} {F:Nat->Prop} {v:Value} {l:Bs} (h:Bytes w F v l) (n:Nat):Bytes (w.drewN n) F v l:=h
theorem OwnB.below {w w':World} {B:Nat} {v:Value} {l:Bs} (h:OwnB w B v l) (hb:Below w.heap.size w w'):OwnB w' B v l:=Own.below h hb
theorem OwnB.mono {w:World} {B B':Nat} {v:Value} {l:Bs} (h:OwnB w B v l) (hb:B'<=B):OwnB w B' v l:=Own.mono h hb
theorem OwnB.alloc {w:World} {B:Nat} {v:Value} {l:Bs} (h:OwnB w B v l) (o:Obj):OwnB (w.alloc o) B v l:=Own.alloc h o
theorem info_bytes:(Try.prog.info? 22).map (fun i=>(i.zero,i.size,i.bytes))=some (some (.slice none 0 0),1,24):=by kernel_rfl
theorem Own.type {w:World} {base:Nat} {e:TypeId} {size n:Nat} {v:Value} {xs:List Value} (h:Own w base e size v n xs) :
 ∀ k,v.ownBlock=some k->base<=k/\∃ cur,w.heap[k]? = some (.cells cur e (0,0)):=by
 obtain ⟨_,⟨rfl,_⟩ | ⟨g,off,cap,cur,rfl,hb,hg,_⟩⟩:=h
 · intro k hk;simp [Value.ownBlock] at hk
 · intro k hk
   have:g=k:=by simpa [Value.ownBlock] using hk
   subst this
   exact ⟨hb,cur,hg⟩
theorem Own.apart {w:World} {B B':Nat} {e e':TypeId} {s s' n n':Nat} {u v:Value} {xs ys:List Value} (h:Own w B e s u n xs) (h':Own w B' e' s' v n' ys) (hne:e≠e'):∀ k,u.ownBlock=some k->v.ownBlock≠some k:=by
 intro k hk hk'
 obtain ⟨_,c,h1⟩:=h.type k hk
 obtain ⟨_,c',h2⟩:=h'.type k hk'
 rw [h1] at h2
 injection h2 with h2
 injection h2 with _ h2
 exact hne h2
section
variable {w w':World} {B:Nat} {v:Value} {ll:List Bs}
theorem OwnL.nil_ (w:World) (B:Nat):OwnL w B (.slice none 0 0) []:=⟨[],Own.nil_ _ _ _ _,fun i b hb=>by simp at hb⟩
theorem OwnL.below (h:OwnL w B v ll) (hb:Below w.heap.size w w'):OwnL w' B v ll:=by
 obtain ⟨vs,h1,h2⟩:=h
 refine ⟨vs,h1.below hb,fun i b hi=>?_⟩
 obtain ⟨u,hu,ho⟩:=h2 i b hi
 exact ⟨u,hu,Own.below ho hb⟩
theorem OwnL.drewN (h:OwnL w B v ll) (n:Nat):OwnL (w.drewN n) B v ll:=h
theorem OwnL.alloc (h:OwnL w B v ll) (o:Obj):OwnL (w.alloc o) B v ll:=h.below ((Below.refl _ _).alloc (Nat.le_refl _) o)
theorem OwnL.mono (h:OwnL w B v ll) {B':Nat} (hb:B'<=B):OwnL w B' v ll:=by
 obtain ⟨vs,h1,h2⟩:=h
 refine ⟨vs,h1.mono hb,fun i b hi=>?_⟩
 obtain ⟨u,hu,ho⟩:=h2 i b hi
 exact ⟨u,hu,Own.mono ho hb⟩
theorem OwnL.blist (h:OwnL w B v ll):BList w (fun k=>B<=k/\k<w.heap.size) v ll:=by
 obtain ⟨vs,h1,h2⟩:=h
 refine ⟨vs,h1.slAt (fun k hk=>h1.lt k hk),fun i b hi=>?_⟩
 obtain ⟨u,hu,ho⟩:=h2 i b hi
 exact ⟨u,hu,OwnB.bytes ho⟩
theorem OwnL.snoc {vs:List Value} {u v':Value} {b:Bs} (h:∀ (i:Nat) (b:Bs),ll[i]? = some b->∃ u:Value,vs[i]? = some u/\OwnB w B u b) (hvs:vs.length=ll.length) (hu:OwnB w B u b)
 (hv:Own w B 22 1 v ll.length vs) (hg:w.grownBy w' v.ownBlock) (hown:Own w' B 22 1 v' (ll.length+1) (vs++[u])):OwnL w' B v' (ll++[b]):=by
 have hk:∀ (x:Value) (c:Bs),OwnB w B x c->OwnB w' B x c:=fun x c ho =>
  Own.keep ho fun k hk hlt _=>hg.block k hlt (fun e=>Own.apart ho hv (by decide) k hk e.symm)
 refine ⟨vs++[u],by rw [List.length_append];exact hown,fun i c hi=>?_⟩
 rcases Nat.lt_or_ge i ll.length with hlt | hge
 · rw [List.getElem?_append_left hlt] at hi
   obtain ⟨x,hx,ho⟩:=h i c hi
   exact ⟨x,by rw [List.getElem?_append_left (by omega)];exact hx,hk x c ho⟩
 · rw [List.getElem?_append_right hge] at hi
   have hi0:i=ll.length:=by
    rcases Nat.eq_or_lt_of_le hge with h | h
    · exact h.symm
    · rw [List.getElem?_eq_none (by simp;omega)] at hi;cases hi
   subst hi0
   simp only [Nat.sub_self,List.getElem?_cons_zero,Option.some.injEq] at hi
   subst hi
   exact ⟨u,by rw [<-hvs,List.getElem?_append_right (Nat.le_refl _),Nat.sub_self];rfl,hk u b hu⟩
end
theorem OwnL.prep {w:World} {B:Nat} {v:Value} {ll:List Bs} {vs:List Value} {A:Option Addr} {c:Nat} {b:Bs} (hown:Own w B 22 1 v ll.length vs)
 (hin:∀ (i:Nat) (b:Bs),ll[i]? = some b->∃ u:Value,vs[i]? = some u/\OwnB w B u b) (hb:OwnB w B (.slice A b.length c) b) :
 Own (w.alloc (.cells #[.slice A b.length c] 22)) B 22 1 v ll.length vs ∧
 SlAt (w.alloc (.cells #[.slice A b.length c] 22)) (fun k=>k=w.heap.size) 1 (.slice (some ⟨w.heap.size,0,none⟩) 1 1) 1 [.slice A b.length c] ∧
 ∀ v' w',Own w' B 22 1 v' (ll.length+1) (vs++[.slice A b.length c])->(w.alloc (.cells #[.slice A b.length c] 22)).grownBy w' v.ownBlock->OwnL w' B v' (ll++[b]):=by
 refine ⟨hown.alloc _,SlAt.new w 22 [.slice A b.length c] 1 rfl (by decide),fun v' w' h1 h2=>?_⟩
 refine OwnL.snoc (w:=w.alloc (.cells #[.slice A b.length c] 22)) (fun i b hb=>?_) (by have:=hown.1;omega) (Own.alloc hb _) (hown.alloc _) h2 h1
 obtain ⟨u,hu,ho⟩:=hin i b hb
 exact ⟨u,hu,Own.alloc ho _⟩
theorem conv_str (w:World) (F:Nat->Prop) (v:Value) (l:Bs) (h:Bytes w F v l) :
 (convert 22 9 v).run Try.prog w = .ok (.string ⟨l.toArray⟩) w:=by
 obtain ⟨A,c,rfl,hac,hcm,hal,hA⟩:=h
 rcases A with _ | a
 · have hl:l=[]:=by
    rcases Nat.eq_zero_or_pos l.length with h0 | h0
    · exact List.eq_nil_of_length_eq_zero h0
    · obtain ⟨_,_,h1,_⟩:=hA h0;cases h1
   subst hl
   exact run_convert_bytes_nil w 22 5 Try.underlying22 Try.underlying5 _ c 9 Try.underlying9
 · have hcells:∀ j u,(l.map bv)[j]? = some u->w.cell? (a.add j)=some u:=by
    intro j u hu
    have hj:0<l.length:=by
     rcases Nat.eq_zero_or_pos l.length with h0 | h0
     · rw [List.eq_nil_of_length_eq_zero h0] at hu;simp at hu
     · exact h0
    obtain ⟨b,off,h1,_,_,hc⟩:=hA hj
    injection h1 with h1
    subst h1
    rw [Addr.add_lit]
    exact hc j u hu
   have hm:l.map bv=(l.map fun x=>(x.toNat:Int)).map (Value.int .u8):=by rw [List.map_map];rfl
   have hl0:=run_loadCells_list (P:=Try.prog) w a (l.map bv) hcells
   rw [hm,List.length_map,List.length_map] at hl0
   rw [run_convert_bytes_string w 22 9 5 _ l.length c Try.underlying22 Try.underlying5 Try.underlying9,
    run_bytesToString w a l.length c (l.map fun x=>(x.toNat:Int)) hl0,foldl_push_bytes]
   have e:(l.map fun x=>(x.toNat:Int)).map (fun n=>UInt8.ofNat n.toNat)=l:=by
    rw [List.map_map]
    conv=>rhs;rw [<-List.map_id l]
    apply List.map_congr_left
    intro x _
    simp
   rw [e]
   congr 2
   apply ByteArray.ext
   simp [ByteArray.empty,ByteArray.emptyWithCapacity]
   rfl
set_option maxHeartbeats 400000 in
theorem equal_any (w:World) (F F':Nat->Prop) (va vb:Value) (a b:Bs) (ha:Bytes w F va a) (hb:Bytes w F' vb b) :
 Calls Try.prog 91 #[va,vb] w fun e w'=>e = .returned (.bool (a==b))/\w'=w:=by
 have h1:=conv_str w F va a ha
 have h2:=conv_str w F' vb b hb
 obtain ⟨A,c,rfl⟩:=ha.form
 obtain ⟨A',c',rfl⟩:=hb.form
 go_enter Try.func91,Try.ntmps91
 go_wp2
 go_ret
 exact ⟨rfl,rfl⟩
end Go.Proofs.Ytfdibjgmbdkbcaa
namespace Go.Proofs.Ytfdibjgmbdkbcaa
namespace Tr
def leafH (b:Bs):Bs:=Sha.sha256 (0::b)
def nodeH (a b:Bs):Bs:=Sha.sha256 (1::(a++b))
def nilH:Bs:=Sha.sha256 []
theorem length_leafH (b:Bs):(leafH b).length=32:=rfl
theorem length_nodeH (a b:Bs):(nodeH a b).length=32:=rfl
theorem length_nilH:nilH.length=32:=rfl
def split (n:Nat):Nat:=2 ^ Nat.log2 (n-1)
theorem split_pos (n:Nat):0<split n:=Nat.two_pow_pos _
theorem split_lt {n:Nat} (h:2<=n):split n<n:=by
 have h1:split n<=n-1:=Nat.log2_self_le (by omega)
 omega
theorem split_ge {n:Nat} (h:2<=n):n<=2*split n:=by
 have h1:n-1<2 ^ (Nat.log2 (n-1)+1):=Nat.lt_log2_self
 rw [Nat.pow_succ] at h1
 unfold split
 omega
theorem pow_unique {a b n:Nat} (h1:2 ^ a<n) (h2:n<=2 ^ (a+1)) (h3:2 ^ b<n) (h4:n<=2 ^ (b+1)):a=b:=by
 have e1:a<b+1:=(Nat.pow_lt_pow_iff_right (by decide)).1 (Nat.lt_of_lt_of_le h1 h4)
 have e2:b<a+1:=(Nat.pow_lt_pow_iff_right (by decide)).1 (Nat.lt_of_lt_of_le h3 h2)
 omega
theorem split_eq {n j:Nat} (h1:2 ^ j<n) (h2:n<=2*2 ^ j):split n=2 ^ j:=by
 have hp:0<2 ^ j:=Nat.two_pow_pos _
 have g1:=split_lt (n:=n) (by omega)
 have g2:=split_ge (n:=n) (by omega)
 unfold split at *
 rw [pow_unique g1 (by rw [Nat.pow_succ];omega) h1 (by rw [Nat.pow_succ];omega)]
def root (l:List Bs):Bs :=
 if _h:2<=l.length then nodeH (root (l.take (split l.length))) (root (l.drop (split l.length)))
 else l.getD 0 nilH
termination_by l.length
decreasing_by
 · have:=split_lt _h;rw [List.length_take];omega
 · have:=split_pos l.length;rw [List.length_drop];omega
theorem root_nil:root []=nilH:=by rw [root];rfl
theorem root_one (a:Bs):root [a]=a:=by rw [root];rfl
theorem root_two {l:List Bs} (h:2<=l.length):root l=nodeH (root (l.take (split l.length))) (root (l.drop (split l.length))):=by
 conv=>lhs;rw [root,dif_pos h]
theorem length_root (l:List Bs) (h:∀ a ∈ l,a.length=32):(root l).length=32:=by
 by_cases h2:2<=l.length
 · rw [root_two h2];exact length_nodeH _ _
 · match l,h,h2 with
   | [],_,_=>rw [root_nil];exact length_nilH
   | [a],h,_=>rw [root_one];exact h a (by simp)
   | _::_::_,_,h2=>simp at h2
def path (l:List Bs) (i:Nat):List Bs :=
 if _h:2<=l.length then
  if i<split l.length then path (l.take (split l.length)) i++[root (l.drop (split l.length))]
  else path (l.drop (split l.length)) (i-split l.length)++[root (l.take (split l.length))]
 else []
termination_by l.length
decreasing_by
 · have:=split_lt _h;rw [List.length_take];omega
 · have:=split_pos l.length;rw [List.length_drop];omega
def upG {α:Type} (L R:α->Bs->α) (d:α) (i n:Nat) (p:List Bs):Option α :=
 if _h:2<=n then
  match p.getLast? with
  | none=>none
  | some top=>if i<split n then (upG L R d i (split n) p.dropLast).map (L · top) else (upG L R d (i-split n) (n-split n) p.dropLast).map (R · top)
 else if p=[] then some d else none
termination_by n
decreasing_by
 · exact split_lt _h
 · have:=split_pos n;omega
section
variable {α:Type} {L R:α->Bs->α} {d:α} {i n:Nat} {p:List Bs}
end
def nodeL (d q:Bs):Bs:=nodeH d q
def nodeR (d q:Bs):Bs:=nodeH q d
def up (d:Bs) (i n:Nat) (p:List Bs):Option Bs:=upG nodeL nodeR d i n p
abbrev PB:=Bs × Bs
def pairL (d:PB) (q:Bs):PB:=(d.1,nodeH d.2 q)
def pairR (d:PB) (q:Bs):PB:=(nodeH q d.1,nodeH q d.2)
def only:List Bs->Option PB
 | [x]=>some (x,x)
 | _=>none
def two (m n:Nat) (whole:Bool) (old:Bs) (p:List Bs):Option PB :=
 if _h:m<n/\2<=n then
  match p.getLast? with
  | none=>none
  | some top=>if m<=split n then (two m (split n) whole old p.dropLast).map (pairL · top) else (two (m-split n) (n-split n) false old p.dropLast).map (pairR · top)
 else if whole then (if p=[] then some (old,old) else none)
 else only p
termination_by n
decreasing_by
 · exact split_lt _h.2
 · have:=split_pos n;omega
section
variable {m n:Nat} {b:Bool} {old:Bs} {p:List Bs}
end
end Tr
end Go.Proofs.Ytfdibjgmbdkbcaa
namespace Go.Proofs.Ytfdibjgmbdkbcaa
open Go.RowKit Go.Lib
theorem wrap64_nat_small (n:Nat) (h:n<=9223372036854775807):wrap64 (n:Int)=(n:Int):=IntWalk.wrap64_in n ⟨by omega,by omega⟩
set_option maxHeartbeats 1000000 in
set_option maxRecDepth 100000 in
theorem len64_small (x:Int) (w:World) (h0:0<=x) (h1:x<=255) :
 Calls Try.prog 151 #[.int .u64 x] w fun e w'=>e = .returned (.int .i64 (Lib.bitLen x.toNat))/\w'=w:=by
 go_enter Try.func151,Try.ntmps151
 go_wp2
 all_goals (go_ret;refine ⟨congrArg Ending.returned (congrArg (Value.int IntKind.i64) ?_),rfl⟩)
 have h:=Lib.len8_of x (by omega) (by omega)
 have l:=Lib.bitLen_le8' x (by omega) (by omega)
 rw [h,wrap64_nat_small _ (by omega),wrap64_nat_small _ (by omega)]
theorem bitLen_log:∀ n:Fin 129,1<=n.val->Lib.bitLen n.val=Nat.log2 n.val+1:=by decide +kernel
theorem len_small (x:Int) (w:World) (h0:0<=x) (h1:x<=255) :
 Calls Try.prog 142 #[.int .u64 x] w fun e w'=>e = .returned (.int .i64 (Lib.bitLen x.toNat))/\w'=w:=by
 go_enter Try.func142,Try.ntmps142
 go_wp2_with (go_at_call 151;refine (len64_small x _ h0 h1).mono ?_;rintro e w' ⟨rfl,rfl⟩)
 go_ret
 exact ⟨rfl,rfl⟩
set_option maxHeartbeats 400000 in
theorem half_any (n:Nat) (w:World) (h2:2<=n) (hn:n<=128) :
 Calls Try.prog 131 #[.int .i64 (n:Int)] w fun e w'=>e = .returned (.int .i64 (Tr.split n:Nat))/\w'=w:=by
 have hb:=bitLen_log ⟨n-1,by omega⟩ (by show 1<=n-1;omega)
 dsimp only at hb
 have hlog:Nat.log2 (n-1)<7:=(Nat.log2_lt (by omega)).2 (by omega)
 have hlen:Lib.bitLen ((n:Int)-1).toNat=Nat.log2 (n-1)+1:=by rw [show ((n:Int)-1).toNat=n-1 by omega];exact hb
 have hs:(2:Int) ^ Nat.log2 (n-1)=((Tr.split n:Nat):Int):=by unfold Tr.split;simp
 have hsl:=Tr.split_lt h2
 generalize Nat.log2 (n-1)=L at *
 generalize Tr.split n=s at *
 have HL:=Lib.hid hlen
 have HS:=Lib.hid hs
 clear hb hlen hs
 go_enter Try.func131,Try.ntmps131
 go_wp2_with fail
 refine (len_small ((n:Int)-1) _ (by omega) (by omega)).mono ?_
 rintro e w' ⟨rfl,rfl⟩
 rw [HL.out]
 go_wp2_with fail
 go_ret
 refine ⟨congrArg (fun x=>Ending.returned (.int .i64 x)) ?_,rfl⟩
 rw [HS.out,wrap64_nat_small _ (by omega)]
theorem blist_new (w:World) (F:Nat->Prop) (vs:List Value) (ll:List Bs) (hl:vs.length=ll.length) (hm:ll.length<=maxLen) (h:∀ (i:Nat) (b:Bs),ll[i]? = some b->∃ u:Value,vs[i]? = some u/\Bytes w F u b) :
 BList (w.alloc (.cells vs.toArray 22)) (fun _=>True) (.slice (some ⟨w.heap.size,0,none⟩) ll.length ll.length) ll :=
 ⟨vs,(SlAt.new w 22 vs ll.length hl hm).weak (fun _ _ _=>trivial),fun i b hb=>by
  obtain ⟨u,hu,hub⟩:=h i b hb
  exact ⟨u,hu,(hub.alloc _).weak (fun _ _ _=>trivial)⟩⟩
theorem blist2 {w:World} {F F':Nat->Prop} {va vb:Value} {a b:Bs} (ha:Bytes w F va a) (hb:Bytes w F' vb b) :
 BList (w.alloc (.cells #[va,vb] 22)) (fun _=>True) (.slice (some ⟨w.heap.size,0,none⟩) 2 2) [a,b]:=by
 refine blist_new w (fun _=>True) [va,vb] [a,b] rfl (by simp [maxLen]) (fun i b hi=>?_)
 match i,hi with
 | 0,hi=>injection hi with hi;subst hi;exact ⟨_,rfl,ha.weak (fun _ _ _=>trivial)⟩
 | 1,hi=>injection hi with hi;subst hi;exact ⟨_,rfl,hb.weak (fun _ _ _=>trivial)⟩
theorem blist3 {w:World} {F F' F'':Nat->Prop} {va vb vc:Value} {a b c:Bs} (ha:Bytes w F va a) (hb:Bytes w F' vb b) (hc:Bytes w F'' vc c) :
 BList (w.alloc (.cells #[va,vb,vc] 22)) (fun _=>True) (.slice (some ⟨w.heap.size,0,none⟩) 3 3) [a,b,c]:=by
 refine blist_new w (fun _=>True) [va,vb,vc] [a,b,c] rfl (by simp [maxLen]) (fun i b hi=>?_)
 match i,hi with
 | 0,hi=>injection hi with hi;subst hi;exact ⟨_,rfl,ha.weak (fun _ _ _=>trivial)⟩
 | 1,hi=>injection hi with hi;subst hi;exact ⟨_,rfl,hb.weak (fun _ _ _=>trivial)⟩
 | 2,hi=>injection hi with hi;subst hi;exact ⟨_,rfl,hc.weak (fun _ _ _=>trivial)⟩
theorem bytes1 (w:World) (x:UInt8):Bytes (w.alloc (.cells #[bv x] 5)) (fun _=>True) (.slice (some ⟨w.heap.size,0,none⟩) 1 1) [x] :=
 (SlAt.new w 5 [bv x] 1 rfl (by decide)).weak (fun _ _ _=>trivial)
set_option maxHeartbeats 1000000 in
theorem leaf_any (w:World) (F:Nat->Prop) (v:Value) (b:Bs) (hb:Bytes w F v b) (hlen:b.length<=140737488355000) :
 Calls Try.prog 31 #[v] w fun e w'=>∃ v,e = .returned v/\OwnB w' w.heap.size v (Tr.leafH b)/\Below w.heap.size w w':=by
 obtain ⟨A,c,rfl⟩:=hb.form
 have hl:=blist2 (bytes1 w 0) (hb.alloc (.cells #[bv 0] 5))
 rw [World.size_alloc] at hl
 have hx:Below w.heap.size w ((w.alloc (.cells #[bv 0] 5)).alloc (.cells #[.slice (some ⟨w.heap.size,0,none⟩) 1 1,.slice A b.length c] 22)):=((Below.refl _ _).alloc (Nat.le_refl _) _).alloc (by simp) _
 go_enter Try.func31,Try.ntmps31
 go_wp2_with fail
 refine (parts_any _ _ _ _ hl (by simp;omega)).mono ?_
 rintro e w2 ⟨vr,rfl,hown,hx2⟩
 go_wp2_with fail
 go_ret
 refine ⟨_,rfl,?_,hx.trans (hx2.mono hx.size)⟩
 have e1:Sha.sha256 ([[0],b].flatten)=Tr.leafH b:=by simp [Tr.leafH]
 rw [e1] at hown
 exact hown.mono hx.size
set_option maxHeartbeats 1000000 in
theorem node_any (w:World) (F F':Nat->Prop) (va vb:Value) (a b:Bs) (ha:Bytes w F va a) (hb:Bytes w F' vb b) (hlen:a.length+b.length<=140737488355000) :
 Calls Try.prog 33 #[va,vb] w fun e w'=>∃ v,e = .returned v/\OwnB w' w.heap.size v (Tr.nodeH a b)/\Below w.heap.size w w':=by
 obtain ⟨A,c,rfl⟩:=ha.form
 obtain ⟨A',c',rfl⟩:=hb.form
 have hl:=blist3 (bytes1 w 1) (ha.alloc (.cells #[bv 1] 5)) (hb.alloc (.cells #[bv 1] 5))
 rw [World.size_alloc] at hl
 have hx:Below w.heap.size w ((w.alloc (.cells #[bv 1] 5)).alloc (.cells #[.slice (some ⟨w.heap.size,0,none⟩) 1 1,.slice A a.length c,.slice A' b.length c'] 22)):=((Below.refl _ _).alloc (Nat.le_refl _) _).alloc (by simp) _
 go_enter Try.func33,Try.ntmps33
 go_wp2_with fail
 refine (parts_any _ _ _ _ hl (by simp;omega)).mono ?_
 rintro e w2 ⟨vr,rfl,hown,hx2⟩
 go_wp2_with fail
 go_ret
 refine ⟨_,rfl,?_,hx.trans (hx2.mono hx.size)⟩
 have e1:Sha.sha256 ([[1],a,b].flatten)=Tr.nodeH a b:=by simp [Tr.nodeH]
 rw [e1] at hown
 exact hown.mono hx.size
end Go.Proofs.Ytfdibjgmbdkbcaa
namespace Go.Proofs.Ytfdibjgmbdkbcaa
open Go.RowKit Go.Lib
theorem SlAt.none_nil {w:World} {F:Nat->Prop} {size n c:Nat} {xs:List Value} (h:SlAt w F size (.slice none n c) n xs):n=0/\xs=[]:=by
 obtain ⟨A,c',hv,_,_,hl,hc⟩:=h
 injection hv with e1 e2 e3
 subst e1
 rcases Nat.eq_zero_or_pos n with h0 | h0
 · subst h0;exact ⟨rfl,List.eq_nil_of_length_eq_zero (by simpa using hl)⟩
 · obtain ⟨_,_,h1,_⟩:=hc h0;cases h1
theorem eql_nil_yes {P:Program} {t e:TypeId} (h:P.underlying t=some (.slice e)) (n c:Nat) (w:World):(binOp .eql t (.slice none n c) (.slice none 0 0)).run P w = .ok (.bool true) w:=Lib.run_eql_slice_nil w t e none n c 0 0 h
theorem eql_nil_no {P:Program} {t e:TypeId} (h:P.underlying t=some (.slice e)) (a:Addr) (n c:Nat) (w:World):(binOp .eql t (.slice (some a) n c) (.slice none 0 0)).run P w = .ok (.bool false) w:=Lib.run_eql_slice_nil w t e (some a) n c 0 0 h
set_option maxRecDepth 100000 in
set_option maxHeartbeats 400000 in
theorem clone_any (w:World) (F:Nat->Prop) (v:Value) (l:Bs) (hb:Bytes w F v l) (hlen:l.length<=140737488355000) :
 Calls Try.prog 97 #[v] w fun e w'=>∃ v,e = .returned v/\OwnB w' w.heap.size v l/\Below w.heap.size w w':=by
 obtain ⟨i0,hi,hz0,hz1,hz2⟩:=info_parts info_u8
 obtain ⟨A,c,rfl⟩:=hb.form
 rcases A with _ | a
 · obtain ⟨_,hx⟩:=SlAt.none_nil hb
   have hl:l=[]:=by simpa using hx
   subst hl
   have he:=eql_nil_yes (P:=Try.prog) Try.underlying22
   simp only [List.length_nil]
   go_enter Try.func97,Try.ntmps97
   go_wp2_with fail
   go_ret
   exact ⟨_,rfl,Own.nil_ _ _ _ _,Below.refl _ _⟩
 · have hown:=Own.new w w.heap.size 5 [] 0 rfl (by decide) (Nat.le_refl _)
   have hx:=(Below.refl w.heap.size w).alloc (Nat.le_refl _) (.cells #[] 5)
   have hba:=hb.alloc (.cells #[] 5)
   have he:=eql_nil_no (P:=Try.prog) Try.underlying22 a
   go_enter Try.func97,Try.ntmps97
   go_wp2_with (at_builtin
                refine wpList_append_Own _ rfl (.tmp 5) (.tmp 6) 22 rfl w.heap.size 5 i0 _ 1 1 Try.underlying22 hi hz0 hz1 hz2 rfl (by omega) _ _ _ rfl hown _ _ _ _ rfl hba (map_oneCell l) (by simp only [maxLen];omega) (by omega) (by simp) ?_
                intro v1 w1 hown1 hgr1 hat1
                have hx2:Below w.heap.size w w1:=hx.grown hgr1 hx.size (fun k hk=>(hown.lt k hk).1))
   go_ret
   refine ⟨_,rfl,?_,hx2⟩
   unfold OwnB
   simpa using hown1
end Go.Proofs.Ytfdibjgmbdkbcaa
namespace Go.Proofs.Ytfdibjgmbdkbcaa
open Go.RowKit Go.Lib
def fv (p:Nat × Nat):Value:=.agg #[.int .i64 (p.1:Int),.int .i64 (p.2:Int)]
def wrongF:List Bs->Nat->Nat × Nat
 | [],_=>(0,0)
 | b::l,i=>if 200<b.length then (4,i) else wrongF l (i+1)
def wrongS (ll:List Bs):Nat × Nat:=if 100<ll.length then (5,0) else wrongF ll 0
theorem wrongF_ok:∀ (l:List Bs) (i:Nat),(wrongF l i).1=0 ↔ ∀ b ∈ l,b.length<=200
 | [],_=>by simp [wrongF]
 | b::l,i=>by
   have ih:=wrongF_ok l (i+1)
   unfold wrongF
   by_cases h:200<b.length
   · rw [if_pos h]
     simp
     omega
   · rw [if_neg h,ih]
     simp
     omega
theorem wrongF_zero:∀ (l:List Bs) (i:Nat),(wrongF l i).1=0->wrongF l i=(0,0)
 | [],_,_=>rfl
 | b::l,i,h=>by
   unfold wrongF at h ⊢
   split at h
   · simp at h
   · rename_i hn
     rw [if_neg hn]
     exact wrongF_zero l (i+1) h
def Fine (ll:List Bs):Prop:=ll.length<=100/\∀ b ∈ ll,b.length<=200
theorem wrongS_ok (ll:List Bs):(wrongS ll).1=0 ↔ Fine ll:=by
 unfold wrongS Fine
 by_cases h:100<ll.length
 · rw [if_pos h];simp;omega
 · rw [if_neg h,wrongF_ok];constructor
   · intro g;exact ⟨by omega,g⟩
   · intro g;exact g.2
theorem wrongS_zero (ll:List Bs) (h:(wrongS ll).1=0):wrongS ll=(0,0):=by
 unfold wrongS at h ⊢
 split at h
 · simp at h
 · rename_i hn
   rw [if_neg hn]
   exact wrongF_zero _ _ h
theorem wrongF_le:∀ (l:List Bs) (i:Nat),(wrongF l i).1<=4
 | [],_=>by simp [wrongF]
 | b::l,i=>by
   unfold wrongF
   split
   · simp
   · exact wrongF_le l (i+1)
theorem wrongS_le (ll:List Bs):(wrongS ll).1<=5:=by
 unfold wrongS
 split
 · simp
 · have:=wrongF_le ll 0;omega
set_option maxHeartbeats 1000000 in
theorem wrong_any (w:World) (F:Nat->Prop) (v:Value) (ll:List Bs) (hl:BList w F v ll) :
 Calls Try.prog 29 #[v] w fun e w'=>e = .returned (fv (wrongS ll))/\Below w.heap.size w w':=by
 obtain ⟨A,c,hv⟩:=hl.form
 subst hv
 have hn63:ll.length<=9223372036854775807:=by
  obtain ⟨vs,⟨A',c',hv,h1,h2,_⟩,_⟩:=hl
  unfold maxLen at h2
  omega
 have hx:Below w.heap.size w (w.alloc (.cells #[.int .i64 0,.int .i64 0] 32)):=(Below.refl _ _).alloc (Nat.le_refl _) _
 by_cases hmany:100<ll.length
 · have hS:Hid (wrongS ll=(5,0)):=Lib.hid (by unfold wrongS;rw [if_pos hmany])
   have hB:(100:Int)<(ll.length:Int):=by omega
   go_enter Try.func29,Try.ntmps29
   go_wp2_with fail
   refine bodyPost_ret (v:=.agg #[.int .i64 5,.int .i64 0]) (by simp [results,Try.results29,go_sem]) rfl ⟨by rw [hS.out];rfl,?_⟩
   exact (Below.refl _ _).alloc (Nat.le_refl _) _
 · have hB:decide ((100:Int)<(ll.length:Int))=false:=by simp;omega
   have hS:Hid (wrongS ll=wrongF ll 0):=Lib.hid (by unfold wrongS;rw [if_neg hmany])
   go_enter Try.func29,Try.ntmps29
   go_wp2_with fail
   go_loopg [11] ll.length (fun k i wr=>∃ j:Nat,j+k=ll.length/\i = .int .i64 (j:Int)/\Hid (wrongF (ll.drop j) j=wrongF ll 0)/\wr=w.alloc (.cells #[.int .i64 0,.int .i64 0] 32))
   case atStart=>exact ⟨0,by omega,rfl,Lib.hid (by simp),rfl⟩
   case round =>
    obtain ⟨j,hj,rfl,HP,rfl⟩:=hrel
    by_cases hlt:j<ll.length
    · obtain ⟨b,off,u,hA,hc,_,hb,hub⟩:=hl.at_ hlt
      subst hA
      obtain ⟨A2,c2,hv2,hac2,hcm2⟩:=hub.form'
      subst hv2
      unfold maxLen at hcm2
      have hltB:(j:Int)<(ll.length:Int):=by omega
      have hc':=(hx.cell (p:=⟨b,off+j,none⟩) hb).trans hc
      have hnx:ll.drop j=ll[j]::ll.drop (j+1):=List.drop_eq_getElem_cons hlt
      generalize ll[j]=x at *
      have HN:=Lib.hid hnx
      clear hnx hc
      by_cases h200:200<x.length
      · have hB2:(200:Int)<(x.length:Int):=by omega
        have HF:Hid (wrongF ll 0=(4,j)):=Lib.hid (by rw [<-HP.out,HN.out,wrongF,if_pos h200])
        go_wp2_with fail
        refine bodyPost_ret (v:=.agg #[.int .i64 4,.int .i64 j]) (by simp [results,Try.results29,go_sem]) rfl ⟨by rw [hS.out,HF.out];rfl,?_⟩
        exact (Below.refl _ _).alloc (Nat.le_refl _) _
      · have hB2:decide ((200:Int)<(x.length:Int))=false:=by simp;omega
        have HF:Hid (wrongF (ll.drop (j+1)) (j+1)=wrongF ll 0):=Lib.hid (by rw [<-HP.out,HN.out,wrongF,if_neg h200])
        go_wp2_with fail
        go_roundg (gk-1)
        case measure=>omega
        case rel=>exact ⟨j+1,by omega,by go_num,HF,rfl⟩
    · have hltB:decide ((j:Int)<(ll.length:Int))=false:=by simp;omega
      have HF:Hid (wrongF ll 0=(0,0)):=Lib.hid (by rw [<-HP.out,List.drop_of_length_le (by omega)];rfl)
      go_wp2_with fail
      refine bodyPost_ret (v:=.agg #[.int .i64 0,.int .i64 0]) (by simp [results,Try.results29,go_sem]) rfl ⟨by rw [hS.out,HF.out];rfl,?_⟩
      exact (Below.refl _ _).alloc (Nat.le_refl _) _
set_option maxRecDepth 100000 in
set_option maxHeartbeats 1000000 in
theorem leaves_any (w:World) (F:Nat->Prop) (v:Value) (ll:List Bs) (hl:BList w F v ll) (hn:ll.length<=100000) (hlen:∀ b ∈ ll,b.length<=140737488355000) :
 Calls Try.prog 100 #[v] w fun e w'=>∃ v,e = .returned v/\OwnL w' w.heap.size v (ll.map Tr.leafH)/\Below w.heap.size w w':=by
 obtain ⟨i0,hi,hz0,hz1,hz2⟩:=info_parts info_bytes
 obtain ⟨A,c,hv⟩:=hl.form
 subst hv
 go_enter Try.func100,Try.ntmps100
 go_wp2_with fail
 go_loopg [3,8] ll.length (fun k v i wr=>∃ j:Nat,j+k=ll.length/\i = .int .i64 (j:Int)/\OwnL wr w.heap.size v ((ll.take j).map Tr.leafH)/\Below w.heap.size w wr)
 case atStart=>exact ⟨0,by omega,rfl,OwnL.nil_ _ _,Below.refl _ _⟩
 case round =>
  obtain ⟨j,hj,rfl,⟨vs,hown,hin⟩,hx⟩:=hrel
  have hlj:((ll.take j).map Tr.leafH).length=j:=by rw [List.length_map,List.length_take];omega
  rw [hlj] at hown
  obtain ⟨A1,c1,hv1,hac1,hcm1⟩:=hown.shape
  subst hv1
  by_cases hlt:j<ll.length
  · obtain ⟨b,off,u,hA,hc,_,hb,hub⟩:=hl.at_ hlt
    subst hA
    have hltB:(j:Int)<(ll.length:Int):=by omega
    have hc':=(hx.cell (p:=⟨b,off+j,none⟩) hb).trans hc
    have hub':=((hub.weak (F':=fun k=>k<w.heap.size) (fun k hk _=>hk))).below_of hx (fun _ h=>h)
    have hmem:ll[j] ∈ ll:=List.getElem_mem hlt
    have hle:=hlen _ hmem
    have hnx:(ll.take (j+1)).map Tr.leafH=(ll.take j).map Tr.leafH++[Tr.leafH ll[j]]:=by
     rw [List.take_succ_eq_append_getElem hlt,List.map_append];rfl
    generalize ll[j]=x at *
    have HN:=Lib.hid hnx
    have HL:=Lib.hid hlj
    clear hnx hc hmem hlj
    go_wp2_with fail
    refine (leaf_any wr _ _ x hub' hle).mono ?_
    rintro e w1 ⟨v1,rfl,hown1,hx1⟩
    obtain ⟨A3,c3,hv3,_,_⟩:=Own.shape hown1
    subst hv3
    have hown2:=hown.below hx1
    have hin2:∀ (i:Nat) (b:Bs),((ll.take j).map Tr.leafH)[i]? = some b->∃ u:Value,vs[i]? = some u/\OwnB w1 w.heap.size u b:=fun i b hb=>by
     obtain ⟨u,hu,ho⟩:=hin i b hb
     exact ⟨u,hu,Own.below ho hx1⟩
    have hx2:=hx.trans (hx1.mono hx.size)
    have hsrc:=SlAt.new w1 22 [.slice A3 (Tr.leafH x).length c3] 1 rfl (by decide)
    have hownA:=hown2.alloc (.cells #[.slice A3 (Tr.leafH x).length c3] 22)
    have hxA:=hx2.alloc hx2.size (.cells #[.slice A3 (Tr.leafH x).length c3] 22)
    have hvo:OwnB (w1.alloc (.cells #[.slice A3 (Tr.leafH x).length c3] 22)) w.heap.size (.slice A3 (Tr.leafH x).length c3) (Tr.leafH x):=(Own.mono hown1 hx.size).alloc _
    have hin3:∀ (i:Nat) (b:Bs),((ll.take j).map Tr.leafH)[i]? = some b->∃ u:Value,vs[i]? = some u/\OwnB (w1.alloc (.cells #[.slice A3 (Tr.leafH x).length c3] 22)) w.heap.size u b:=fun i b hb=>by
     obtain ⟨u,hu,ho⟩:=hin2 i b hb
     exact ⟨u,hu,Own.alloc ho _⟩
    go_wp2_with (at_builtin
                 refine wpList_append_Own _ rfl (.tmp 12) (.tmp 15) 40 rfl w.heap.size 22 i0 _ 1 24 Try.underlying40 hi hz0 hz1 hz2 rfl (by omega) _ _ _ rfl hownA _ _ _ _ rfl hsrc (by simp [Value.oneCell']) (by simp only [maxLen];omega) (by omega) (by simp;have:=hx2.size;omega) ?_
                 intro v2 w2 hown3 hgr3 hat3
                 have hx3:Below w.heap.size w w2:=hxA.grown hgr3 hxA.size (fun k hk=>(hownA.lt k hk).1)
                 have hL:=OwnL.snoc hin3 (by rw [hown.1,HL.out];omega) hvo (by rw [HL.out];exact hownA) hgr3 (by rw [HL.out];exact hown3))
    go_roundg (gk-1)
    case measure=>omega
    case rel=>exact ⟨j+1,by omega,by go_num,by rw [HN.out];exact hL,hx3⟩
  · have hltB:decide ((j:Int)<(ll.length:Int))=false:=by simp;omega
    have hj:ll.take j=ll:=List.take_of_length_le (by omega)
    rw [hj] at hin hlj
    have HL:=Lib.hid hlj
    clear hj hlj
    go_wp2_with fail
    go_ret
    exact ⟨_,rfl,⟨vs,by rw [HL.out];exact hown,hin⟩,hx⟩
end Go.Proofs.Ytfdibjgmbdkbcaa
namespace Go.Proofs.Ytfdibjgmbdkbcaa
open Go.RowKit
theorem byte_prep {w:World} {B:Nat} {v:Value} {l:Bs} (c:UInt8) (hown:OwnB w B v l) :
 Own (w.alloc (.cells #[bv c] 5)) B 5 1 v l.length (l.map bv)/\SlAt (w.alloc (.cells #[bv c] 5)) (fun k=>k=w.heap.size) 1 (.slice (some ⟨w.heap.size,0,none⟩) 1 1) 1 [bv c] :=
 ⟨hown.alloc _,SlAt.new w 5 [bv c] 1 rfl (by decide)⟩
theorem OwnB.snoc_ {w:World} {B:Nat} {v:Value} {l:Bs} {c:UInt8} (h:Own w B 5 1 v (l.length+1) (l.map bv++[.int .u8 (c.toNat:Int)])):OwnB w B v (l++[c]):=by
 unfold OwnB
 rw [List.length_append,List.map_append]
 exact h
end Go.Proofs.Ytfdibjgmbdkbcaa
