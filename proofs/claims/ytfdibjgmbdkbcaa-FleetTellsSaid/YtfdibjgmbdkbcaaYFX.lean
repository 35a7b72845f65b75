/-
  A map of four numbers, made in whatever order, and asked. No conditions. Words for memory: what is laid away is a shard's. No conditions.
-/
import Derived.Maps.OwnOps
import Derived.Test.YtfdibjgmbdkbcaaYSt
import Derived.Test.YtfdibjgmbdkbcaaYGq
namespace Go.Proofs.Ytfdibjgmbdkbcaa
open Go.RowKit Go.Lib Go.Maps
theorem law_int:Keyed Try.prog 3:=int_keyed Try.underlying3
theorem zero_int (w:World):(zeroValue 3).run Try.prog w = .ok (.int .i64 0) w:=by kernel_rfl
abbrev ni (n:Int):DataW Unit:=.lit (.int .i64 n)
def Dm (a b c d:Bool):DataW Unit:=.map ((if a then [(.int .i64 2,ni 1)] else [])++((if b then [(.int .i64 3,ni 2)] else [])++((if c then [(.int .i64 4,ni 3)] else [])++(if d then [(.int .i64 5,ni 3)] else []))))
theorem put_a (b c d:Bool):(Dm false b c d).put (.int .i64 2) (ni 1)=Dm true b c d:=by cases b<;>cases c<;>cases d<;>rfl
theorem put_b (a c d:Bool):(Dm a false c d).put (.int .i64 3) (ni 2)=Dm a true c d:=by cases a<;>cases c<;>cases d<;>rfl
theorem put_c (a b d:Bool):(Dm a b false d).put (.int .i64 4) (ni 3)=Dm a b true d:=by cases a<;>cases b<;>cases d<;>rfl
theorem put_d (a b c:Bool):(Dm a b c false).put (.int .i64 5) (ni 3)=Dm a b c true:=by cases a<;>cases b<;>cases c<;>rfl
def MapT (w0:World) (g:Nat) (a b c d:Bool) (z:World):Prop:=z.ownsMap Try.prog 3 (plainElem Try.prog 3) g (a.toNat+b.toNat+c.toNat+d.toNat) (Dm a b c d)/\Below g w0 z
theorem MapT.made (w:World):MapT w w.heap.size false false false false (w.alloc (.map #[] 0)):=⟨World.ownsMap_made w _ _ _,(Below.refl _ _).alloc (Nat.le_refl _) _⟩
section
variable {o:Oper} {act:Act} {K:Act->World->Prop} {Q:Exit->Act->World->Prop} {w w0:World} {g:Nat}
set_option maxRecDepth 100000 in
theorem ins_wp {n:Nat} {D D':DataW Unit} (m:Operand) (x y:Int) (hop:o.op = .insert 108 m (.const (.int .i64 x)) (.const (.int .i64 y))) (hd:o.dst=none) (hm:act.eval m = .map (some g)) (hx:(Lit.int .i64 x).wf=true) (hy:(Lit.int .i64 y).wf=true)
 (hown:w.ownsMap Try.prog 3 (plainElem Try.prog 3) g n D) (hn:n<maxLen) (hD:D.put (.int .i64 x) (ni y)=D') (hb:Below g w0 w) (hK:∀ w',w'.ownsMap Try.prog 3 (plainElem Try.prog 3) g (n+1) D'->Below g w0 w'->K act w'):Oper.wp Try.prog o act w K Q:=by
 obtain ⟨w',hrun,h1,h2⟩:=hown.update law_int Try.underlying108 hn (keyOf_int_mk Try.underlying3 hx) (plainElem_int Try.underlying3 hy)
 unfold Oper.wp
 have e1:act.eval (.const (.int .i64 x)) = .int .i64 x:=rfl
 have e2:act.eval (.const (.int .i64 y)) = .int .i64 y:=rfl
 have ep:act.put o.dst undef=act:=by rw [hd];rfl
 simp [execOp,hop,hm,e1,e2,hrun,Result.andThen]
 show K (act.put o.dst undef) w'
 rw [ep]
 exact hK w' (by rw [<-hD];exact h1) (hb.grown h2 (Nat.le_of_lt hown.lt) (fun b hb=>by injection hb with hb;omega))
set_option maxRecDepth 100000 in
theorem look_wp {n:Nat} {D:DataW Unit} (m x:Operand) (a b:Int) (hop:o.op = .lookup 108 m x false) (hm:act.eval m = .map (some g)) (hx:act.eval x = .int .i64 a) (ha:(Lit.int .i64 a).wf=true)
 (hown:w.ownsMap Try.prog 3 (plainElem Try.prog 3) g n D) (hD:D.atKey (.int .i64 a) (ni 0)=ni b) (hK:K (act.put o.dst (.int .i64 b)) w):Oper.wp Try.prog o act w K Q:=by
 obtain ⟨c,hrun,hat,_⟩:=hown.lookup_int law_int Try.underlying108 Try.underlying3 (zero_int w) (keyOf_int_mk Try.underlying3 ha)
 have hc:c=b:=by
  have h:ni b=ni c:=hD.symm.trans hat
  injection h with h
  injection h with _ h
  exact h.symm
 subst hc
 unfold Oper.wp
 simp [execOp,hop,hm,hx,hrun,Result.andThen]
 exact hK
end
end Go.Proofs.Ytfdibjgmbdkbcaa
namespace Go.Proofs.Ytfdibjgmbdkbcaa
open Go.RowKit Go.Lib
def layTag (tag:Tag) (k:Nat) (us:List Value):Tag:=fun b=>match us.findIdx? (fun u=>decide (u.ownBlock=some b)) with
 | some j=>some (k,j+1)
 | none=>tag b
theorem layTag_old {tag:Tag} {k b:Nat} {us:List Value} (h:∀ u ∈ us,u.ownBlock≠some b):layTag tag k us b=tag b:=by
 unfold layTag
 rw [List.findIdx?_eq_none_iff.2 (fun u hu=>by simpa using h u hu)]
theorem layTag_new {tag:Tag} {k b j:Nat} {us:List Value} {u:Value} (hp:us.Pairwise (fun a b=>∀ k,a.ownBlock=some k->b.ownBlock≠some k)) (hj:us[j]? = some u) (hb:u.ownBlock=some b):layTag tag k us b=some (k,j+1):=by
 obtain ⟨hlt,hu⟩:=List.getElem?_eq_some_iff.1 hj
 have hfi:us.findIdx? (fun u=>decide (u.ownBlock=some b))=some j:=by
  rw [List.findIdx?_eq_some_iff_getElem]
  refine ⟨hlt,by rw [hu];simpa using hb,fun i hi=>?_⟩
  have:=List.pairwise_iff_getElem.1 hp i j (by omega) hlt hi
  simp only [decide_eq_true_eq]
  intro h
  exact this b h (by rw [hu];exact hb)
 unfold layTag
 rw [hfi]
theorem FltP.laid {w4 w6:World} {B gF k m:Nat} {tag:Tag} {f:Flt} {vs vb rv sv:Value} {us:List ShV} {ws:List Value} {root:Bs} {segs:List Seg} (hP:FltP w4 B gF tag f vs vb us ws) (hT:TagOk w4 B tag) (hB:B<=w4.heap.size) (hx:Below w4.heap.size w4 w6)
 (hr:OwnB w6 w4.heap.size rv root) (hm:w4.heap.size<=m) (hrm:∀ b,rv.ownBlock=some b->b<m) (hsg:OwnSegs w6 m sv segs) :
 ∃ tag',FltP w6 B gF tag' f vs vb us ws/\TagOk w6 B tag'/\Kept w4 w6 B tag tag'/\TB w6 B tag' none rv root/\TS w6 B tag' k sv segs:=by
 obtain ⟨ps,e1,e2,e3,e4⟩:=hsg
 have hps:∀ u ∈ ps,∀ b,u.ownBlock=some b->m<=b/\b<w6.heap.size/\∃ cur,w6.heap[b]? = some (.cells cur 5 (0,0)):=fun u hu b hb=>by
  obtain ⟨i,hi,hiu⟩:=List.getElem_of_mem hu
  have ho:=e3 i (segs[i]'(by omega)) u (List.getElem?_eq_getElem _) (by rw [List.getElem?_eq_getElem hi,hiu])
  exact ⟨(Own.lt ho b hb).1,(Own.lt ho b hb).2,(Own.type ho b hb).2⟩
 have hold:∀ b,b<m->layTag tag k ps b=tag b:=fun b hb=>layTag_old fun u hu e=>by have:=(hps u hu b e).1;omega
 have hold4:∀ b,b<w4.heap.size->layTag tag k ps b=tag b:=fun b hb=>hold b (by omega)
 refine ⟨layTag tag k ps,?_,⟨fun b hb=>?_,fun b hb=>?_⟩,⟨hx.mono hB,fun b hb h=>(hold4 b hb).trans h,fun b cs t hk _ _=>hk.below hx hk.lt⟩,⟨hr.mono hB,fun b hb=>?_⟩,ps,e1,e2.mono (by omega),fun b hb=>?_,fun j s p hs hp=>⟨(e3 j s p hs hp).mono (by omega),fun b hb=>layTag_new e4 hp hb⟩⟩
 · obtain ⟨h0,h1,h2,h3,h4,h5,h6,h7⟩:=hP.below hx
   obtain ⟨_,_,_,_,p4,_,_,p7⟩:=hP
   exact ⟨h0,h1,h2,h3,fun k s u hs hu=>((p4 k s u hs hu).retag hold4).below hx,h5,h6,fun i r v hr hv=>((p7 i r v hr hv).retag hold4).below hx⟩
 · rw [hold4 b (by omega)]
   exact hT.1 b hb
 · rw [layTag_old fun u hu e=>by have:=(hps u hu b e).2.1;omega]
   exact hT.2 b (by have:=hx.size;omega)
 · rw [hold b (hrm b hb)]
   exact hT.2 b (Own.lt hr b hb).1
 · have hlt:=Own.lt e2 b hb
   rw [layTag_old fun u hu e=>by
    obtain ⟨_,_,c1,h1⟩:=hps u hu b e
    obtain ⟨_,c2,h2⟩:=Own.type e2 b hb
    rw [h1] at h2
    injection h2 with h2
    injection h2 with _ h2
    exact absurd h2 (by decide)]
   exact hT.2 b (by omega)
end Go.Proofs.Ytfdibjgmbdkbcaa
