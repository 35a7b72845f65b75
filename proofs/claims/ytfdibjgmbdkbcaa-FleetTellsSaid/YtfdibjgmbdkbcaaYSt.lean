/-
  A region that draws its order, gone through by hand: what yields is taken first, and what is not wanted; a call that comes up alone. No conditions. A region that draws its order: four operations that write, each at any time. No conditions. A region that draws its order, gone through by an invariant: what holds in each state, and that each operation that may come up leads from state to state. No conditions. A region that draws its order, gone through by an invariant: when nothing is left, all is listed. No conditions.
-/
import Derived.Deep.RegionHeld3
import Derived.Deep.DrawnRows
namespace Go.Proofs.Ytfdibjgmbdkbcaa
section
variable {P:Program} {l:List Oper} {Q:Exit->Act->World->Prop} {md:Region.Mode} {S:World->Prop} {i:Nat} {oi:Oper} {v:Value} {fuel:Nat} {listed:Array Bool} {a:Act} {w:World}
theorem step_take (hi:l[i]? = some oi) (hs:Region.noSelect l.toArray=true) (hf:Region.free md l.toArray listed i=true) (hr:(Region.ready md l.toArray listed).contains i=true)
 (hQ:∀ c a w,Q (.panic c) (a.put oi.dst v) w->Q (.panic c) a w) (hw:Region.wanted oi (yielded l.toArray a.tmps)=true) (hy:∀ w,S w->(execOp a.eval oi).run P w = .ok (.value v) w) (hS:S w)
 (h:wpAnyH P md l.toArray Q S fuel (listed.setIfInBounds i true) (a.put oi.dst v) w):wpAnyH P md l.toArray Q S (fuel+1) listed a w :=
 wpAnyH_take (by simpa using hi) hs hf hr hQ (.inl ⟨hw,hy⟩) hS h
theorem step_skip (hi:l[i]? = some oi) (hs:Region.noSelect l.toArray=true) (hf:Region.free md l.toArray listed i=true) (hr:(Region.ready md l.toArray listed).contains i=true)
 (hQ:∀ c a w,Q (.panic c) (a.put oi.dst undef) w->Q (.panic c) a w) (hw:Region.wanted oi (yielded l.toArray a.tmps)=false) (hS:S w)
 (h:wpAnyH P md l.toArray Q S fuel (listed.setIfInBounds i true) (a.put oi.dst undef) w):wpAnyH P md l.toArray Q S (fuel+1) listed a w :=
 wpAnyH_take (by simpa using hi) hs hf hr hQ (.inr ⟨hw,rfl⟩) hS h
theorem step_alone (i:Nat) (hi:l[i]? = some oi) (hr:Region.ready md l.toArray listed=[i]) (hw:Region.wanted oi (yielded l.toArray a.tmps)=true)
 (h:∀ K':Act->World->Prop,Shut (∀ a w,S w->(S w->wpAnyH P md l.toArray Q S fuel (listed.setIfInBounds i true) a w)->K' a w)->Oper.wp P oi a w K' Q):wpAnyH P md l.toArray Q S (fuel+1) listed a w :=
 wpAnyH_ready hr (by simp) (AllReadyH.cons (by simpa using hi) (fun K hK=>by rw [if_pos hw];exact h K hK) AllReadyH.nil)
theorem step_two (i j:Nat) {oj:Oper} (hi:l[i]? = some oi) (hj:l[j]? = some oj) (hr:Region.ready md l.toArray listed=[i,j]) (hw:Region.wanted oi (yielded l.toArray a.tmps)=true) (hw':Region.wanted oj (yielded l.toArray a.tmps)=true)
 (h:∀ K':Act->World->Prop,Shut (∀ a w,S w->(S w->wpAnyH P md l.toArray Q S fuel (listed.setIfInBounds i true) a w)->K' a w)->Oper.wp P oi a w K' Q)
 (h':∀ K':Act->World->Prop,Shut (∀ a w,S w->(S w->wpAnyH P md l.toArray Q S fuel (listed.setIfInBounds j true) a w)->K' a w)->Oper.wp P oj a w K' Q):wpAnyH P md l.toArray Q S (fuel+1) listed a w :=
 wpAnyH_ready hr (by simp) (AllReadyH.cons (by simpa using hi) (fun K hK=>by rw [if_pos hw];exact h K hK) (AllReadyH.cons (by simpa using hj) (fun K hK=>by rw [if_pos hw'];exact h' K hK) AllReadyH.nil))
end
structure Firsts (P:Program) (ops:Array Oper) (S:World->Prop) (o:Oper) (v:Value) (Y:Act->Prop):Prop where
 same:∀ a a':Act,Y a->execOp a'.eval o=execOp a.eval o->Region.wanted o (yielded ops a'.tmps)=Region.wanted o (yielded ops a.tmps)->Y a'
 step:∀ (Q:Exit->Act->World->Prop) (i:Nat),ops[i]? = some o->∀ (a:Act) (w:World) (K:Act->World->Prop),Y a->S w->K (a.put o.dst v) w->wpOp P ops Q i K a w
section
variable {P:Program} {ops:Array Oper} {Q:Exit->Act->World->Prop} {md:Region.Mode} {S:World->Prop} {Y:Act->Prop} {i:Nat} {oi:Oper} {v:Value}
theorem Firsts.past (hF:Firsts P ops S oi v Y) {j:Nat} {oj:Oper} (hj:ops[j]? = some oj) (hap:oi.apart ops oj=true) (hsi:∀ cs b,oi.op≠.select cs b) (hsj:∀ cs b,oj.op≠.select cs b)
 (hQ:∀ c a w,Q (.panic c) (a.put oi.dst v) w->Q (.panic c) a w) {K:Act->World->Prop} {a:Act} {w:World} (hy:Y a) (h:wpOp P ops Q j K (a.put oi.dst v) w) :
 wpOp P ops Q j (fun a' w'=>Y a'/\K (a'.put oi.dst v) w') a w:=by
 obtain ⟨h1,h2,h3⟩:=Oper.apart_spec hap
 have hput:∀ (b:Act) (u:Value),Y b->Y (b.put oj.dst u):=fun b u hb=>hF.same b _ hb (execOp_put oi hsi b oj.dst u h3) (wanted_put oi b oj.dst u h3)
 unfold wpOp at h ⊢
 simp only [hj] at h ⊢
 rw [wanted_put oj a oi.dst v h1] at h
 by_cases hw:Region.wanted oj (yielded ops a.tmps)=true
 · simp only [hw,if_true] at h ⊢
   rcases h with h | ⟨hk,hl⟩
   · refine .inl ?_
     unfold Oper.wp at h ⊢
     rw [execOp_put oj hsj a oi.dst v h1] at h
     cases hr:(execOp a.eval oj).run P w with
     | ok n w' =>
       rw [hr] at h
       cases n<;>simp only [Oper.upon] at h ⊢
       case value u=>exact ⟨hput a u hy,by rw [<-Act.put_comm a v u h2];exact h⟩
       case skip=>exact ⟨hput a _ hy,by rw [<-Act.put_comm a v undef h2];exact h⟩
       case defer d =>
        refine ⟨hput _ _ (hF.same a { a with defers:=d::a.defers } hy rfl rfl),?_⟩
        rw [<-Act.put_comm _ v undef h2,<-Act.put_defers]
        exact h
       case enter f args =>
        refine Calls.mono h fun e w'' he=>?_
        cases e with
        | returned u=>exact ⟨hput a u hy,by rw [<-Act.put_comm a v u h2];exact he⟩
        | panicked c=>exact hQ _ _ _ he
        | outgrown=>exact he
       case row row args=>exact Rows.mono h fun u w'' he=>⟨hput a u hy,by rw [<-Act.put_comm a v u h2];exact he⟩
     | halt x w' =>
       rw [hr] at h
       cases x<;>simp only [Oper.upon] at h ⊢
       case panic u=>exact hQ _ _ _ h
   · refine .inr ⟨?_,hl⟩
     unfold Oper.asks at hk ⊢
     rw [execOp_put oj hsj a oi.dst v h1] at hk
     exact hk
 · simp only [hw] at h ⊢
   exact ⟨hput a _ hy,by rw [<-Act.put_comm a v undef h2];exact h⟩
theorem Firsts.first (hF:Firsts P ops S oi v Y) (hi:ops[i]? = some oi) (hsel:∀ (j:Nat) (o:Oper) cs b,ops[j]? = some o->o.op≠.select cs b)
 (hQ:∀ c a w,Q (.panic c) (a.put oi.dst v) w->Q (.panic c) a w) :
 ∀ (fuel:Nat) (listed:Array Bool) (a:Act) (w:World),
  (∀ j oj,ops[j]? = some oj->j≠i->listed.getD j true=false->(∀ e ∈ oj.after,Region.binds md e=true->e.on≠i)->oi.apart ops oj=true) →
  i ∈ Region.ready md ops listed->Y a->S w →
  wpAnyH P md ops Q S fuel (listed.setIfInBounds i true) (a.put oi.dst v) w->wpAnyH P md ops Q S (fuel+1) listed a w:=by
 intro fuel
 induction fuel with
 | zero =>
   intro listed a w _ hr hy hS H
   refine ⟨fun h=>(by rw [h] at hr;cases hr),fun j hj=>?_⟩
   by_cases hji:j=i
   · subst hji;exact hF.step Q j hi a w _ hy hS ⟨hS,H⟩
   · have hm:=ready_mono hj hji
     rw [H.1] at hm
     cases hm
 | succ fuel ih =>
   intro listed a w hfree hr hy hS H
   refine ⟨fun h=>(by rw [h] at hr;cases hr),fun j hj=>?_⟩
   by_cases hji:j=i
   · subst hji;exact hF.step Q j hi a w _ hy hS ⟨hS,H⟩
   · have g1:=H.2 j (ready_mono hj hji)
     obtain ⟨hjun,oj,hoj,hall⟩:=mem_ready.1 hj
     have hnot:∀ e ∈ oj.after,Region.binds md e=true->e.on≠i:=fun e he hb heq=>by
      have q1:=hall e he hb
      have q0:=(mem_ready.1 hr).1
      rw [heq] at q1
      rcases Nat.lt_or_ge i listed.size with h' | h'
      · simp [h'] at q0 q1;rw [q0] at q1;cases q1
      · simp [Array.getElem?_eq_none h'] at q1
     have g2:=hF.past hoj (hfree j oj hoj hji hjun hnot) (fun cs b=>hsel i oi cs b hi) (fun cs b=>hsel j oj cs b hoj) hQ hy g1
     have hfree':∀ k ok,ops[k]? = some ok->k≠i->(listed.setIfInBounds j true).getD k true=false →
      (∀ e ∈ ok.after,Region.binds md e=true->e.on≠i)->oi.apart ops ok=true:=fun k ok hk hki hun hno=>by
      refine hfree k ok hk hki ?_ hno
      by_cases hjk:j=k
      · subst hjk;exact hjun
      · rw [getD_set_ne true hjk] at hun;exact hun
     refine wpOp_mono (fun a' w' g3=>⟨g3.2.1,ih (listed.setIfInBounds j true) a' w' hfree' (ready_mono hr (Ne.symm hji)) g3.1 g3.2.1 ?_⟩) g2
     rw [Array.setIfInBounds_comm _ _ hji]
     exact g3.2.2
end
section
variable {P:Program} {l:List Oper} {Q:Exit->Act->World->Prop} {md:Region.Mode} {S:World->Prop} {i:Nat} {oi:Oper} {v:Value} {fuel:Nat} {listed:Array Bool} {a:Act} {w:World}
end
end Go.Proofs.Ytfdibjgmbdkbcaa
namespace Go.Proofs.Ytfdibjgmbdkbcaa
section
variable {P:Program} {l:List Oper} {Q:Exit->Act->World->Prop} {md:Region.Mode} {S:World->Prop} {oi:Oper} {v:Value} {fuel:Nat} {listed l':Array Bool} {a a':Act} {w:World}
theorem step_tk (i:Nat) (hi:l[i]? = some oi:=by rfl) (hs:Region.noSelect l.toArray=true:=by kernel_rfl) (hf:Region.free md l.toArray listed i=true:=by kernel_rfl) (hr:(Region.ready md l.toArray listed).contains i=true:=by kernel_rfl)
 (hQ:∀ c a w,Q (.panic c) (a.put oi.dst v) w->Q (.panic c) a w:=by exact fun _ _ _ h=>h) (hw:Region.wanted oi (yielded l.toArray a.tmps)=true:=by rfl) (hy:∀ w,S w->(execOp a.eval oi).run P w = .ok (.value v) w:=by (intro w hSw;(try dsimp only at hSw);go_simp;(try with_reducible rfl)))
 (hS:S w:=by assumption) (hl:listed.setIfInBounds i true=l':=by ((try simp only [List.setIfInBounds_toArray,List.set_cons_zero,List.set_cons_succ]);(try rfl))) (ha:a.put oi.dst v=a':=by ((try simp only [Act.put,List.setIfInBounds_toArray,List.set_cons_zero,List.set_cons_succ]);(try rfl)))
 (h:wpAnyH P md l.toArray Q S fuel l' a' w):wpAnyH P md l.toArray Q S (fuel+1) listed a w:=by
 subst hl ha
 exact step_take hi hs hf hr hQ hw hy hS h
theorem step_sk (i:Nat) (hi:l[i]? = some oi:=by rfl) (hs:Region.noSelect l.toArray=true:=by kernel_rfl) (hf:Region.free md l.toArray listed i=true:=by kernel_rfl) (hr:(Region.ready md l.toArray listed).contains i=true:=by kernel_rfl)
 (hQ:∀ c a w,Q (.panic c) (a.put oi.dst undef) w->Q (.panic c) a w:=by exact fun _ _ _ h=>h) (hw:Region.wanted oi (yielded l.toArray a.tmps)=false:=by rfl)
 (hS:S w:=by assumption) (hl:listed.setIfInBounds i true=l':=by ((try simp only [List.setIfInBounds_toArray,List.set_cons_zero,List.set_cons_succ]);(try rfl))) (ha:a.put oi.dst undef=a':=by ((try simp only [Act.put,List.setIfInBounds_toArray,List.set_cons_zero,List.set_cons_succ]);(try rfl)))
 (h:wpAnyH P md l.toArray Q S fuel l' a' w):wpAnyH P md l.toArray Q S (fuel+1) listed a w:=by
 subst hl ha
 exact step_skip hi hs hf hr hQ hw hS h
end
end Go.Proofs.Ytfdibjgmbdkbcaa
namespace Go.Proofs.Ytfdibjgmbdkbcaa
section
variable {P:Program} {l:List Oper} {Q:Exit->Act->World->Prop} {md:Region.Mode} {S:World->Prop} {act:Act} {fuel:Nat}
theorem step_four (i1 i2 i3 i4:Nat) {o1 o2 o3 o4:Oper} (L:Bool->Bool->Bool->Bool->Array Bool) (T:Bool->Bool->Bool->Bool->World->Prop)
 (e1:l[i1]? = some o1) (e2:l[i2]? = some o2) (e3:l[i3]? = some o3) (e4:l[i4]? = some o4)
 (s1:∀ b c d,(L false b c d).setIfInBounds i1 true=L true b c d) (s2:∀ a c d,(L a false c d).setIfInBounds i2 true=L a true c d)
 (s3:∀ a b d,(L a b false d).setIfInBounds i3 true=L a b true d) (s4:∀ a b c,(L a b c false).setIfInBounds i4 true=L a b c true)
 (hr:∀ a b c d,(a&&b&&c&&d)=false->Region.ready md l.toArray (L a b c d)=(if a then [] else [i1])++((if b then [] else [i2])++((if c then [] else [i3])++(if d then [] else [i4]))))
 (w1:Region.wanted o1 (yielded l.toArray act.tmps)=true) (w2:Region.wanted o2 (yielded l.toArray act.tmps)=true) (w3:Region.wanted o3 (yielded l.toArray act.tmps)=true) (w4:Region.wanted o4 (yielded l.toArray act.tmps)=true)
 (r1:∀ b c d w (K:Act->World->Prop),T false b c d w->(∀ w',T true b c d w'->K act w')->Oper.wp P o1 act w K Q)
 (r2:∀ a c d w (K:Act->World->Prop),T a false c d w->(∀ w',T a true c d w'->K act w')->Oper.wp P o2 act w K Q)
 (r3:∀ a b d w (K:Act->World->Prop),T a b false d w->(∀ w',T a b true d w'->K act w')->Oper.wp P o3 act w K Q)
 (r4:∀ a b c w (K:Act->World->Prop),T a b c false w->(∀ w',T a b c true w'->K act w')->Oper.wp P o4 act w K Q)
 (hS:∀ a b c d w,T a b c d w->S w) {w:World} (h0:T false false false false w)
 (hend:∀ w,T true true true true w->wpAnyH P md l.toArray Q S fuel (L true true true true) act w) :
 wpAnyH P md l.toArray Q S (fuel+4) (L false false false false) act w:=by
 have key:∀ (n:Nat) (a b c d:Bool),((!a).toNat+(!b).toNat+(!c).toNat+(!d).toNat)=n->∀ w,T a b c d w->wpAnyH P md l.toArray Q S (fuel+n) (L a b c d) act w:=by
  intro n
  induction n with
  | zero =>
    intro a b c d hn w hT
    cases a<;>cases b<;>cases c<;>cases d<;>simp at hn
    exact hend w hT
  | succ n ih =>
    intro a b c d hn w hT
    have hf:(a&&b&&c&&d)=false:=by cases a<;>cases b<;>cases c<;>cases d<;>first | rfl | (simp at hn)
    refine wpAnyH_ready (fuel:=fuel+n) (hr a b c d hf) (by cases a<;>cases b<;>cases c<;>cases d<;>first | (simp;done) | cases hf) ?_
    intro i hi
    rw [List.mem_append,List.mem_append,List.mem_append] at hi
    rcases hi with hi | hi | hi | hi
    · cases a<;>simp at hi
      subst hi
      unfold wpOp
      rw [show l.toArray[i]? = some o1 by simpa using e1]
      simp only [w1,if_true]
      exact .inl (r1 b c d w _ hT fun w' hT'=>⟨hS _ _ _ _ _ hT',by rw [s1];exact ih _ _ _ _ (by simp at hn ⊢;omega) w' hT'⟩)
    · cases b<;>simp at hi
      subst hi
      unfold wpOp
      rw [show l.toArray[i]? = some o2 by simpa using e2]
      simp only [w2,if_true]
      exact .inl (r2 a c d w _ hT fun w' hT'=>⟨hS _ _ _ _ _ hT',by rw [s2];exact ih _ _ _ _ (by simp at hn ⊢;omega) w' hT'⟩)
    · cases c<;>simp at hi
      subst hi
      unfold wpOp
      rw [show l.toArray[i]? = some o3 by simpa using e3]
      simp only [w3,if_true]
      exact .inl (r3 a b d w _ hT fun w' hT'=>⟨hS _ _ _ _ _ hT',by rw [s3];exact ih _ _ _ _ (by simp at hn ⊢;omega) w' hT'⟩)
    · cases d<;>simp at hi
      subst hi
      unfold wpOp
      rw [show l.toArray[i]? = some o4 by simpa using e4]
      simp only [w4,if_true]
      exact .inl (r4 a b c w _ hT fun w' hT'=>⟨hS _ _ _ _ _ hT',by rw [s4];exact ih _ _ _ _ (by simp at hn ⊢;omega) w' hT'⟩)
 exact key 4 false false false false rfl w h0
end
end Go.Proofs.Ytfdibjgmbdkbcaa
namespace Go.Proofs.Ytfdibjgmbdkbcaa
section
variable {P:Program} {ops:Array Oper} {Q:Exit->Act->World->Prop} {md:Region.Mode} {S:World->Prop}
def unl (ops:Array Oper) (l:Array Bool):Nat:=(List.range ops.size).countP fun i=>!l.getD i true
theorem unl_pos {l:Array Bool} {i:Nat} (hi:i<ops.size) (h:l.getD i true=false):0<unl ops l :=
 List.countP_pos_iff.2 ⟨i,List.mem_range.2 hi,by rw [h];rfl⟩
theorem unl_set {l:Array Bool} {i:Nat} (hi:i<ops.size) (h:l.getD i true=false):unl ops (l.setIfInBounds i true)<unl ops l:=by
 unfold unl
 have hl:i<l.size:=by
  rcases Nat.lt_or_ge i l.size with h1 | h1
  · exact h1
  · simp [Array.getD,Nat.not_lt.2 h1] at h
 have key:∀ ks:List Nat,(∀ k ∈ ks,k≠i\/k=i)->(ks.countP fun k=>!(l.setIfInBounds i true).getD k true)+(if i ∈ ks then 1 else 0)<=ks.countP fun k=>!l.getD k true:=by
  intro ks _
  induction ks with
  | nil=>simp
  | cons k ks ih =>
    have ih:=ih (fun k _=>by by_cases e:k=i;exact .inr e;exact .inl e)
    by_cases e:k=i
    · subst e
      have e1:(l.setIfInBounds k true).getD k true=true:=by simp [Array.getD,hl]
      rw [List.countP_cons,List.countP_cons,e1,h]
      have h1:(if k ∈ ks then 1 else 0)<=1:=by split<;>omega
      rw [if_pos (List.mem_cons_self ..)]
      simp only [Bool.not_true,Bool.not_false,if_true,Bool.false_eq_true,if_false,Nat.add_zero]
      omega
    · have e1:(l.setIfInBounds i true).getD k true=l.getD k true:=getD_set_ne true (Ne.symm e)
      rw [List.countP_cons,List.countP_cons,e1]
      have e2:(if i ∈ k::ks then 1 else 0)=if i ∈ ks then 1 else 0:=by simp [Ne.symm e]
      rw [e2]
      omega
 have h1:=key (List.range ops.size) (fun k _=>by by_cases e:k=i;exact .inr e;exact .inl e)
 rw [if_pos (List.mem_range.2 hi)] at h1
 omega
theorem ready_lt {l:Array Bool} {i:Nat} (h:i ∈ Region.ready md ops l):i<ops.size/\l.getD i true=false:=by
 obtain ⟨h1,o,ho,_⟩:=mem_ready.1 h
 exact ⟨(Array.getElem?_eq_some_iff.1 ho).1,h1⟩
theorem wpAnyH_inv (T:Array Bool->Act->World->Prop) (hS:∀ l a w,T l a w->S w)
 (hstep:∀ l a w i,T l a w->i ∈ Region.ready md ops l->wpOp P ops Q i (fun a' w'=>T (l.setIfInBounds i true) a' w') a w)
 (hend:∀ l a w,T l a w->Region.ready md ops l=[]->Q .normal a w) :
 ∀ (fuel:Nat) (l:Array Bool) (a:Act) (w:World),T l a w->unl ops l<=fuel->wpAnyH P md ops Q S fuel l a w:=by
 intro fuel
 induction fuel with
 | zero =>
   intro l a w hT hu
   have hr:Region.ready md ops l=[]:=by
    cases hh:Region.ready md ops l with
    | nil=>rfl
    | cons i rs =>
      obtain ⟨h1,h2⟩:=ready_lt (md:=md) (ops:=ops) (l:=l) (i:=i) (by rw [hh];exact List.mem_cons_self ..)
      have:=unl_pos h1 h2
      omega
   exact ⟨hr,hend l a w hT hr⟩
 | succ fuel ih =>
   intro l a w hT hu
   refine ⟨fun hr=>hend l a w hT hr,fun i hi=>?_⟩
   obtain ⟨h1,h2⟩:=ready_lt hi
   have h3:=unl_set h1 h2
   exact wpOp_mono (fun a' w' hT'=>⟨hS _ _ _ hT',ih _ a' w' hT' (by omega)⟩) (hstep l a w i hT hi)
end
end Go.Proofs.Ytfdibjgmbdkbcaa
namespace Go.Proofs.Ytfdibjgmbdkbcaa
section
variable {P:Program} {ops:Array Oper} {Q:Exit->Act->World->Prop} {md:Region.Mode} {S:World->Prop}
def elderB (md:Region.Mode) (ops:Array Oper):Bool :=
 (List.range ops.size).all fun i=>match ops[i]? with
   | some o=>o.after.all fun e=>!Region.binds md e||decide (e.on<i)
   | none=>true
theorem all_listed (he:elderB md ops=true) {l:Array Bool} (hr:Region.ready md ops l=[]):∀ i,i<ops.size->l.getD i true=true:=by
 intro i
 induction i using Nat.strongRecOn with
 | ind i ih =>
   intro hi
   cases hl:l.getD i true with
   | true=>rfl
   | false =>
     obtain ⟨o,ho⟩:∃ o,ops[i]? = some o:=⟨_,Array.getElem?_eq_getElem hi⟩
     have h1:=(List.all_eq_true.1 he) i (List.mem_range.2 hi)
     rw [ho] at h1
     simp only at h1
     have hm:i ∈ Region.ready md ops l:=by
      refine mem_ready.2 ⟨hl,o,ho,fun e hem hb=>?_⟩
      have h2:=Array.all_eq_true_iff_forall_mem.1 h1 e hem
      simp only [hb,Bool.not_true,Bool.false_or,decide_eq_true_eq] at h2
      have h3:=ih e.on h2 (Nat.lt_trans h2 hi)
      have hil:i<l.size:=by
       rcases Nat.lt_or_ge i l.size with h | h
       · exact h
       · simp [Array.getD,Nat.not_lt.2 h] at hl
      have h4:e.on<l.size:=Nat.lt_trans h2 hil
      simp only [Array.getD,h4,dif_pos] at h3 ⊢
      exact h3
     rw [hr] at hm
     cases hm
theorem wpAnyH_all (he:elderB md ops=true) (T:Array Bool->Act->World->Prop) (hS:∀ l a w,T l a w->S w)
 (hstep:∀ l a w i,T l a w->i ∈ Region.ready md ops l->wpOp P ops Q i (fun a' w'=>T (l.setIfInBounds i true) a' w') a w)
 (hend:∀ l a w,T l a w->(∀ i,i<ops.size->l.getD i true=true)->Q .normal a w)
 (fuel:Nat) (l:Array Bool) (a:Act) (w:World) (hT:T l a w) (hu:unl ops l<=fuel):wpAnyH P md ops Q S fuel l a w :=
 wpAnyH_inv T hS hstep (fun l a w hT hr=>hend l a w hT (all_listed he hr)) fuel l a w hT hu
theorem duty {T':Act->World->Prop} {a:Act} {w:World} {i:Nat} {o:Oper} (hi:ops[i]? = some o) (hw:Region.wanted o (yielded ops a.tmps)=true)
 (h:∀ K:Act->World->Prop,(∀ a' w',T' a' w'->K a' w')->Oper.wp P o a w K Q):wpOp P ops Q i T' a w:=by
 unfold wpOp
 simp only [hi,hw,if_true]
 exact .inl (h _ fun _ _ h=>h)
theorem ready_flags {l:Array Bool} {i:Nat} {o:Oper} (h:i ∈ Region.ready md ops l) (ho:ops[i]? = some o):l.getD i true=false/\∀ e ∈ o.after,Region.binds md e=true->l.getD e.on false=true:=by
 obtain ⟨h1,o',ho',h2⟩:=mem_ready.1 h
 rw [ho] at ho'
 injection ho' with ho'
 subst ho'
 exact ⟨h1,h2⟩
end
end Go.Proofs.Ytfdibjgmbdkbcaa
