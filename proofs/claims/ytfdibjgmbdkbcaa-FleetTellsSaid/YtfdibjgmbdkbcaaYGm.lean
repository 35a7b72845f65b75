/-
  More words for memory, no program: an element of a row of the call's own is read and written. No conditions. append onto a row of the call's own: the old elements stay where they were. No conditions but Go's own room.
-/
import Derived.Test.YtfdibjgmbdkbcaaYGa
namespace Go.Proofs.Ytfdibjgmbdkbcaa
open Go.RowKit
theorem Own.at_ {w:World} {base:Nat} {e:TypeId} {n g off c:Nat} {xs:List Value} (h:Own w base e 1 (.slice (some ⟨g,off,none⟩) n c) n xs) {j:Nat} {u:Value} (hj:xs[j]? = some u) :
 w.cell? ⟨g,off+j,none⟩=some u/\w.frozen? ⟨g,off+j,none⟩=false:=by
 have hlt:j<n:=by
  have:=h.1
  rcases Nat.lt_or_ge j n with h | h
  · exact h
  · rw [List.getElem?_eq_none (by omega)] at hj;cases hj
 obtain ⟨g',off',cap,hv,_,_,_,_,hc⟩:=h.form (by omega)
 injection hv with e1 e2 e3
 injection e1 with e1
 injection e1 with e1 e4
 subst e1 e4
 refine ⟨hc j u hj,?_⟩
 obtain ⟨_,⟨h0,_⟩ | ⟨g2,off2,cap2,cur,hv2,_,hg,_⟩⟩:=h
 · cases h0
 · injection hv2 with e1 e2 e3
   injection e1 with e1
   injection e1 with e1 e4
   subst e1
   exact frozen_of_row w _ _ cur e hg
theorem set_window {α:Type} (L:List α) (off n j:Nat) (u:α):((L.set (off+j) u).drop off).take n=((L.drop off).take n).set j u:=by
 rw [List.drop_set,if_neg (by omega),Nat.add_sub_cancel_left,List.take_set]
theorem Own.set_ {w:World} {base:Nat} {e:TypeId} {n g off c:Nat} {xs:List Value} (h:Own w base e 1 (.slice (some ⟨g,off,none⟩) n c) n xs) (j:Nat) (u:Value) :
 Own (w.setCell ⟨g,off+j,none⟩ u) base e 1 (.slice (some ⟨g,off,none⟩) n c) n (xs.set j u):=by
 obtain ⟨hl,⟨h0,_⟩ | ⟨g2,off2,cap2,cur,hv2,hb,hg,hn,hm,hs,ht⟩⟩:=h
 · cases h0
 · injection hv2 with e1 e2 e3
   injection e1 with e1
   injection e1 with e1 e4
   subst e1 e3 e4
   refine ⟨by simpa using hl,.inr ⟨g,off,c,cur.setIfInBounds (off+j) u,rfl,hb,heap_setCell_same w g _ cur e u hg,hn,hm,by simpa using hs,?_⟩⟩
   rw [Array.toList_setIfInBounds,set_window,ht]
end Go.Proofs.Ytfdibjgmbdkbcaa
namespace Go.Proofs.Ytfdibjgmbdkbcaa
open Go.RowKit
section
variable {P:Program} (w:World)
theorem run_append_keeps (base:Nat) (t ty e:TypeId) (i:TypeInfo) (z:Value) (size bytes:Nat) (ht:P.underlying t=some (.slice e)) (hi:P.info? e=some i) (hz:i.zero=some z)
 (hsize:i.size=size) (hby:i.bytes=bytes) (hzs:z.cells.size=size)
 (v:Value) (n:Nat) (xs:List Value) (hown:Own w base e size v n xs)
 (F:Nat->Prop) (u:Value) (m:Nat) (news:List Value) (hr:SlAt w F size u m news) (h1:∀ u ∈ news,u.oneCell'=true)
 (h63:n+m<=maxLen) (hbytes:(n+m)*bytes<=140737488355328) {v':Value} {w':World} (hrun:(Builtin.append_ #[t,t] ty #[v,u]).run P w = .ok v' w') :
 ∀ g off cap,v = .slice (some ⟨g,off,none⟩) n cap->∀ j x,xs[j]? = some x->w'.cell? ⟨g,off+j,none⟩=some x:=by
 obtain ⟨A,c,rfl,hmc,hcm,hl,hcells⟩:=hr
 intro g off cap hv j x hx
 subst hv
 obtain ⟨hxl,⟨h0,_⟩ | ⟨g2,off2,cap2,cur,hv,hbg,hg,hnc,hcap,hcs,htake⟩⟩:=hown
 · cases h0
 injection hv with e1 e2 e3
 injection e1 with e1
 injection e1 with e1 e4
 subst e1 e3 e4
 have hcell:∀ j,w.cell? ⟨g,j,none⟩=cur.toList[j]?:=fun j=>by rw [cell_of_row w g j cur e (0,0) hg,Array.getElem?_toList]
 have hj:j<n*size:=by
  rcases Nat.lt_or_ge j (n*size) with h | h
  · exact h
  · rw [List.getElem?_eq_none (by omega)] at hx;cases hx
 have hold:∀ j u,xs[j]? = some u->w.cell? ⟨g,off+j,none⟩=some u:=by
  intro j u hu
  rw [hcell]
  rw [<-htake] at hu
  have hj:j<n*size:=by
   rcases Nat.lt_or_ge j (n*size) with h | h
   · exact h
   · rw [List.getElem?_eq_none (by rw [List.length_take];omega)] at hu;cases hu
  rw [List.getElem?_take_of_lt hj,List.getElem?_drop] at hu
  exact hu
 rcases Nat.eq_zero_or_pos m with hm | hm
 · subst hm
   rw [run_append_none w t ty e i ht hi _ A n cap c hnc] at hrun
   injection hrun with _ hw
   rw [<-hw]
   exact hold j x hx
 · obtain ⟨b,o,rfl,_,_,hc⟩:=hcells hm
   have hnews:∀ j u,news[j]? = some u->w.cell? ((⟨b,o,none⟩:Addr).add j)=some u:=by
    intro j u hu
    rw [Addr.add_lit]
    exact hc j u hu
   by_cases hroom:n+m<=cap
   · have hfit:off+n*size+news.length<=cur.size:=by
      have:(n+m)*size<=cap*size:=Nat.mul_le_mul_right _ hroom
      rw [hl];rw [Nat.add_mul] at this;omega
     have hrun2:=run_append_room_cells (P:=P) w t ty e i ht hi g off n cap ⟨b,o,none⟩ m c news (by rw [hsize];exact hl) hnews h1 hroom
      (fun j hj=>by rw [hsize,hcell,List.getElem?_eq_getElem (by simp;omega)];rfl)
      (fun j hj=>frozen_of_row w g _ cur e hg)
     rw [hrun2,hsize] at hrun
     injection hrun with _ hw
     obtain ⟨cur',hg',hs',ht'⟩:=setCells_heap g e news (off+n*size) w cur hg hfit
     rw [<-hw,cell_of_row _ g (off+j) cur' e (0,0) hg',<-Array.getElem?_toList,ht',List.append_assoc,List.getElem?_append_left (by rw [List.length_take,Array.length_toList];omega),List.getElem?_take_of_lt (by omega),<-hcell]
     exact hold j x hx
   · have holds:∀ j u,xs[j]? = some u->w.cell? ((⟨g,off,none⟩:Addr).add j)=some u:=fun j u hu=>by rw [Addr.add_lit];exact hold j u hu
     subst hsize
     subst hby
     have hrun2:=run_append_grow (P:=P) w t ty e i z ht hi hz ⟨g,off,none⟩ n cap xs hxl holds ⟨b,o,none⟩ m c news hl hnews (by omega) (by simp only [maxLen] at h63;omega) (growslice_fits (by omega) hbytes)
     rw [hrun2] at hrun
     injection hrun with _ hw
     have hlt:g<w.heap.size:=by
      rcases Nat.lt_or_ge g w.heap.size with h | h
      · exact h
      · rw [Array.getElem?_eq_none h] at hg;cases hg
     rw [<-hw,World.cell?_of_block (w:=w) (w':=_) (a:=⟨g,off+j,none⟩) (heap_alloc_old w.drew _ g hlt)]
     exact hold j x hx
theorem wp_append_OwnK {o:Oper} {a:Act} {K:Act->World->Prop} {Q:Exit->Act->World->Prop} (s x:Operand) (t:TypeId)
 (ho:o.op = .call { callee:=.builtin .append,args:=#[s,x],argTypes:=#[t,t] })
 (base:Nat) (e:TypeId) (i:TypeInfo) (z:Value) (size bytes:Nat) (ht:P.underlying t=some (.slice e)) (hi:P.info? e=some i) (hz:i.zero=some z)
 (hsize:i.size=size) (hby:i.bytes=bytes) (hzs:z.cells.size=size) (hsz:0<size)
 (v:Value) (n:Nat) (xs:List Value) (hs:a.eval s=v) (hown:Own w base e size v n xs)
 (F:Nat->Prop) (u:Value) (m:Nat) (news:List Value) (hx:a.eval x=u) (hr:SlAt w F size u m news) (h1:∀ u ∈ news,u.oneCell'=true)
 (h63:n+m<=maxLen) (hbytes:(n+m)*bytes<=140737488355328) (hbase:base<=w.heap.size)
 (h:∀ v' w',Own w' base e size v' (n+m) (xs++news)->w.grownBy w' v.ownBlock->(v'.ownBlock=v.ownBlock\/v'.ownBlock=some w.heap.size) →
   (∀ g off cap,v = .slice (some ⟨g,off,none⟩) n cap->∀ j x,xs[j]? = some x->w'.cell? ⟨g,off+j,none⟩=some x)->K (a.put o.dst v') w'):o.wp P a w K Q:=by
 obtain ⟨v',w',hrun,h2,h3,h4⟩:=run_append_Own (P:=P) w base t o.type e i z size bytes ht hi hz hsize hby hzs hsz v n xs hown F u m news hr h1 h63 hbytes hbase
 have h5:=run_append_keeps (P:=P) w base t o.type e i z size bytes ht hi hz hsize hby hzs v n xs hown F u m news hr h1 h63 hbytes hrun
 unfold Oper.wp execOp
 simp only [ho,resolve,invoke,builtin,Sem.run_bind,Sem.run_pure,Result.andThen_ok,List.map_toArray,List.map_cons,List.map_nil,hs,hx,hrun]
 exact h v' w' h2 h3 h4 h5
end
end Go.Proofs.Ytfdibjgmbdkbcaa
