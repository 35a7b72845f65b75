/-
  From the form's readings to the walks' words, for data of every shape. No conditions. What comes in: windows, what is done, and what is shown. No conditions.
-/
import Derived.Test.YtfdibjgmbdkbcaaYRepr
import Derived.Test.YtfdibjgmbdkbcaaYBook
import Derived.Test.YtfdibjgmbdkbcaaYFrame
import Derived.Test.YtfdibjgmbdkbcaaYGp
namespace Go.Proofs.Ytfdibjgmbdkbcaa
open Go.ChangeShapes Go.WideShapes Go.ChangeAt Go.RowKit Go.Deep
structure OpensF (P:Program) (fs:List Field) (off:Nat) (α:Type) [Rp α]:Prop where
 go:∀ {H:Type} {enc:TypeId × Value->H} {w:World} {base:Nat} {spare:Nat->Bool} {held:Bool} {cs:List Value},cs.length=off+Rp.sz α →
  (∀ f ∈ fs,∃ n y,DataW.trod enc P w base spare held n f.type ((cs.drop f.offset).take (P.cellsOf f.type))=some y)->∃ a:α,Rp.rd w (fun _=>True) (cs.drop off) a
theorem opensF_one {P:Program} {f:Field} {off:Nat} {α:Type} [Rp α] (hf:f.offset=off) (ho:Opens P f.type α):OpensF P [f] off α:=⟨fun {H enc w base spare held cs} hl h=>by
 obtain ⟨n,y,hy⟩:=h f (List.mem_singleton.2 rfl)
 obtain ⟨a,ha⟩:=ho.2 hy
 rw [hf,ho.1,List.take_of_length_le (by rw [List.length_drop];omega)] at ha
 exact ⟨a,ha⟩⟩
theorem opensF_cons {P:Program} {f:Field} {fs:List Field} {off:Nat} {α β:Type} [Rp α] [Rp β] (hf:f.offset=off) (ho:Opens P f.type α) (hs:OpensF P fs (off+Rp.sz α) β):OpensF P (f::fs) off (α × β):=⟨fun {H enc w base spare held cs} hl h=>by
 have hl':cs.length=off+(Rp.sz α+Rp.sz β):=hl
 obtain ⟨n,y,hy⟩:=h f (List.mem_cons_self ..)
 obtain ⟨a,ha⟩:=ho.2 hy
 rw [hf,ho.1] at ha
 obtain ⟨b,hb⟩:=hs.go (cs:=cs) (by omega) (fun g hg=>h g (List.mem_cons_of_mem _ hg))
 refine ⟨(a,b),(cs.drop off).take (Rp.sz α),cs.drop (off+Rp.sz α),?_,ha,hb⟩
 rw [<-List.drop_drop,List.take_append_drop]⟩
theorem opens_struct {P:Program} {t:TypeId} {fs:Array Field} {α:Type} [Rp α] (ht:P.underlying t=some (.struct fs)) (hc:P.cellsOf t=Rp.sz α) (ho:OpensF P fs.toList 0 α):Opens P t α:=⟨hc,fun {H enc w base spare held fuel cs x} h=>by
 obtain ⟨xs,n,_,_,hl,hlen,hf⟩:=DataW.trod_struct ht h
 have:=ho.go (cs:=cs) (enc:=enc) (w:=w) (base:=base) (spare:=spare) (held:=held) (by omega) (fun f hf'=>by
  obtain ⟨i,hi,he⟩:=List.getElem_of_mem hf'
  have hfi:fs[i]? = some f:=by rw [<-Array.getElem?_toList,List.getElem?_eq_getElem hi,he]
  have hx:i<xs.length:=by rw [hlen];simpa using hi
  exact ⟨n,xs[i],by rw [hf i f hfi,List.getElem?_eq_getElem hx]⟩)
 simpa using this⟩
theorem opens_of {P:Program} {t:TypeId} {α β:Type} [Rp α] (f:β->α) (g:α->β) (hg:∀ a,f (g a)=a) (h:Opens P t α):@Opens P t β (Rp.of f) :=
 @Opens.mk_ P t β (Rp.of f) h.1 (fun {H enc w base spare held fuel cs x} hx=>by
  obtain ⟨a,ha⟩:=h.2 hx
  exact ⟨g a,by show Rp.rd w _ cs (f (g a));rw [hg];exact ha⟩)
where Opens.mk_ {P:Program} {t:TypeId} {β:Type} [Rp β] (h1:P.cellsOf t=Rp.sz β) (h2:∀ {H:Type} {enc:TypeId × Value->H} {w:World} {base:Nat} {spare:Nat->Bool} {held:Bool} {fuel:Nat} {cs:List Value} {x:DataW H × List MemPlace},
 DataW.trod enc P w base spare held fuel t cs=some x->∃ a:β,Rp.rd w (fun _=>True) cs a):Opens P t β:=⟨h1,h2⟩
theorem opens_two {P:Program} {t e:TypeId} {α:Type} [Rp α] (ht:P.underlying t=some (.array 2 e)) (hc:P.cellsOf t=Rp.sz α+Rp.sz α) (ho:Opens P e α):Opens P t (α × α):=⟨hc,fun {H enc w base spare held fuel cs x} h=>by
 obtain ⟨xs,m,_,_,hl,hlen,hf⟩:=DataW.trod_array ht h
 have h0:=hf 0 (by omega)
 have h1:=hf 1 (by omega)
 rw [List.getElem?_eq_getElem (by omega)] at h0 h1
 obtain ⟨a,ha⟩:=ho.2 h0
 obtain ⟨b,hb⟩:=ho.2 h1
 have hs:=ho.1
 refine ⟨(a,b),rd_pair (n:=Rp.sz α) (m:=Rp.sz α) rfl (by omega) ?_ ?_⟩
 · rw [hs,Nat.zero_mul,List.drop_zero] at ha;exact ha
 · rw [hs,Nat.one_mul] at hb;exact hb⟩
section
variable {P:Program} {H:Type} {enc:TypeId × Value->H} {w:World} {base fuel b0:Nat} {spare:Nat->Bool} {held:Bool} {r:Reach} {t e:TypeId} {α:Type} [Rp α] {v:Value}
theorem trod_list {x:DataW H × List MemPlace} (ht:P.underlying t=some (.slice e)) (ho:Opens P t (List α)) (h:DataW.trod enc P w base spare held fuel t [v]=some x) :
 ∃ l:List α,RdL w (fun _=>True) v l/\((x.1 = .nil/\l=[])\/∃ es ss,x.1 = .slice es ss/\es.length=l.length):=by
 obtain ⟨l,v',hv',hl⟩:=ho.2 h
 injection hv' with hv' _
 subst hv'
 obtain ⟨A,c,hA,_⟩:=hl.form
 refine ⟨l,hl,?_⟩
 rcases open_slice ht h with ⟨hcs,hx⟩ | ⟨a,len,cap,m,n,D,Pl,hcs,_,_,_,_,hx,_⟩
 · injection hcs with hcs _
   rw [hA] at hcs
   injection hcs with _ e2 _
   exact .inl ⟨by rw [hx],List.eq_nil_of_length_eq_zero e2⟩
 · injection hcs with hcs _
   rw [hA] at hcs
   injection hcs with _ e2 _
   exact .inr ⟨_,_,by rw [hx],by simp [e2]⟩
theorem open_list {d:DataW H} {p:List MemPlace} (ht:P.underlying t=some (.slice e)) (ho:Opens P t (List α)) (hv:Value.okWide P w r b0 t v) (h:DataW.Trod enc P w base spare held t v d p) :
 ∃ l:List α,RdL w (fun _=>True) v l/\((d = .nil/\l=[])\/∃ es ss,d = .slice es ss/\es.length=l.length):=by
 obtain ⟨a0,len0,cap0,rfl⟩:=okWide_slice ht hv
 obtain ⟨fuel,hf⟩:=h
 exact trod_list (x:=(d,p)) ht ho (by simpa [Value.cells] using hf)
end
theorem opensInt:Opens Try.prog 3 Int:=opens_int Try.underlying3 (by kernel_rfl)
theorem opensU8:Opens Try.prog 5 UInt8:=opens_u8 Try.underlying5 (by kernel_rfl)
theorem opensBytes:Opens Try.prog 22 (List UInt8):=opens_list Try.underlying22 (by kernel_rfl) opensU8 (by decide)
end Go.Proofs.Ytfdibjgmbdkbcaa
namespace Go.Proofs.Ytfdibjgmbdkbcaa
open Go.ChangeShapes Go.WideShapes Go.ChangeAt Go.RowKit Go.Deep
set_option maxRecDepth 100000 in
theorem opensWin:Opens Try.prog 112 (Int × Int):=opens_two Try.underlying112 (by kernel_rfl) opensInt
set_option maxRecDepth 100000 in
theorem opensWins:Opens Try.prog 86 (List (Int × Int)):=opens_list Try.underlying86 (by kernel_rfl) opensWin (by decide)
set_option maxRecDepth 100000 in
theorem opensDo:Opens Try.prog 111 Dob :=
 opens_of (fun d:Dob=>(d.kind,d.n,d.time,d.entry,d.seg,d.pos,d.turn)) (fun p=>⟨p.1,p.2.1,p.2.2.1,p.2.2.2.1,p.2.2.2.2.1,p.2.2.2.2.2.1,p.2.2.2.2.2.2⟩) (fun _=>rfl)
  (opens_struct Try.underlying111 (by kernel_rfl) (opensF_cons rfl opensInt (opensF_cons rfl opensInt (opensF_cons rfl opensInt (opensF_cons rfl opensBytes (opensF_cons rfl opensInt (opensF_cons rfl opensInt (opensF_one rfl opensU8))))))))
set_option maxRecDepth 100000 in
theorem opensDos:Opens Try.prog 87 (List Dob):=opens_list Try.underlying87 (by kernel_rfl) opensDo (by decide)
end Go.Proofs.Ytfdibjgmbdkbcaa
