/-
  THE WALK of book.leaves. Conditions: what is read is records.
-/
import Derived.Deep.Cut
import Derived.Test.YtfdibjgmbdkbcaaYGc
import Derived.Test.YtfdibjgmbdkbcaaYBook
import Derived.Test.YtfdibjgmbdkbcaaYSt
namespace Go.Proofs.Ytfdibjgmbdkbcaa
open Go.RowKit Go.Lib
theorem rd_rec {w:World} {F:Nat->Prop} {cs:List Value} {r:Rec} (h:Rp.rd w F cs r):∃ A c,cs=[.int .i64 r.sh,.int .i64 r.fr,.int .i64 r.to,.int .i64 r.sz,.slice A r.root.length c]/\Bytes w F (.slice A r.root.length c) r.root:=by
 obtain ⟨c1,c1',rfl,h1,c2,c2',rfl,h2,c3,c3',rfl,h3,c4,c4',rfl,h4,u,rfl,h5⟩:=h
 have e1:c1=[.int .i64 r.sh]:=h1
 have e2:c2=[.int .i64 r.fr]:=h2
 have e3:c3=[.int .i64 r.to]:=h3
 have e4:c4=[.int .i64 r.sz]:=h4
 have hb:Bytes w F u r.root:=rdL_bytes.1 h5
 obtain ⟨A,c,hu⟩:=hb.form
 subst e1 e2 e3 e4 hu
 exact ⟨A,c,rfl,hb⟩
theorem rec_at {w:World} {F:Nat->Prop} {v:Value} {l:List Rec} (h:RdL w F v l) {j:Nat} (hj:j<l.length):∃ b off c A k,v = .slice (some ⟨b,off,none⟩) l.length c/\F b/\b<w.heap.size ∧
 w.cell? ⟨b,off+j*5,none⟩=some (.int .i64 l[j].sh)/\w.cell? ⟨b,off+j*5+1,none⟩=some (.int .i64 l[j].fr)/\w.cell? ⟨b,off+j*5+2,none⟩=some (.int .i64 l[j].to)/\w.cell? ⟨b,off+j*5+3,none⟩=some (.int .i64 l[j].sz) ∧
 w.cell? ⟨b,off+j*5+4,none⟩=some (.slice A l[j].root.length k)/\Bytes w F (.slice A l[j].root.length k) l[j].root:=by
 obtain ⟨b,off,c,hv,hF,hb,ecs,hr,hc⟩:=h.at_ hj
 obtain ⟨A,k,he,hbt⟩:=rd_rec hr
 subst he
 exact ⟨b,off,c,A,k,hv,hF,hb,hc 0 _ rfl,hc 1 _ rfl,hc 2 _ rfl,hc 3 _ rfl,hc 4 _ rfl,hbt⟩
end Go.Proofs.Ytfdibjgmbdkbcaa
