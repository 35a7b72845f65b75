/-
  THE PLAIN LAW of fleets: what each thing that is done makes of shards and of the book; no program. No conditions. THE PLAIN LAW of fleets, on: what holds, stays. No conditions. THE PLAIN LAWS of fleets: what came of the past stays; what is refused did not happen; shards know nothing of each other. No conditions. Plain law, no program: what clash.Stands tells. No conditions. THE PLAIN LAWS of what is shown of a fleet. No conditions.
-/
import Derived.Test.YtfdibjgmbdkbcaaYBook
import Derived.Test.YtfdibjgmbdkbcaaYGf
import Derived.Test.YtfdibjgmbdkbcaaYShelfP
namespace Go.Proofs.Ytfdibjgmbdkbcaa
structure Shd where
 fr:Int
 til:Int
 st:Int
 ents:List Bs
 man:Man
deriving DecidableEq
instance:Rp Shd:=Rp.of fun s=>(s.fr,s.til,s.st,s.ents,s.man)
structure Flt where
 sh:List Shd
 book:List Rec
deriving DecidableEq
instance:Rp Flt:=Rp.of fun f=>(f.sh,f.book)
structure Dob where
 kind:Int
 n:Int
 time:Int
 entry:Bs
 seg:Int
 pos:Int
 turn:UInt8
deriving DecidableEq
instance:Rp Dob:=Rp.of fun d=>(d.kind,d.n,d.time,d.entry,d.seg,d.pos,d.turn)
structure Ans where
 err:Nat
 sh:Int
 pl:Int
 sz:Int
 root:Bs
deriving DecidableEq
instance:Rp Ans:=Rp.of fun a=>((a.err:Int),a.sh,a.pl,a.sz,a.root)
namespace Fl
def no (e:Nat):Ans:=⟨e,0,0,0,[]⟩
def inW (t:Int) (s:Shd):Bool:=decide (s.fr<=t)&&decide (t<s.til)
def submit (f:Flt) (d:Dob):Flt × Ans :=
 if 200<d.entry.length then (f,no 4) else
 match f.sh.findIdx? (inW d.time) with
 | none=>(f,no 6)
 | some k=>match f.sh[k]? with
   | none=>(f,no 6)
   | some s=>if s.st≠1 then (f,no 8) else
     match s.ents.findIdx? (·==d.entry) with
     | some i=>(f,⟨0,k,i,0,[]⟩)
     | none=>if s.ents.length=100 then (f,no 5) else (⟨f.sh.set k { s with ents:=s.ents++[d.entry] },f.book⟩,⟨0,k,s.ents.length,0,[]⟩)
def freeze (f:Flt) (k:Nat) (s:Shd):Flt × Ans :=
 (⟨f.sh.set k { s with st:=2 },f.book++[⟨k,s.fr,s.til,s.ents.length,Tr.rootL s.ents⟩]⟩,⟨0,k,0,s.ents.length,Tr.rootL s.ents⟩)
def lay (f:Flt) (k:Nat) (s:Shd):Flt × Ans :=
 (⟨f.sh.set k { s with st:=3,man:=Shf.manOf s.ents },f.book⟩,⟨0,k,0,s.ents.length,Tr.rootL s.ents⟩)
def row (b:List Rec) (k:Int):Option Nat:=b.findIdx? fun r=>r.sh==k
def rowR (b:List Rec) (k:Int):Rec:=match row b k with
 | some i=>b.getD i Bk.zeroR
 | none=>Bk.zeroR
def retire (f:Flt) (k:Nat) (s:Shd):Flt × Ans :=
 if (Shf.verC s.man).1.1=0 then (⟨f.sh.set k { s with st:=4,ents:=[] },f.book⟩,⟨0,k,0,(rowR f.book k).sz,(rowR f.book k).root⟩) else (f,no (Shf.verC s.man).1.1)
def turned (b:Bs) (p:Nat) (x:UInt8):Bs:=b.set p (b.getD p 0 ^^^ x)
def spoilM (m:Man) (j p:Nat) (x:UInt8):Man:={ m with segs:=m.segs.set j { m.segs.getD j ⟨0,0,[]⟩ with packed:=turned (m.segs.getD j ⟨0,0,[]⟩).packed p x } }
def spoil (f:Flt) (k:Nat) (s:Shd) (d:Dob):Flt × Ans :=
 if d.seg<0\/(s.man.segs.length:Int)<=d.seg then (f,no 6)
 else if d.pos<0\/((s.man.segs.getD d.seg.toNat ⟨0,0,[]⟩).packed.length:Int)<=d.pos then (f,no 3)
 else (⟨f.sh.set k { s with man:=spoilM s.man d.seg.toNat d.pos.toNat d.turn },f.book⟩,⟨0,k,0,0,[]⟩)
def want (kind:Int):Int:=if kind=2 then 1 else if kind=3 then 2 else 3
def step (f:Flt) (d:Dob):Flt × Ans :=
 if d.kind=1 then submit f d
 else if d.kind<2\/5<d.kind then (f,no 1)
 else if d.n<0\/(f.sh.length:Int)<=d.n then (f,no 6)
 else match f.sh[d.n.toNat]? with
  | none=>(f,no 6)
  | some s=>if s.st≠want d.kind then (f,no 7)
    else if d.kind=2 then freeze f d.n.toNat s
    else if d.kind=3 then lay f d.n.toNat s
    else if d.kind=4 then retire f d.n.toNat s
    else spoil f d.n.toNat s d
def run:Flt->List Dob->Flt × List Ans
 | f,[]=>(f,[])
 | f,d::l=>((run (step f d).1 l).1,(step f d).2::(run (step f d).1 l).2)
def wrongF:Int->List (Int × Int)->Nat->Nat × Nat
 | _,[],_=>(0,0)
 | e,p::l,i=>if p.1<0\/p.2<=p.1\/1000000<p.2 then (3,i) else if 0<i/\p.1<e then (7,i) else wrongF p.2 l (i+1)
def wrongW (l:List (Int × Int)):Nat × Nat:=if 8<l.length then (5,0) else wrongF 0 l 0
def start (l:List (Int × Int)):Flt:=⟨l.map fun p=>⟨p.1,p.2,1,[],Shf.zeroM⟩,[]⟩
def play (ws:List (Int × Int)) (l:List Dob):Flt × List Ans × (Nat × Nat) :=
 if (wrongW ws).1≠0 then (⟨[],[]⟩,[],wrongW ws)
 else if 120<l.length then (⟨[],[]⟩,[],(5,0))
 else ((run (start ws) l).1,(run (start ws) l).2,(0,0))
structure OkS (b:List Rec) (k:Nat) (s:Shd):Prop where
 fine:Fine s.ents
 nodup:s.ents.Nodup
 win:0<=s.fr/\s.fr<s.til/\s.til<=1000000
 st:1<=s.st/\s.st<=4
 row:2<=s.st->∃ r ∈ b,r.sh=(k:Int)
 gone:s.st=4->s.ents=[]/\(Shf.verC s.man).1.1=0
structure OkR (sh:List Shd) (r:Rec):Prop where
 at_:∃ (k:Nat) (s:Shd),r.sh=(k:Int)/\sh[k]? = some s/\2<=s.st/\r.fr=s.fr/\r.to=s.til/\(s.st≠4->r.sz=s.ents.length/\r.root=Tr.rootL s.ents)/\(3<=s.st->s.man.size=r.sz/\s.man.root=r.root)
 sz:0<=r.sz/\r.sz<=100
 root:r.root.length=32
structure Inv (f:Flt):Prop where
 len:f.sh.length<=8
 sh:∀ (k:Nat) (s:Shd),f.sh[k]? = some s->OkS f.book k s
 book:∀ r ∈ f.book,OkR f.sh r
 one:f.book.Pairwise fun a b=>a.sh≠b.sh
 count:f.book.length=f.sh.countP fun s=>decide (2<=s.st)
theorem Inv.book_len {f:Flt} (h:Inv f):f.book.length<=8:=by
 rw [h.count]
 have:=List.countP_le_length (p:=fun s:Shd=>decide (2<=s.st)) (l:=f.sh)
 have:=h.len
 omega
theorem Inv.set_ {f:Flt} (h:Inv f) {k:Nat} {s s':Shd} (hk:f.sh[k]? = some s) (hs:OkS f.book k s') (hf:s'.fr=s.fr/\s'.til=s.til) (h2:(2<=s.st ↔ 2<=s'.st))
 (hr:∀ r ∈ f.book,r.sh=(k:Int)->(s'.st≠4->r.sz=s'.ents.length/\r.root=Tr.rootL s'.ents)/\(3<=s'.st->s'.man.size=r.sz/\s'.man.root=r.root)):Inv ⟨f.sh.set k s',f.book⟩:=by
 obtain ⟨hlt,hg⟩:=List.getElem?_eq_some_iff.1 hk
 refine ⟨by simpa using h.len,fun j t hj=>?_,fun r hrm=>?_,h.one,?_⟩
 · rw [List.getElem?_set] at hj
   split at hj
   · rename_i e
     subst e
     first | (rw [if_pos hlt] at hj;injection hj with hj) | injection hj with hj
     subst hj
     exact hs
   · exact h.sh j t hj
 · obtain ⟨⟨j,t,e1,e2,e3,e4,e5,e6,e7⟩,hsz,hro⟩:=h.book r hrm
   refine ⟨?_,hsz,hro⟩
   by_cases hjk:k=j
   · subst hjk
     rw [hk] at e2
     injection e2 with e2
     subst e2
     exact ⟨k,s',e1,by rw [List.getElem?_set_self hlt],h2.1 e3,by rw [hf.1];exact e4,by rw [hf.2];exact e5,(hr r hrm e1).1,(hr r hrm e1).2⟩
   · exact ⟨j,t,e1,by rw [List.getElem?_set_ne hjk];exact e2,e3,e4,e5,e6,e7⟩
 · rw [h.count,List.countP_set (by exact hlt)]
   have hc:decide (2<=f.sh[k].st)=decide (2<=s'.st):=by rw [hg];exact decide_eq_decide.2 h2
   rw [hc]
   by_cases hp:decide (2<=s'.st)=true
   · simp only [hp,if_true]
     have:0<f.sh.countP fun s=>decide (2<=s.st):=List.countP_pos_iff.2 ⟨f.sh[k],List.getElem_mem hlt,by rw [hc];exact hp⟩
     omega
   · simp only [hp];simp
end Fl
end Go.Proofs.Ytfdibjgmbdkbcaa
namespace Go.Proofs.Ytfdibjgmbdkbcaa
namespace Fl
theorem wrongF_ok:∀ (l:List (Int × Int)) (e:Int) (i:Nat),(wrongF e l i).1=0->∀ p ∈ l,0<=p.1/\p.1<p.2/\p.2<=1000000
 | [],_,_,_,p,hp=>by simp at hp
 | q::l,e,i,h,p,hp=>by
   unfold wrongF at h
   split at h
   · cases h
   · rename_i h1
     split at h
     · cases h
     · rcases List.mem_cons.1 hp with rfl | hp
       · omega
       · exact wrongF_ok l _ _ h p hp
theorem wrongW_ok {l:List (Int × Int)} (h:(wrongW l).1=0):l.length<=8/\∀ p ∈ l,0<=p.1/\p.1<p.2/\p.2<=1000000:=by
 unfold wrongW at h
 split at h
 · cases h
 · rename_i h1
   exact ⟨by omega,wrongF_ok l 0 0 h⟩
theorem Inv.start {l:List (Int × Int)} (h:(wrongW l).1=0):Inv (start l):=by
 obtain ⟨h1,h2⟩:=wrongW_ok h
 refine ⟨by simp [Fl.start,h1],fun k s hk=>?_,fun r hr=>by simp [Fl.start] at hr,List.Pairwise.nil,?_⟩
 · unfold Fl.start at hk
   simp only [List.getElem?_map] at hk
   obtain ⟨p,hp,rfl⟩:=Option.map_eq_some_iff.1 hk
   have hm:=h2 p (List.mem_of_getElem? hp)
   exact ⟨⟨by simp,by simp⟩,List.nodup_nil,hm,by simp,fun h=>by simp at h,fun h=>by simp at h⟩
 · unfold Fl.start
   simp only [List.countP_map]
   refine (List.countP_eq_zero.2 fun p _=>?_).symm
   simp
theorem no_row {f:Flt} (h:Inv f) {k:Nat} {s:Shd} (hk:f.sh[k]? = some s) (h1:s.st=1):∀ r ∈ f.book,r.sh≠(k:Int):=by
 intro r hr e
 obtain ⟨⟨j,t,e1,e2,e3,_⟩,_,_⟩:=h.book r hr
 have:j=k:=by omega
 subst this
 rw [hk] at e2
 injection e2 with e2
 subst e2
 omega
theorem Inv.submit {f:Flt} (h:Inv f) (d:Dob):Inv (submit f d).1:=by
 unfold Fl.submit
 split
 · exact h
 · rename_i hl
   split
   · exact h
   · rename_i k hk
     split
     · exact h
     · rename_i s hs
       split
       · exact h
       · rename_i h1
         split
         · exact h
         · rename_i hn
           split
           · exact h
           · rename_i h100
             obtain ⟨o1,o2,o3,o4,o5,o6⟩:=h.sh k s hs
             have h1':s.st=1:=by simpa using h1
             refine h.set_ hs ⟨⟨?_,fun e he=>?_⟩,?_,o3,o4,fun h2=>?_,fun h4=>?_⟩ ⟨rfl,rfl⟩ (by simp) (fun r hr e=>absurd e (no_row h hs h1' r hr))
             · have h101:=o1.1
               have hx:(s.ents++[d.entry]).length=s.ents.length+1:=by simp
               rw [hx]
               clear hn hk o5 o6
               omega
             · rcases List.mem_append.1 he with he | he
               · exact o1.2 e he
               · simp only [List.mem_singleton] at he;subst he;omega
             · rw [List.nodup_append]
               refine ⟨o2,by simp,fun a ha b hb e=>?_⟩
               simp only [List.mem_singleton] at hb
               subst hb e
               have:=List.findIdx?_eq_none_iff.1 hn d.entry ha
               simp at this
             · have h2':2<=s.st:=h2;omega
             · have h4':s.st=4:=h4;omega
theorem Inv.freeze {f:Flt} (h:Inv f) {k:Nat} {s:Shd} (hk:f.sh[k]? = some s) (h1:s.st=1):Inv (freeze f k s).1:=by
 obtain ⟨hlt,hg⟩:=List.getElem?_eq_some_iff.1 hk
 obtain ⟨o1,o2,o3,o4,o5,o6⟩:=h.sh k s hk
 have hno:=no_row h hk h1
 unfold Fl.freeze
 refine ⟨by simpa using h.len,fun j t hj=>?_,fun r hr=>?_,?_,?_⟩
 · simp only at hj ⊢
   rw [List.getElem?_set] at hj
   split at hj
   · rename_i e
     subst e
     injection hj with hj
     subst hj
     exact ⟨o1,o2,o3,by simp,fun _=>⟨_,List.mem_append_right _ (List.mem_singleton.2 rfl),rfl⟩,fun h4=>by simp at h4⟩
   · obtain ⟨p1,p2,p3,p4,p5,p6⟩:=h.sh j t hj
     exact ⟨p1,p2,p3,p4,fun h2=>by obtain ⟨r,hr,e⟩:=p5 h2;exact ⟨r,List.mem_append_left _ hr,e⟩,p6⟩
 · simp only at hr ⊢
   rcases List.mem_append.1 hr with hr | hr
   · obtain ⟨⟨j,t,e1,e2,e3,e4,e5,e6,e7⟩,hsz,hro⟩:=h.book r hr
     have hjk:k≠j:=fun e=>hno r hr (by rw [e1,e])
     exact ⟨⟨j,t,e1,by rw [List.getElem?_set_ne hjk];exact e2,e3,e4,e5,e6,e7⟩,hsz,hro⟩
   · simp only [List.mem_singleton] at hr
     subst hr
     refine ⟨⟨k,_,rfl,List.getElem?_set_self hlt,by simp,rfl,rfl,fun _=>⟨rfl,rfl⟩,fun h3=>by simp at h3⟩,?_,Tr.length_rootL _⟩
     have:=o1.1
     simp only
     omega
 · simp only
   rw [List.pairwise_append]
   refine ⟨h.one,List.pairwise_singleton _ _,fun a ha b hb=>?_⟩
   simp only [List.mem_singleton] at hb
   subst hb
   exact hno a ha
 · simp only [List.length_append,List.length_cons,List.length_nil]
   rw [h.count,List.countP_set (by exact hlt),hg]
   simp [h1]
theorem Inv.lay {f:Flt} (h:Inv f) {k:Nat} {s:Shd} (hk:f.sh[k]? = some s) (h1:s.st=2):Inv (lay f k s).1:=by
 obtain ⟨o1,o2,o3,o4,o5,o6⟩:=h.sh k s hk
 unfold Fl.lay
 refine h.set_ hk ⟨o1,o2,o3,by simp,fun _=>o5 (by omega),fun h4=>by simp at h4⟩ ⟨rfl,rfl⟩ (by simp [h1]) (fun r hr e=>?_)
 obtain ⟨⟨j,t,e1,e2,e3,e4,e5,e6,e7⟩,_,_⟩:=h.book r hr
 have:j=k:=by omega
 subst this
 rw [hk] at e2
 injection e2 with e2
 subst e2
 obtain ⟨g1,g2⟩:=e6 (by omega)
 exact ⟨fun _=>⟨g1,g2⟩,fun _=>⟨g1.symm,g2.symm⟩⟩
theorem Inv.retire {f:Flt} (h:Inv f) {k:Nat} {s:Shd} (hk:f.sh[k]? = some s) (h1:s.st=3):Inv (retire f k s).1:=by
 obtain ⟨o1,o2,o3,o4,o5,o6⟩:=h.sh k s hk
 unfold Fl.retire
 split
 · rename_i hv
   refine h.set_ hk ⟨⟨by simp,by simp⟩,List.nodup_nil,o3,by simp,fun _=>o5 (by omega),fun _=>⟨rfl,hv⟩⟩ ⟨rfl,rfl⟩ (by simp [h1]) (fun r hr e=>?_)
   obtain ⟨⟨j,t,e1,e2,e3,e4,e5,e6,e7⟩,_,_⟩:=h.book r hr
   have:j=k:=by omega
   subst this
   rw [hk] at e2
   injection e2 with e2
   subst e2
   exact ⟨fun h4=>absurd rfl h4,fun _=>e7 (by omega)⟩
 · exact h
theorem Inv.spoil {f:Flt} (h:Inv f) {k:Nat} {s:Shd} (hk:f.sh[k]? = some s) (h1:s.st=3) (d:Dob):Inv (spoil f k s d).1:=by
 obtain ⟨o1,o2,o3,o4,o5,o6⟩:=h.sh k s hk
 unfold Fl.spoil
 split
 · exact h
 · split
   · exact h
   · refine h.set_ hk ⟨o1,o2,o3,o4,o5,fun h4=>?_⟩ ⟨rfl,rfl⟩ Iff.rfl (fun r hr e=>?_)
     · have h4':s.st=4:=h4;omega
     · obtain ⟨⟨j,t,e1,e2,e3,e4,e5,e6,e7⟩,_,_⟩:=h.book r hr
       have:j=k:=by omega
       subst this
       rw [hk] at e2
       injection e2 with e2
       subst e2
       exact ⟨e6,e7⟩
theorem Inv.step {f:Flt} (h:Inv f) (d:Dob):Inv (step f d).1:=by
 unfold Fl.step
 split
 · exact h.submit d
 · split
   · exact h
   · rename_i h1 hk
     split
     · exact h
     · split
       · exact h
       · rename_i s hs
         split
         · exact h
         · rename_i hw
           unfold want at hw
           split
           · rename_i h2
             rw [if_pos h2] at hw
             exact h.freeze hs (by omega)
           · rename_i h2
             rw [if_neg h2] at hw
             split
             · rename_i h3
               rw [if_pos h3] at hw
               exact h.lay hs (by omega)
             · rename_i h3
               rw [if_neg h3] at hw
               split
               · exact h.retire hs (by omega)
               · exact h.spoil hs (by omega) d
theorem Inv.run:∀ {f:Flt} (_:Inv f) (l:List Dob),Inv (run f l).1
 | _,h,[]=>h
 | _,h,d::l=>Inv.run (h.step d) l
end Fl
end Go.Proofs.Ytfdibjgmbdkbcaa
namespace Go.Proofs.Ytfdibjgmbdkbcaa
namespace Fl
theorem length_run:∀ (f:Flt) (l:List Dob),(run f l).2.length=l.length
 | _,[]=>rfl
 | f,d::l=>by simp [run,length_run (step f d).1 l]
theorem run_append:∀ (f:Flt) (l m:List Dob),run f (l++m)=((run (run f l).1 m).1,(run f l).2++(run (run f l).1 m).2)
 | f,[],m=>by simp [run]
 | f,d::l,m=>by
   have:=run_append (step f d).1 l m
   simp only [List.cons_append,run]
   rw [this]
end Fl
end Go.Proofs.Ytfdibjgmbdkbcaa
namespace Go.Proofs.Ytfdibjgmbdkbcaa
theorem D32.dropLast {p:List Bs} (h:D32 p):D32 p.dropLast:=fun d hd=>h d (List.dropLast_subset _ hd)
end Go.Proofs.Ytfdibjgmbdkbcaa
namespace Go.Proofs.Ytfdibjgmbdkbcaa
structure Shw where
 entry:Bs
 place:Int
 shard:Int
 path:List Bs
 rcd:Rec
 row:Int
 bpath:List Bs
 hsz:Int
 hroot:Bs
deriving DecidableEq
instance:Rp Shw:=Rp.of fun s=>(s.entry,s.place,s.shard,s.path,s.rcd,s.row,s.bpath,(s.hsz,s.hroot))
namespace Fl
def entsC (s:Shd):Nat × List Bs:=if s.st=4 then ((Shf.verC s.man).1.1,(Shf.verC s.man).2) else (0,s.ents)
def bookRoot (b:List Rec):Bs:=Tr.rootL (Bk.rows b)
theorem OkR.wrong {sh:List Shd} {b:List Rec} {r:Rec} (h:OkR sh r) (hs:∀ (k:Nat) (s:Shd),sh[k]? = some s->OkS b k s) (hl:sh.length<=8):Bk.wrongR r=0:=by
 obtain ⟨⟨k,s,e1,e2,e3,e4,e5,e6,e7⟩,hsz,hro⟩:=h
 obtain ⟨hlt,_⟩:=List.getElem?_eq_some_iff.1 e2
 have w:=(hs k s e2).win
 exact Bk.wrongR_ok.2 ⟨by omega,by omega,by omega,by omega,by omega,hsz.1,hsz.2,hro⟩
theorem row_some {b:List Rec} {k:Int} {i:Nat} (h:row b k=some i):∃ hi:i<b.length,b[i].sh=k:=by
 unfold row at h
 obtain ⟨hi,h1,_⟩:=List.findIdx?_eq_some_iff_getElem.1 h
 exact ⟨hi,by simpa using h1⟩
theorem row_none {b:List Rec} {k:Int} (h:row b k=none):∀ r ∈ b,r.sh≠k:=by
 unfold row at h
 intro r hr e
 have:=List.findIdx?_eq_none_iff.1 h r hr
 simp [e] at this
theorem Inv.frozen {f:Flt} (h:Inv f) {k:Nat} {s:Shd} (hk:f.sh[k]? = some s) (h2:2<=s.st):∃ (r:Nat) (hr:r<f.book.length),row f.book k=some r/\f.book[r].sh=(k:Int)/\(entsC s).1=0 ∧
 Fine (entsC s).2/\((entsC s).2.length:Int)=f.book[r].sz/\Tr.rootL (entsC s).2=f.book[r].root/\Bk.wrongR f.book[r]=0:=by
 have o:=h.sh k s hk
 obtain ⟨r,hr,e⟩:=o.row h2
 cases hrow:row f.book k with
 | none=>exact absurd e (row_none hrow r hr)
 | some i =>
   obtain ⟨hi,hi2⟩:=row_some hrow
   have hm:=List.getElem_mem hi
   have hok:=h.book _ hm
   have hw:=hok.wrong h.sh h.len
   obtain ⟨⟨j,t,e1,e2,e3,e4,e5,e6,e7⟩,hsz,hro⟩:=hok
   have:j=k:=by omega
   subst this
   rw [hk] at e2
   injection e2 with e2
   subst e2
   refine ⟨i,hi,rfl,hi2,?_⟩
   unfold entsC
   by_cases h4:s.st=4
   · rw [if_pos h4]
     obtain ⟨_,hv⟩:=o.gone h4
     obtain ⟨hs,_,hr',_,hl,hf⟩:=Shf.verC_ok hv
     obtain ⟨m1,m2⟩:=e7 (by omega)
     have:=hs.1
     exact ⟨hv,hf,by show ((Shf.verC s.man).2.length:Int)=_;omega,by show Tr.rootL (Shf.verC s.man).2=_;rw [hr',m2],hw⟩
   · rw [if_neg h4]
     obtain ⟨g1,g2⟩:=e6 h4
     exact ⟨rfl,o.fine,g1.symm,g2.symm,hw⟩
end Fl
end Go.Proofs.Ytfdibjgmbdkbcaa
