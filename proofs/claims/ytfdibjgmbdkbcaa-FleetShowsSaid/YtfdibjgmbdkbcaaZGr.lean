/-
  Words for memory: a byte of what is laid away is turned. No conditions. THE WALK of a fleet's spoil. Conditions: a fleet of which all holds; there is the shard; what is done is read. THE WALK of a fleet's submit. Conditions: a fleet of which all holds; what is done is read. THE WALKS of slices.IndexFunc over rows, as Show asks, with the fleet's own question. Conditions: what is read is rows. THE WALK of a shard's entries; a row of cells is set. Conditions: what is read is a shard.
-/
import Derived.Test.YtfdibjgmbdkbcaaZGb
import Derived.Test.YtfdibjgmbdkbcaaZBD
import Derived.Test.YtfdibjgmbdkbcaaZGh
import Derived.Test.YtfdibjgmbdkbcaaZGq
namespace Go.Proofs.Ytfdibjgmbdkbcaa
open Go.RowKit Go.Lib
theorem flat_same {α β:Type} (c:α->β->List Value):∀ (l:List α) (us:List β) (k:Nat) (a a':α) (u:β),l[k]? = some a->us[k]? = some u->c a' u=c a u->(List.zipWith c (l.set k a') us).flatten=(List.zipWith c l us).flatten
 | [],_,_,_,_,_,h,_,_=>by simp at h
 | _::_,[],_,_,_,_,_,h,_=>by simp at h
 | a0::l,u0::us,0,a,a',u,h1,h2,he=>by
   simp only [List.getElem?_cons_zero,Option.some.injEq] at h1 h2
   subst h1 h2
   simp only [List.set_cons_zero,List.zipWith_cons_cons,List.flatten_cons,he]
 | a0::l,u0::us,k+1,a,a',u,h1,h2,he=>by
   simp only [List.getElem?_cons_succ] at h1 h2
   have ih:=flat_same c l us k a a' u h1 h2 he
   simp only [List.set_cons_succ,List.zipWith_cons_cons,List.flatten_cons,ih]
theorem FltP.byte {w:World} {B gF k j i gb ob cb:Nat} {tag:Tag} {f:Flt} {vs vb:Value} {us:List ShV} {ws ps:List Value} {s:Shd} {u:ShV} {sg:Seg} (h:FltP w B gF tag f vs vb us ws) (hs:f.sh[k]? = some s) (hu:us[k]? = some u)
 (h1:ps.length=s.man.segs.length) (h2:Own w B 152 3 u.sv s.man.segs.length (flatS s.man.segs ps)) (h3:Tg tag none u.sv) (h4:∀ (j:Nat) (t:Seg) (p:Value),s.man.segs[j]? = some t->ps[j]? = some p->TB w B tag (some (k,j+1)) p t.packed)
 (hj:s.man.segs[j]? = some sg) (hp:ps[j]? = some (.slice (some ⟨gb,ob,none⟩) sg.packed.length cb)) (x:UInt8) :
 FltP (w.setCell ⟨gb,ob+i,none⟩ (bv x)) B gF tag ⟨f.sh.set k { s with man:={ s.man with segs:=s.man.segs.set j { sg with packed:=sg.packed.set i x } } },f.book⟩ vs vb us ws/\Kept w (w.setCell ⟨gb,ob+i,none⟩ (bv x)) B tag tag:=by
 have hb:=h4 j sg _ hj hp
 have hgb:=Own.lt hb.1 gb rfl
 have htg:tag gb=some (k,j+1):=hb.2 gb rfl
 have hc:Chg w (w.setCell ⟨gb,ob+i,none⟩ (bv x)) B tag (some (k,j+1)):=⟨(Below.refl B w).setCell (p:=⟨gb,ob+i,none⟩) hgb.1 _,fun b _ ht _=>Below.heap_setCell _ _ _ b (fun e=>ht (by rw [show b=gb from e];exact htg))⟩
 obtain ⟨hlt,_⟩:=List.getElem?_eq_some_iff.1 hs
 obtain ⟨cur,hcur⟩:=(Own.type hb.1 gb rfl).2
 obtain ⟨p0,p1,p2,p3,p4,p5,p6,p7⟩:=h
 have hSG:flatS (s.man.segs.set j { sg with packed:=sg.packed.set i x }) ps=flatS s.man.segs ps:=flat_same segCells s.man.segs ps j sg _ _ hj hp rfl
 have hSH:flatSh (f.sh.set k { s with man:={ s.man with segs:=s.man.segs.set j { sg with packed:=sg.packed.set i x } } }) us=flatSh f.sh us:=flat_same shCells f.sh us k s _ u hs hu rfl
 refine ⟨⟨p0,p1.far (p:=⟨gb,ob+i,none⟩) (Blk.ne p1 hcur (by decide)) _,by simpa using p2,?_,fun j' t v ht hv=>?_,p5,Own.setCell (p:=⟨gb,ob+i,none⟩) p6 (Own.ne_blk p6 hcur (by decide)) _,fun i r v hr hv=>(p7 i r v hr hv).chg hc (by simp)⟩,hc.kept (by simp)⟩
 · rw [hSH]
   simpa using Own.setCell (p:=⟨gb,ob+i,none⟩) p3 (Own.ne_blk p3 hcur (by decide)) _
 · simp only at ht
   by_cases e:k=j'
   · subst e
     rw [List.getElem?_set_self hlt] at ht
     rw [hu] at hv
     injection ht with ht
     injection hv with hv
     subst ht hv
     obtain ⟨t1,t2,_⟩:=p4 k s u hs hu
     refine ⟨t1.chg hc (by simp) (by simp),t2.chg hc (by simp),ps,by simpa using h1,?_,h3,fun m t p hm hpm=>?_⟩
     · simp only
       rw [hSG]
       simpa using Own.chg h2 hc (fun b hb=>by rw [h3 b hb];simp) seg_not
     · simp only at hm
       obtain ⟨hjl,_⟩:=List.getElem?_eq_some_iff.1 hj
       by_cases em:j=m
       · subst em
         rw [List.getElem?_set_self hjl] at hm
         rw [hp] at hpm
         injection hm with hm
         injection hpm with hpm
         subst hm hpm
         refine ⟨?_,hb.2⟩
         have:=Own.setN hb.1 i (bv x)
         unfold OwnB
         simp only [List.length_set,List.map_set]
         exact this
       · rw [List.getElem?_set_ne em] at hm
         exact (h4 m t p hm hpm).chg hc (fun e=>by injection e with e;injection e with _ e;omega)
   · rw [List.getElem?_set_ne e] at ht
     exact (p4 j' t v ht hv).chg hc (fun m em=>by injection em with em;injection em with em _;exact e em.symm) (by simp)
end Go.Proofs.Ytfdibjgmbdkbcaa
namespace Go.Proofs.Ytfdibjgmbdkbcaa
open Go.RowKit Go.Lib
theorem ofInt8 (x:UInt8):BitVec.ofInt 8 (x.toNat:Int)=x.toBitVec:=by
 apply BitVec.eq_of_toNat_eq
 rw [BitVec.ofInt_natCast,BitVec.toNat_ofNat,UInt8.toNat_toBitVec]
 exact Nat.mod_eq_of_lt x.toNat_lt
theorem xor8 (x y:UInt8):bits .xor .u8 (x.toNat:Int) (y.toNat:Int)=((x ^^^ y).toNat:Int):=by
 show IntKind.u8.wrap ((BitVec.ofInt 8 (x.toNat:Int) ^^^ BitVec.ofInt 8 (y.toNat:Int)).toNat:Int)=_
 rw [ofInt8,ofInt8,<-UInt8.toBitVec_xor,UInt8.toNat_toBitVec,IntKind.wrap_u8]
 have:=(x ^^^ y).toNat_lt
 omega
end Go.Proofs.Ytfdibjgmbdkbcaa
namespace Go.Proofs.Ytfdibjgmbdkbcaa
open Go.RowKit Go.Lib
theorem submit_none {f:Flt} {d:Dob} (h:¬ 200<d.entry.length) (hk:f.sh.findIdx? (Fl.inW d.time)=none):Fl.submit f d=(f,Fl.no 6):=by unfold Fl.submit;rw [if_neg h,hk]
theorem submit_at {f:Flt} {d:Dob} {k:Nat} {s:Shd} (h:¬ 200<d.entry.length) (hk:f.sh.findIdx? (Fl.inW d.time)=some k) (hs:f.sh[k]? = some s):Fl.submit f d=if s.st≠1 then (f,Fl.no 8) else
 match s.ents.findIdx? (·==d.entry) with
 | some i=>(f,⟨0,k,i,0,[]⟩)
 | none=>if s.ents.length=100 then (f,Fl.no 5) else (⟨f.sh.set k { s with ents:=s.ents++[d.entry] },f.book⟩,⟨0,k,s.ents.length,0,[]⟩):=by
 unfold Fl.submit;rw [if_neg h,hk];simp only;rw [hs];rfl
end Go.Proofs.Ytfdibjgmbdkbcaa
namespace Go.Proofs.Ytfdibjgmbdkbcaa
open Go.RowKit Go.Lib
set_option maxRecDepth 100000 in
set_option maxHeartbeats 1000000 in
theorem isRowS_any (w:World) (gb:Nat) (r:Rec) (u:Value) (k:Int) (hb:w.cell? ⟨gb,0,none⟩=some (.int .i64 k)) (hgb:gb<w.heap.size) :
 Calls Try.prog 115 #[.agg #[.int .i64 r.sh,.int .i64 r.fr,.int .i64 r.to,.int .i64 r.sz,u],.pointer (some ⟨gb,0,none⟩)] w fun e w'=>e = .returned (.bool (r.sh==k))/\Below w.heap.size w w':=by
 obtain ⟨sh,fr,tt,sz,root⟩:=r
 simp only
 have hx0:=(Below.refl w.heap.size w).alloc (Nat.le_refl _) (.cells #[.int .i64 sh,.int .i64 fr,.int .i64 tt,.int .i64 sz,u] 61)
 have c0:=(hx0.cell (p:=⟨gb,0,none⟩) hgb).trans hb
 go_enter Try.func115,Try.ntmps115
 go_wp2_with fail
 go_ret
 exact ⟨rfl,hx0⟩
set_option maxRecDepth 100000 in
set_option maxHeartbeats 2000000 in
theorem idxRowS_any (w:World) (F:Nat->Prop) (v:Value) (l:List Rec) (gb:Nat) (kk:Int) (hl:RdL w F v l) (hb:w.cell? ⟨gb,0,none⟩=some (.int .i64 kk)) (hgb:gb<w.heap.size) :
 Calls Try.prog 114 #[v,.func (.func 115) #[] #[.pointer (some ⟨gb,0,none⟩)]] w fun e w'=>e = .returned (.int .i64 (idx (Fl.row l kk)))/\Below w.heap.size w w':=by
 obtain ⟨A,c,hv,hlc,hcm⟩:=hl.form
 subst hv
 unfold maxLen at hcm
 obtain ⟨R,HR⟩:∃ R,Hid (R=idx (l.findIdx? fun r=>r.sh==kk)):=⟨_,Lib.hid rfl⟩
 have hrow:idx (Fl.row l kk)=R:=HR.out.symm
 rw [hrow]
 clear hrow
 go_enter Try.func114,Try.ntmps114
 go_wp2_with fail
 go_loopg [8] l.length (fun k i wr=>∃ j:Nat,j+k=l.length/\i = .int .i64 (j:Int)/\Hid ((l.take j).all (fun a=>!(a.sh==kk))=true)/\Below w.heap.size w wr)
 case atStart=>exact ⟨0,by omega,rfl,Lib.hid (by simp),Below.refl _ _⟩
 case round =>
  obtain ⟨j,hj,rfl,HA,hx⟩:=hrel
  by_cases hlt:j<l.length
  · obtain ⟨b,off,c',A2,k2,hA1,_,hb1,p0,p1,p2,p3,p4,_⟩:=rec_at (hl.below hx) hlt
    injection hA1 with hA1 _ hA3
    subst hA1 hA3
    have hltB:(j:Int)<(l.length:Int):=by omega
    have hfy:(l[j].sh==kk)=true->R=(j:Int):=fun h=>by rw [HR.out,findIdx_at HA.out hlt h];rfl
    have hfn:(l[j].sh==kk)=false->(l.take (j+1)).all (fun a=>!(a.sh==kk))=true:=fun h=>all_snoc HA.out hlt h
    have hcl:=isRowS_any wr gb l[j] (.slice A2 l[j].root.length k2) kk ((hx.cell (p:=⟨gb,0,none⟩) hgb).trans hb) (by have:=hx.size;omega)
    have HCL:=Lib.hid hcl
    clear hcl
    generalize l[j]=s at *
    cases hin:(s.sh==kk) with
    | true =>
      have hR:=hfy hin
      rw [hin] at HCL
      clear hin hfy hfn
      go_wp2_with fail
      with_reducible refine HCL.out.mono ?_
      rintro e w2 ⟨rfl,hx2⟩
      go_wp2_with fail
      go_ret
      exact ⟨by rw [hR];rfl,hx.trans (hx2.mono hx.size)⟩
    | false =>
      have HN:=Lib.hid (hfn hin)
      rw [hin] at HCL
      clear hin hfy hfn
      go_wp2_with fail
      with_reducible refine HCL.out.mono ?_
      rintro e w2 ⟨rfl,hx2⟩
      go_wp2_with fail
      go_roundg (gk-1)
      case measure=>omega
      case rel=>exact ⟨j+1,by omega,by go_num,HN,hx.trans (hx2.mono hx.size)⟩
  · have hltB:decide ((j:Int)<(l.length:Int))=false:=decide_eq_false (by omega)
    have hR:R = -1:=by
     have h:=HA.out
     rw [List.take_of_length_le (by omega)] at h
     rw [HR.out,findIdx_no h];rfl
    have HRR:=Lib.hid hR
    clear hR
    go_wp2_with fail
    go_ret
    exact ⟨by rw [HRR.out];rfl,hx⟩
end Go.Proofs.Ytfdibjgmbdkbcaa
namespace Go.Proofs.Ytfdibjgmbdkbcaa
open Go.RowKit Go.Lib
def setL:World->Nat->Nat->List Value->World
 | w,_,_,[]=>w
 | w,g,i,v::l=>setL (w.setCell ⟨g,i,none⟩ v) g (i+1) l
theorem setL_far {k g:Nat} (hk:k≠g):∀ (l:List Value) (w:World) (i:Nat),(setL w g i l).heap[k]? = w.heap[k]?
 | [],_,_=>rfl
 | v::l,w,i=>by rw [setL,setL_far hk l,Below.heap_setCell _ _ _ k hk]
theorem setL_size {g:Nat}:∀ (l:List Value) (w:World) (i:Nat),(setL w g i l).heap.size=w.heap.size
 | [],_,_=>rfl
 | v::l,w,i=>by rw [setL,setL_size l];simp
theorem setL_below {B g:Nat} {w0:World} (hg:B<=g):∀ (l:List Value) (w:World) (i:Nat),Below B w0 w->Below B w0 (setL w g i l)
 | [],_,_,h=>h
 | v::l,_,i,h=>setL_below hg l _ _ (h.setCell (p:=⟨g,i,none⟩) hg v)
theorem setL_blk {g:Nat} {t:TypeId}:∀ (l old pre:List Value) (w:World),old.length=l.length->Blk w g t (pre++old).toArray->Blk (setL w g pre.length l) g t (pre++l).toArray
 | [],old,pre,w,hl,h=>by
   have:old=[]:=by simpa using hl
   subst this
   exact h
 | v::l,[],pre,w,hl,h=>by simp at hl
 | v::l,x::old,pre,w,hl,h=>by
   have h1:=h.set_ pre.length v
   have e:((pre++x::old).toArray.setIfInBounds pre.length v)=((pre++[v])++old).toArray:=by
    apply Array.toList_inj.1
    rw [Array.toList_setIfInBounds]
    simp
   rw [e] at h1
   have h2:=setL_blk l old (pre++[v]) _ (by simpa using hl) h1
   simpa [setL] using h2
set_option maxRecDepth 100000 in
set_option maxHeartbeats 1000000 in
theorem entries_any (w:World) (F F' F'':Nat->Prop) (q o:Nat) (s:Shd) (ev vr vs:Value) (h2:w.cell? ⟨q,o+2,none⟩=some (.int .i64 s.st)) (h3:w.cell? ⟨q,o+3,none⟩=some ev) (h4:w.cell? ⟨q,o+4,none⟩=some (.int .i64 s.man.size)) (h5:w.cell? ⟨q,o+5,none⟩=some vr) (h6:w.cell? ⟨q,o+6,none⟩=some vs)
 (he:BList w F ev s.ents) (hr:Bytes w F' vr s.man.root) (hs:RdL w F'' vs s.man.segs) :
 Calls Try.prog 116 #[.pointer (some ⟨q,o,none⟩)] w fun e w'=>∃ v,e = .returned (.tuple #[v,.int .i64 ((Fl.entsC s).1:Int)])/\BList w' (fun b=>F b\/w.heap.size<=b) v (Fl.entsC s).2/\Below w.heap.size w w':=by
 obtain ⟨A,c,hev,_,_,_⟩:=he.shape
 subst hev
 by_cases hst:s.st=4
 · have hE:Fl.entsC s=((Shf.verC s.man).1.1,(Shf.verC s.man).2):=by unfold Fl.entsC;rw [if_pos hst]
   rw [hE]
   rw [hst] at h2
   clear hst hE
   obtain ⟨a,b,hab⟩:∃ a b:Nat,(Shf.verC s.man).1=(a,b):=⟨_,_,rfl⟩
   have hfv:fv (Shf.verC s.man).1 = .agg #[.int .i64 (a:Int),.int .i64 (b:Int)]:=by rw [hab];rfl
   have ha1:(Shf.verC s.man).1.1=a:=by rw [hab]
   have HV:=Lib.hid (verify_any w _ _ vr vs s.man hr hs)
   have HA:=Lib.hid ha1
   clear hab ha1
   go_enter Try.func116,Try.ntmps116
   go_wp2_with fail
   with_reducible refine HV.out.mono ?_
   rintro e w5 ⟨v5,rfl,ho5,hx5⟩
   rw [hfv]
   clear HV hfv
   go_upto_region 4 with (fail)
   have hx6:=hx5.alloc hx5.size (.cells #[.int .i64 (a:Int),.int .i64 (b:Int)] 32)
   have hflt:Blk (w5.alloc (.cells #[.int .i64 (a:Int),.int .i64 (b:Int)] 32)) w5.heap.size 32 #[.int .i64 (a:Int),.int .i64 (b:Int)]:=heap_alloc_new w5 _
   have ho6:=ho5.blist.alloc (.cells #[.int .i64 (a:Int),.int .i64 (b:Int)] 32)
   generalize w5.alloc (.cells #[.int .i64 (a:Int),.int .i64 (b:Int)] 32)=w6 at *
   generalize w5.heap.size=gE at *
   have l0:w6.cell? ⟨gE,0,none⟩=some (.int .i64 (a:Int)):=hflt.cell 0
   go_quiet (fail)
   go_wp2_with fail
   go_ret2
   exact ⟨v5,by rw [HA.out];rfl,(ho6.weak (fun _ _ h=>.inr h.1)),below_drewN hx6 _⟩
 · have hE:Fl.entsC s=(0,s.ents):=by unfold Fl.entsC;rw [if_neg hst]
   rw [hE]
   have hstB:(s.st != 4)=true:=by rw [bne_iff_ne];exact hst
   clear hst hE
   go_enter Try.func116,Try.ntmps116
   go_wp2_with fail
   go_ret2
   exact ⟨_,rfl,he.weak (fun _ _ h=>.inl h),Below.refl _ _⟩
end Go.Proofs.Ytfdibjgmbdkbcaa
