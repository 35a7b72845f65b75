/-
  THE PLAIN LAW of unpacking as yearref4 does it: token by token; it comes to the same as pack.Unpack's way. No program, no conditions. THE WALK of yearref4.Unpack. Conditions: what is read is bytes.
-/
import Derived.Test.YtfdibjgmbdkbcaaYGe
import Derived.Test.YtfdibjgmbdkbcaaYPk5
namespace Go.Proofs.Ytfdibjgmbdkbcaa
namespace Pk
def fin (size:Nat) (s:St):Option Bs :=
 if s.ok=false\/s.bs≠[] then none
 else match text s.l with
  | .inl out=>if out.length=size then some out else none
  | .inr _=>none
def tok1 (fl:Nat) (bs out:Bs):Option (Bs × Bs) :=
 if fl % 2=0 then
  match bs with
  | []=>none
  | c::bs=>some (bs,out++[c])
 else
  match bs with
  | c::d::bs=>if out.length<(c.toNat * 256+d.toNat) % 1024+1 then none else some (bs,copyN out ((c.toNat * 256+d.toNat) % 1024+1) ((c.toNat * 256+d.toNat) / 1024+3))
  | _=>none
def hd1 (fl left:Nat) (bs:Bs):Option (Nat × Nat × Bs) :=
 if left=0 then
  match bs with
  | []=>none
  | c::bs=>some (c.toNat,8,bs)
 else some (fl,left,bs)
def endU (size fl:Nat) (bs out:Bs):Option Bs:=if bs=[]/\out.length=size/\fl=0 then some out else none
def rfU (size:Nat):Nat->Nat->Nat->Bs->Bs->Option Bs
 | 0,fl,_,bs,out=>endU size fl bs out
 | f+1,fl,left,bs,out =>
   if out.length<size then
    match hd1 fl left bs with
    | none=>none
    | some (fl,left,bs) =>
      match tok1 fl bs out with
      | none=>none
      | some (bs,out)=>rfU size f (fl / 2) (left-1) bs out
   else endU size fl bs out
def unpackR (b:Bs):Nat × Bs :=
 match b with
 | c::d::bs =>
   if 4000<c.toNat * 256+d.toNat then (4,[])
   else match rfU (c.toNat * 256+d.toNat) (c.toNat * 256+d.toNat) 0 0 bs [] with
    | some out=>(0,out)
    | none=>(2,[])
 | _=>(2,[])
theorem rfU_end {size f fl left:Nat} {bs out:Bs} (h:size<=out.length):rfU size f fl left bs out=endU size fl bs out:=by
 cases f with
 | zero=>rfl
 | succ f=>rw [rfU,if_neg (by omega)]
theorem rfU_go {size f fl left:Nat} {bs out:Bs} (h:out.length<size):rfU size (f+1) fl left bs out=match hd1 fl left bs with
 | none=>none
 | some (fl,left,bs) =>
   match tok1 fl bs out with
   | none=>none
   | some (bs,out)=>rfU size f (fl / 2) (left-1) bs out:=by rw [rfU,if_pos h]
theorem one_false (bs:Bs):(one bs false).2.2=false:=by cases bs<;>rfl
theorem readT_ok (flag:Bool) (s:St) (h:s.ok=false):(readT flag s).ok=false:=by
 cases flag
 · rw [readT_lit];simp [h,one_false]
 · rw [readT_cp];simp [h,one_false]
theorem grpR_ok (size:Nat):∀ k fl s,s.ok=false->(grpR size k fl s).ok=false
 | 0,_,_,h=>h
 | k+1,fl,s,h=>by
   unfold grpR
   split
   · simp [h]
   · exact grpR_ok size k _ _ (readT_ok _ _ h)
theorem readT_l (flag:Bool) (s:St):∃ t,(readT flag s).l=s.l++[t]:=by
 cases flag
 · rw [readT_lit];exact ⟨_,rfl⟩
 · rw [readT_cp];exact ⟨_,rfl⟩
theorem grpR_l (size:Nat):∀ k fl s,∃ x,(grpR size k fl s).l=s.l++x
 | 0,_,s=>⟨[],(List.append_nil _).symm⟩
 | k+1,fl,s=>by
   unfold grpR
   split
   · exact ⟨[],(List.append_nil _).symm⟩
   · obtain ⟨t,ht⟩:=readT_l (fl % 2==1) s
     obtain ⟨x,hx⟩:=grpR_l size k (fl / 2) (readT (fl % 2==1) s)
     exact ⟨t::x,by rw [hx,ht,List.append_assoc];rfl⟩
theorem unR_l (size:Nat):∀ f s,∃ x,(unR size f s).l=s.l++x
 | 0,s=>⟨[],(List.append_nil _).symm⟩
 | f+1,s=>by
   unfold unR
   split
   · obtain ⟨x,hx⟩:=grpR_l size 8 (one s.bs s.ok).1 ⟨(one s.bs s.ok).2.1,(one s.bs s.ok).2.2,s.l,s.n⟩
     obtain ⟨y,hy⟩:=unR_l size f (grpR size 8 (one s.bs s.ok).1 ⟨(one s.bs s.ok).2.1,(one s.bs s.ok).2.2,s.l,s.n⟩)
     exact ⟨x++y,by rw [hy,hx,List.append_assoc]⟩
   · exact ⟨[],(List.append_nil _).symm⟩
theorem fin_dead (size f k fl:Nat) (s:St) (h:s.ok=false):fin size (unR size f (grpR size k fl s))=none:=by
 have h1:=grpR_ok size k fl s h
 rw [unR_stop (by rw [h1];simp)]
 unfold fin
 rw [if_pos (Or.inl h1)]
theorem fin_bad (size f k fl:Nat) (s:St) (e:Nat × Nat) (h:text s.l = .inr e):fin size (unR size f (grpR size k fl s))=none:=by
 obtain ⟨x,hx⟩:=grpR_l size k fl s
 obtain ⟨y,hy⟩:=unR_l size f (grpR size k fl s)
 have ht:text (unR size f (grpR size k fl s)).l = .inr e:=by
  rw [hy,hx,List.append_assoc]
  unfold text at h ⊢
  rw [textF_append,h]
 unfold fin
 rw [ht]
 split<;>rfl
theorem copyN_len (out:Bs) (back:Nat):∀ k,(copyN out back k).length=out.length+k
 | 0=>rfl
 | k+1=>by unfold copyN;rw [List.length_append,copyN_len out back k];simp;omega
theorem text_snoc {l:List Tok} {out:Bs} (h:text l = .inl out) (t:Tok):text (l++[t])=if bad t out.length=0 then .inl (more out t) else .inr (bad t out.length,l.length):=by
 unfold text at h ⊢
 rw [textF_append,h]
 show textF [t] (0+l.length) out=_
 rw [textF_cons,Nat.zero_add]
 split<;>rfl
theorem tok_step (size f F k fl:Nat) (s:St) (out:Bs) (hs:size<=4000) (hok:s.ok=true) (ht:text s.l = .inl out) (hn:out.length=s.n) (hlt:s.n<size)
 (ih:∀ (s':St) (out':Bs),s'.ok=true->text s'.l = .inl out'->out'.length=s'.n->s.n+1<=s'.n->fin size (unR size f (grpR size k (fl / 2) s'))=rfU size F (fl / 2) k s'.bs out') :
 fin size (unR size f (grpR size (k+1) fl s))=match tok1 fl s.bs out with
  | none=>none
  | some (bs,out)=>rfU size F (fl / 2) k bs out:=by
 obtain ⟨bs,ok,l,n⟩:=s
 simp only at hok ht hn hlt ih
 subst hok
 rw [grpR_go (by simp only;omega)]
 unfold tok1
 by_cases he:fl % 2=0
 · rw [if_pos he,show (fl % 2==1)=false by rw [he];rfl]
   rw [readT_lit]
   cases bs with
   | nil=>exact fin_dead _ _ _ _ _ rfl
   | cons c bs =>
     have hb:bad (lit c) out.length=0:=by
      unfold bad lit
      rw [if_neg (by simp),if_neg (by simp),if_neg (by simp only;omega)]
     have h:=text_snoc ht (lit c)
     rw [if_pos hb] at h
     have hc:UInt8.ofNat c.toNat=c:=UInt8.ofNat_toNat
     refine ih ⟨bs,true,l++[lit (UInt8.ofNat c.toNat)],n+1⟩ (out++[c]) rfl ?_ (by simp [hn]) (Nat.le_refl _)
     simp only
     rw [hc,h]
     rfl
 · rw [if_neg he,show (fl % 2==1)=true by rw [show fl % 2=1 by omega];rfl]
   rw [readT_cp]
   rcases bs with _ | ⟨c,_ | ⟨d,bs⟩⟩
   · exact fin_dead _ _ _ _ _ rfl
   · exact fin_dead _ _ _ _ _ rfl
   · have hcl:=c.toNat_lt
     have hdl:=d.toNat_lt
     simp only [one]
     generalize hx:c.toNat * 256+d.toNat=x
     have hx1:x<65536:=by omega
     clear hx hcl hdl
     have h:=text_snoc ht (tokOf x)
     by_cases hf:out.length<x % 1024+1
     · rw [if_pos hf]
       have hb:bad (tokOf x) out.length=7:=by
        unfold bad tokOf cp
        rw [if_neg (by simp only;omega),if_pos (by simp only;omega)]
       rw [hb] at h
       exact fin_bad _ _ _ _ _ (7,l.length) h
     · rw [if_neg hf]
       have hm:more out (tokOf x)=copyN out (x % 1024+1) (x / 1024+3):=by
        unfold more tokOf cp
        rw [if_neg (by simp only;omega)]
        rfl
       by_cases h4:4000<out.length+(x / 1024+3)
       · have hb:bad (tokOf x) out.length=4:=by
          unfold bad tokOf cp
          rw [if_neg (by simp only;omega),if_neg (by simp only;omega),if_pos (by simp only;omega)]
         rw [hb] at h
         simp only
         rw [rfU_end (by rw [copyN_len];omega)]
         unfold endU
         rw [if_neg (by rw [copyN_len];omega)]
         exact fin_bad _ _ _ _ _ (4,l.length) h
       · have hb:bad (tokOf x) out.length=0:=by
          unfold bad tokOf cp
          rw [if_neg (by simp only;omega),if_neg (by simp only;omega),if_neg (by simp only;omega)]
         rw [if_pos hb,hm] at h
         exact ih ⟨bs,true,l++[tokOf x],n+(x / 1024+3)⟩ _ rfl h (by rw [copyN_len,hn]) (by simp only;omega)
theorem unR_rfU (size:Nat) (hs:size<=4000):∀ (F f k fl:Nat) (s:St) (out:Bs),s.ok=true->text s.l = .inl out->out.length=s.n->size-s.n<=F->size-s.n<=f->fl<2 ^ k →
 fin size (unR size f (grpR size k fl s))=rfU size F fl k s.bs out:=by
 intro F
 induction F with
 | zero =>
   intro f k fl s out hok ht hn hF hf hfl
   have hle:size<=s.n:=by omega
   rw [rfU_end (by omega)]
   obtain ⟨bs,ok,l,n⟩:=s
   simp only at *
   subst hok
   cases k with
   | zero =>
     rw [grpR,unR_stop (by simp only;omega)]
     unfold fin endU
     simp only [ht]
     have h0:fl=0:=by omega
     subst h0
     by_cases h1:bs=[]
     · subst h1;simp
     · rw [if_pos (Or.inr h1),if_neg (fun h=>h1 h.1)]
   | succ k =>
     rw [grpR_stop hle,unR_stop (by simp only;omega)]
     unfold fin endU
     simp only [ht]
     by_cases h0:fl=0
     · subst h0
       by_cases h1:bs=[]
       · subst h1;simp
       · rw [if_pos (Or.inr h1),if_neg (fun h=>h1 h.1)]
     · have e:(true&&fl==0)=false:=by simp [h0]
       rw [if_pos (Or.inl e),if_neg (fun h=>h0 h.2.2)]
 | succ F ih =>
   intro f k fl s out hok ht hn hF hf hfl
   by_cases hlt:s.n<size
   · rw [rfU_go (by omega)]
     cases k with
     | zero =>
       obtain ⟨f,rfl⟩:∃ g,f=g+1:=⟨f-1,by omega⟩
       rw [grpR,unR_go ⟨hlt,hok⟩]
       obtain ⟨bs,ok,l,n⟩:=s
       simp only at *
       subst hok
       unfold hd1
       rw [if_pos rfl]
       cases bs with
       | nil=>exact fin_dead _ _ _ _ _ rfl
       | cons c bs =>
         have hc:=c.toNat_lt
         exact tok_step size f F 7 c.toNat ⟨bs,true,l,n⟩ out hs rfl ht hn hlt (fun s' out' h1 h2 h3 h4=>ih f 7 (c.toNat / 2) s' out' h1 h2 h3 (by simp only at h4;omega) (by simp only at h4;omega) (by omega))
     | succ k =>
       unfold hd1
       rw [if_neg (by omega)]
       exact tok_step size f F k fl s out hs hok ht hn hlt (fun s' out' h1 h2 h3 h4=>ih f k (fl / 2) s' out' h1 h2 h3 (by omega) (by omega) (by rw [Nat.pow_succ] at hfl;omega))
   · have h:=ih f k fl s out hok ht hn (by omega) hf hfl
     rw [h,rfU_end (by omega),rfU_end (by omega)]
theorem unpack_ref (b:Bs):unpackR b=unpack b:=by
 rcases b with _ | ⟨c,_ | ⟨d,bs⟩⟩
 · rfl
 · rfl
 · unfold unpackR unpack
   have hst:start (c::d::bs)=⟨bs,true,[],0⟩:=rfl
   have hsz:sizeOf (c::d::bs)=c.toNat * 256+d.toNat:=rfl
   rw [hst,hsz]
   simp only
   generalize c.toNat * 256+d.toNat=size
   rw [if_neg (show ¬ (true=false) by simp)]
   by_cases h4:4000<size
   · rw [if_pos h4,if_pos h4]
   · rw [if_neg h4,if_neg h4]
     have h:=unR_rfU size (by omega) size size 0 0 ⟨bs,true,[],0⟩ [] rfl rfl rfl (by simp) (by simp) (by decide)
     rw [grpR] at h
     simp only at h
     rw [<-h]
     unfold fin
     generalize unR size size ⟨bs,true,[],0⟩=s
     by_cases hb:s.ok=false\/s.bs≠[]
     · rw [if_pos hb,if_pos hb]
     · rw [if_neg hb,if_neg hb]
       cases text s.l with
       | inl o=>by_cases ho:o.length=size<;>simp [ho]
       | inr e=>rfl
end Pk
end Go.Proofs.Ytfdibjgmbdkbcaa
namespace Go.Proofs.Ytfdibjgmbdkbcaa
open Go.RowKit Go.Lib
namespace Pk
theorem endU_none {size fl:Nat} {bs out:Bs} (h:¬ (bs=[]/\out.length=size/\fl=0)):endU size fl bs out=none:=by unfold endU;rw [if_neg h]
theorem endU_some {size fl:Nat} {bs out:Bs} (h:bs=[]/\out.length=size/\fl=0):endU size fl bs out=some out:=by unfold endU;rw [if_pos h]
theorem hd1_none {fl left:Nat} (h:left=0):hd1 fl left []=none:=by unfold hd1;rw [if_pos h]
theorem hd1_zero {fl left:Nat} {c:UInt8} {bs:Bs} (h:left=0):hd1 fl left (c::bs)=some (c.toNat,8,bs):=by unfold hd1;rw [if_pos h]
theorem hd1_more {fl left:Nat} {bs:Bs} (h:left≠0):hd1 fl left bs=some (fl,left,bs):=by unfold hd1;rw [if_neg h]
def rnd (size f fl left:Nat) (bs out:Bs):Option Bs:=match tok1 fl bs out with
 | none=>none
 | some (bs,out)=>rfU size f (fl / 2) (left-1) bs out
theorem rfU_rnd {size f fl left fl' left':Nat} {bs bs' out:Bs} (h:out.length<size) (hh:hd1 fl left bs=some (fl',left',bs')):rfU size (f+1) fl left bs out=rnd size f fl' left' bs' out:=by
 rw [rfU_go h,hh];rfl
theorem rfU_dead {size f fl left:Nat} {bs out:Bs} (h:out.length<size) (hh:hd1 fl left bs=none):rfU size (f+1) fl left bs out=none:=by
 rw [rfU_go h,hh]
theorem rnd_lit0 {size f fl left:Nat} {out:Bs} (h:fl % 2=0):rnd size f fl left [] out=none:=by unfold rnd tok1;rw [if_pos h]
theorem rnd_lit {size f fl left:Nat} {c:UInt8} {bs out:Bs} (h:fl % 2=0):rnd size f fl left (c::bs) out=rfU size f (fl / 2) (left-1) bs (out++[c]):=by unfold rnd tok1;rw [if_pos h]
theorem rnd_cp0 {size f fl left:Nat} {bs out:Bs} (h:¬ fl % 2=0) (hb:bs.length<2):rnd size f fl left bs out=none:=by
 unfold rnd tok1;rw [if_neg h]
 match bs,hb with
 | [],_=>rfl
 | [_],_=>rfl
theorem rnd_cp1 {size f fl left:Nat} {c d:UInt8} {bs out:Bs} (h:¬ fl % 2=0) (hf:out.length<(c.toNat * 256+d.toNat) % 1024+1):rnd size f fl left (c::d::bs) out=none:=by
 unfold rnd tok1;rw [if_neg h];simp only;rw [if_pos hf]
theorem rnd_cp {size f fl left:Nat} {c d:UInt8} {bs out:Bs} (h:¬ fl % 2=0) (hf:¬ out.length<(c.toNat * 256+d.toNat) % 1024+1) :
 rnd size f fl left (c::d::bs) out=rfU size f (fl / 2) (left-1) bs (copyN out ((c.toNat * 256+d.toNat) % 1024+1) ((c.toNat * 256+d.toNat) / 1024+3)):=by
 unfold rnd tok1;rw [if_neg h];simp only;rw [if_neg hf]
end Pk
theorem drop_at {b:Bs} {i:Nat} (h:i<b.length):b.drop i=b.getD i 0::b.drop (i+1):=by
 rw [List.drop_eq_getElem_cons h,getD_at h]
theorem drop_nil {b:Bs} {i:Nat} (h:b.length<=i):b.drop i=[]:=List.drop_of_length_le h
set_option maxRecDepth 100000 in
set_option maxHeartbeats 8000000 in
theorem runpack_any (w:World) (F:Nat->Prop) (v:Value) (b:Bs) (hb:Bytes w F v b) :
 Calls Try.prog 24 #[v] w (UnpackPost w b):=by
 obtain ⟨i0,hi,hz0,hz1,hz2⟩:=info_parts info_u8
 obtain ⟨A,c,hv,hac,hcm⟩:=hb.form'
 subst hv
 unfold maxLen at hcm
 obtain ⟨R,hR⟩:∃ R,Pk.unpack b=R:=⟨_,rfl⟩
 have hpost:∀ e w',UnpackPost w b e w' ↔ ∃ v,e = .returned (.tuple #[v,.int .i64 (R.1:Int)])/\OwnB w' w.heap.size v R.2/\Below w.heap.size w w':=fun e w'=>by unfold UnpackPost;rw [hR]
 rw [<-Pk.unpack_ref] at hR
 by_cases h2:b.length<2
 · have hRb:R=(2,[]):=by
    rw [<-hR]
    match b,h2 with
    | [],_=>rfl
    | [_],_=>rfl
   subst hRb
   have hB:(b.length:Int)<2:=by omega
   have HP:=Lib.hid hpost
   clear hpost hR
   go_enter Try.func24,Try.ntmps24
   go_wp2_with fail
   go_ret2
   exact (HP.out _ _).2 ⟨_,rfl,Own.nil_ _ _ _ _,Below.refl _ _⟩
 · have hB:decide ((b.length:Int)<2)=false:=by simp;omega
   obtain ⟨q,off,hA,hq,hcell⟩:∃ q off,A=some ⟨q,off,none⟩/\q<w.heap.size/\∀ i,i<b.length->w.cell? ⟨q,off+i,none⟩=some (.int .u8 ((b.getD i 0).toNat:Int)):=by
    obtain ⟨A',c',hv,_,_,_,h⟩:=hb
    injection hv with e1 e2 e3
    subst e1
    obtain ⟨q,off,h,_,hq,hcc⟩:=h (by omega)
    exact ⟨q,off,h,hq,fun i hi=>hcc i (bv (b.getD i 0)) (by rw [List.getElem?_map,List.getElem?_eq_getElem hi,getD_at hi];rfl)⟩
   subst hA
   have hd0:b=b.getD 0 0::b.getD 1 0::b.drop 2:=by
    have h0:=drop_at (b:=b) (i:=0) (by omega)
    have h1:=drop_at (b:=b) (i:=1) (by omega)
    rw [List.drop_zero,h1] at h0
    exact h0
   have c0:w.cell? ⟨q,off,none⟩=some (.int .u8 ((b.getD 0 0).toNat:Int)):=hcell 0 (by omega)
   have c1:w.cell? ⟨q,off+1,none⟩=some (.int .u8 ((b.getD 1 0).toNat:Int)):=hcell 1 (by omega)
   have HC:=Lib.hid hcell
   have hR2:Pk.unpackR (b.getD 0 0::b.getD 1 0::b.drop 2)=R:=by rw [<-hd0];exact hR
   unfold Pk.unpackR at hR2
   have hx0:=(b.getD 0 0).toNat_lt
   have hx1:=(b.getD 1 0).toNat_lt
   simp only at hR2
   generalize b.getD 0 0=x0 at *
   generalize b.getD 1 0=x1 at *
   obtain ⟨size,hsz⟩:∃ s,x0.toNat * 256+x1.toNat=s:=⟨_,rfl⟩
   rw [hsz] at hR2
   have hzI:256*(x0.toNat:Int)+(x1.toNat:Int)=((size:Nat):Int):=by omega
   have hszl:size<65536:=by omega
   have HP:=Lib.hid hpost
   have HZ:=Lib.hid hzI
   have h22:2<=b.length:=by omega
   have g1:(1:Int)<(b.length:Int):=by omega
   have g0:(0:Int)<(b.length:Int):=by omega
   have g1n:1<b.length:=by omega
   have g0n:0<b.length:=by omega
   have hx0I:(x0.toNat:Int)<256:=by omega
   have hx1I:(x1.toNat:Int)<256:=by omega
   clear hpost hR hd0 hcell hsz hzI h2
   go_enter Try.func24,Try.ntmps24
   go_wp2_with fail
   go_quiet (fail)
   go_upto_region 4 with (fail)
   have hxw:=below_drewN (Below.refl w.heap.size w) nq
   have hcw:Hid (∀ i,i<b.length->(w.drewN nq).cell? ⟨q,off+i,none⟩=some (.int .u8 ((b.getD i 0).toNat:Int))):=HC
   generalize w.drewN nq=w0 at *
   rw [HZ.out]
   clear c0 c1
   by_cases h4:4000<size
   · rw [if_pos h4] at hR2
     subst hR2
     have h4B:(4000:Int)<(size:Int):=by omega
     go_wp2_with fail
     go_ret2
     exact (HP.out _ _).2 ⟨_,rfl,Own.nil_ _ _ _ _,hxw⟩
   · rw [if_neg h4] at hR2
     have h4B:decide ((4000:Int)<(size:Int))=false:=by simp;omega
     obtain ⟨S,hS⟩:∃ S,Pk.rfU size size 0 0 (b.drop 2) []=S:=⟨_,rfl⟩
     rw [hS] at hR2
     have HS:=Lib.hid hS
     have HR2:=Lib.hid hR2
     clear hS hR2
     go_wp2_with fail
     go_loopg [5,6,7,8] size (fun k v ui uf ul wr=>∃ (at_ fl left:Nat) (out:Bs),ui = .int .i64 (at_:Int)/\uf = .int .i64 (fl:Int)/\ul = .int .i64 (left:Int)/\Hid (Pk.rfU size k fl left (b.drop at_) out=S)/\size<=k+out.length/\out.length<=4070/\at_<=b.length/\at_<=2+3*out.length/\fl<256/\left<=8/\OwnB wr w.heap.size v out/\Below w.heap.size w wr)
     case atStart=>exact ⟨2,0,0,[],rfl,rfl,rfl,HS,by simp,by simp,h22,by simp,by decide,by decide,Own.nil_ _ _ _ _,hxw⟩
     case round =>
      clear HS hxw
      obtain ⟨at_,fl,left,out,rfl,rfl,rfl,HT,hk,hol,hat,hat3,hfl,hle,hown,hx⟩:=hrel
      obtain ⟨A1,c1,hv1,hac1,hcm1⟩:=Own.shape hown
      subst hv1
      by_cases hlt:out.length<size
      · have hltB:(out.length:Int)<(size:Int):=by omega
        obtain ⟨f,rfl⟩:∃ f,gk=f+1:=⟨gk-1,by omega⟩
        by_cases hl0:left=0
        · subst hl0
          by_cases ha0:at_<b.length
          · skip
            have cf:wr.cell? ⟨q,off+at_,none⟩=some (.int .u8 ((b.getD (at_) 0).toNat:Int)):=(hx.cell (p:=⟨q,off+at_,none⟩) hq).trans (HC.out (at_) (by omega))
            have hfb:=(b.getD at_ 0).toNat_lt
            have HRN:Hid (Pk.rnd size f (b.getD at_ 0).toNat 8 (b.drop (at_+1)) out=S):=Lib.hid (by rw [<-HT.out,drop_at ha0,Pk.rfU_rnd hlt (Pk.hd1_zero rfl)])
            have h0B:decide ((b.length:Int)<=(at_:Int))=false:=decide_eq_false (by omega)
            have h0C:decide (b.length<=at_)=false:=decide_eq_false (by omega)
            have h0I:(at_:Int)<(b.length:Int):=by omega
            obtain ⟨fn,hfn⟩:∃ k:Nat,(b.getD at_ 0).toNat=k:=⟨_,rfl⟩
            rw [hfn] at cf HRN hfb
            obtain ⟨an,han⟩:∃ k:Nat,k=at_+1:=⟨_,rfl⟩
            have HAN:Hid (((at_:Nat):Int)+1=((an:Nat):Int)):=Lib.hid (by omega)
            have hana:an<=b.length:=by omega
            have hana3:an<=3+3*out.length:=by omega
            rw [<-han] at HRN
            clear hfn han HT
            go_upto_region 14 with (fail)
            rw [HAN.out]
            clear cf h0B h0C h0I ha0 hat
            by_cases hev:fn % 2=0
            · have hevB:(((fn:Nat):Int) % 2==0)=true:=by rw [beq_iff_eq];omega
              by_cases ha:an<b.length
              · have haB:decide ((b.length:Int)<=((an:Nat):Int))=false:=decide_eq_false (by omega)
                have haC:decide (b.length<=an)=false:=decide_eq_false (by omega)
                have hlI:((an:Nat):Int)<(b.length:Int):=by omega
                have cq:wr.cell? ⟨q,off+an,none⟩=some (.int .u8 ((b.getD (an) 0).toNat:Int)):=(hx.cell (p:=⟨q,off+an,none⟩) hq).trans (HC.out (an) (by omega))
                have hnx:=HRN.out
                rw [drop_at ha,Pk.rnd_lit hev] at hnx
                generalize b.getD (an) 0=ch at *
                obtain ⟨hownB,hsrc⟩:=byte_prep ch hown
                have hb0:bv ch = .int .u8 (ch.toNat:Int):=rfl
                have hxB:=hx.alloc hx.size (.cells #[bv ch] 5)
                rw [hb0] at hownB hsrc hxB
                have HNX:=Lib.hid hnx
                clear hnx hb0
                skip
                go_wp2_with (at_builtin
                             refine wpList_append_Own _ (by rfl) (.tmp 51) (.tmp 56) 22 (by rfl) w.heap.size 5 i0 _ 1 1 Try.underlying22 hi hz0 hz1 hz2 (by rfl) (by omega) (.slice A1 out.length c1) out.length (out.map bv) (by rfl) hownB _ _ _ _ (by rfl) hsrc (by simp [Value.oneCell']) (by simp only [maxLen];omega) (by omega) (by simp;have:=hx.size;omega) ?_
                             intro v2 w2 hown2 hgr2 hat2
                             have hx2:Below w.heap.size w w2:=hxB.grown hgr2 hxB.size (fun k hk=>(hownB.lt k hk).1))
                go_roundg f
                case measure=>omega
                case rel=>exact ⟨an+1,fn / 2,8-1,out++[ch],congrArg (Value.int .i64) (by omega),congrArg (Value.int .i64) (by omega),congrArg (Value.int .i64) (by omega),HNX,by simp;omega,by simp;omega,by omega,by simp;omega,by omega,by omega,OwnB.snoc_ hown2,hx2⟩
              · have haB:decide ((b.length:Int)<=((an:Nat):Int))=true:=decide_eq_true (by omega)
                have haC:decide (b.length<=an)=true:=decide_eq_true (by omega)
                have haD:(b.length:Int)<=((an:Nat):Int):=by omega
                have HDEAD:Hid (S=none):=Lib.hid (by rw [<-HRN.out,drop_nil (by omega),Pk.rnd_lit0 hev])
                skip
                have hRR:=HR2.out
                rw [HDEAD.out] at hRR
                simp only at hRR
                subst hRR
                go_wp2_with fail
                go_ret2
                exact (HP.out _ _).2 ⟨_,rfl,Own.nil_ _ _ _ _,hx⟩
            · have hevB:(((fn:Nat):Int) % 2==0)=false:=by rw [beq_eq_false_iff_ne];omega
              by_cases ha:an+1<b.length
              · have haB:decide ((b.length:Int)<=((an:Nat):Int)+1)=false:=decide_eq_false (by omega)
                have cq:wr.cell? ⟨q,off+an,none⟩=some (.int .u8 ((b.getD (an) 0).toNat:Int)):=(hx.cell (p:=⟨q,off+an,none⟩) hq).trans (HC.out (an) (by omega))
                have cq1:wr.cell? ⟨q,off+(an+1),none⟩=some (.int .u8 ((b.getD ((an+1)) 0).toNat:Int)):=(hx.cell (p:=⟨q,off+(an+1),none⟩) hq).trans (HC.out ((an+1)) (by omega))
                have hnx:=HRN.out
                rw [drop_at (show an<b.length by omega),drop_at ha] at hnx
                have hc1:=(b.getD (an) 0).toNat_lt
                have hc2:=(b.getD (an+1) 0).toNat_lt
                generalize b.getD (an) 0=y0 at *
                generalize b.getD (an+1) 0=y1 at *
                have hl1:((an:Nat):Int)<(b.length:Int):=by omega
                have hl2:((an:Nat):Int)+1<(b.length:Int):=by omega
                have n1:(0:Int)<=((an:Nat):Int)+1:=by omega
                have n2:(((an:Nat):Int)+1).toNat=an+1:=by omega
                have n3:IntKind.i64.wrap (((an:Nat):Int)+1)=((an:Nat):Int)+1:=IntWalk.i64_in _ (by omega)
                have y0I:(y0.toNat:Int)<256:=by omega
                have y1I:(y1.toNat:Int)<256:=by omega
                obtain ⟨X,hX⟩:∃ X,y0.toNat * 256+y1.toNat=X:=⟨_,rfl⟩
                have hXI:Hid (256*(y0.toNat:Int)+(y1.toNat:Int)=((X:Nat):Int)):=Lib.hid (by omega)
                have hXw:Hid (IntKind.i64.wrap (IntKind.i64.wrap (256*(y0.toNat:Int))+(y1.toNat:Int))=((X:Nat):Int)):=Lib.hid (by rw [show IntKind.i64.wrap (256*(y0.toNat:Int))=256*(y0.toNat:Int) from IntWalk.i64_in _ (by omega),IntWalk.i64_in _ (by omega)];omega)
                have hXl:X<65536:=by omega
                have HNX:=Lib.hid hnx
                have HXX:=Lib.hid hX
                have HN2:=Lib.hid n2
                have HN3:=Lib.hid n3
                clear hnx hX n2 n3 hc1 hc2
                skip
                go_upto_region 21 with (fail)
                have n2:=HN2.out
                have n3:=HN3.out
                go_quiet (fail)
                clear n2 n3
                go_upto_region 22 with (fail)
                first | rw [hXI.out] | rw [hXw.out]
                have hxq:=below_drewN hx nq
                have hoq:=Own.drewN hown nq
                generalize wr.drewN nq=wq at *
                clear cq cq1
                by_cases hbk:out.length<X % 1024+1
                · have hbB:(out.length:Int)<(X:Int) % 1024+1:=by omega
                  have HDEAD:Hid (S=none):=Lib.hid (by have h:=HNX.out;rw [Pk.rnd_cp1 hev (by rw [HXX.out];exact hbk)] at h;exact h.symm)
                  have hRR:=HR2.out
                  rw [HDEAD.out] at hRR
                  simp only at hRR
                  subst hRR
                  go_wp2_with fail
                  go_ret2
                  exact (HP.out _ _).2 ⟨_,rfl,Own.nil_ _ _ _ _,hxq⟩
                · have hbB:decide ((out.length:Int)<(X:Int) % 1024+1)=false:=decide_eq_false (by omega)
                  have HN4:Hid (Pk.rfU size f (fn / 2) (8-1) (b.drop (an+1+1)) (Pk.copyN out (X % 1024+1) (X / 1024+3))=S):=Lib.hid (by have h:=HNX.out;rw [Pk.rnd_cp hev (by rw [HXX.out];exact hbk),HXX.out] at h;exact h)
                  obtain ⟨bk,hbke⟩:∃ k:Nat,k=X % 1024+1:=⟨_,rfl⟩
                  obtain ⟨ln,hlne⟩:∃ k:Nat,k=X / 1024+3:=⟨_,rfl⟩
                  have hb1:1<=bk/\bk<=out.length/\bk<=1024:=by omega
                  obtain ⟨hb1,hb2,hb3⟩:=hb1
                  have hl3:3<=ln/\ln<=66:=by omega
                  obtain ⟨hl3,hl66⟩:=hl3
                  have HBK:Hid ((X:Int) % 1024+1=((bk:Nat):Int)):=Lib.hid (by omega)
                  have HLN:Hid ((X:Int) / 1024+3=((ln:Nat):Int)):=Lib.hid (by omega)
                  rw [<-hbke,<-hlne] at HN4
                  clear hbke hlne hbk
                  go_wp2_with fail
                  rw [HBK.out]
                  generalize wq=wq0 at *
                  go_loopg [5,11] ln (fun k v i wz=>∃ r:Nat,r+k=ln/\i = .int .i64 (r:Int)/\OwnB wz w.heap.size v (Pk.copyN out bk r)/\Below w.heap.size w wz)
                  case atStart=>exact ⟨0,by omega,rfl,hoq,hxq⟩
                  case round =>
                   clear hoq hxq hown hx
                   obtain ⟨r,hr,rfl,ho,hx⟩:=hrel
                   have hcl:=length_copy out bk r
                   have hfin:Hid (r=ln->Pk.copyN out bk r=Pk.copyN out bk ln):=Lib.hid (fun h=>by rw [h])
                   by_cases hrn:r<ln
                   · have hnx:Pk.copyN out bk (r+1)=Pk.copyN out bk r++[(Pk.copyN out bk r).getD ((Pk.copyN out bk r).length-bk) 0]:=rfl
                     clear hfin
                     generalize Pk.copyN out bk r=cur at *
                     obtain ⟨A2,c2,hv2,hac2,_⟩:=Own.shape ho
                     subst hv2
                     have hrnB:(r:Int)<(X:Int) / 1024+3:=by have:=HLN.out;omega
                     have hcm1:cur.length<=4140:=by omega
                     have hmc:bk<=cur.length:=by omega
                     obtain ⟨q3,off2,rfl,hq3,hcq⟩:∃ q off,A2=some ⟨q,off,none⟩/\q<wr.heap.size/\wr.cell? ⟨q,off+(cur.length-bk),none⟩=some (.int .u8 ((cur.getD (cur.length-bk) 0).toNat:Int)):=by
                      obtain ⟨A',c',hv,_,_,_,h⟩:=OwnB.bytes ho
                      injection hv with z1 z2 z3
                      subst z1
                      obtain ⟨q,off,h,_,hq,hcc⟩:=h (by omega)
                      exact ⟨q,off,h,hq,hcc (cur.length-bk) (bv (cur.getD (cur.length-bk) 0)) (by rw [List.getElem?_map,List.getElem?_eq_getElem (by omega),getD_at (by omega)];rfl)⟩
                     generalize cur.getD (cur.length-bk) 0=x at *
                     obtain ⟨hownB,hsrc⟩:=byte_prep x ho
                     have hb0:bv x = .int .u8 (x.toNat:Int):=rfl
                     have hxB:=hx.alloc hx.size (.cells #[bv x] 5)
                     rw [hb0] at hownB hsrc hxB
                     have z1:(0:Int)<=(cur.length:Int)-(bk:Int):=by omega
                     have z2:(cur.length:Int)-(bk:Int)<(cur.length:Int):=by omega
                     have z3:(bk:Int)<=(cur.length:Int):=by omega
                     have z4:((cur.length:Int)-(bk:Int)).toNat=cur.length-bk:=by omega
                     have HN5:=Lib.hid hnx
                     have HCL:=Lib.hid hcl
                     clear hnx hcl hb0
                     go_wp2_with (at_builtin
                                  refine wpList_append_Own _ (by rfl) (.tmp 94) (.tmp 102) 22 (by rfl) w.heap.size 5 i0 _ 1 1 Try.underlying22 hi hz0 hz1 hz2 (by rfl) (by omega) (.slice (some ⟨q3,off2,none⟩) cur.length c2) cur.length (cur.map bv) (by rfl) hownB _ _ _ _ (by rfl) hsrc (by simp [Value.oneCell']) (by simp only [maxLen];omega) (by omega) (by simp;have:=hx.size;omega) ?_
                                  intro v3 w3 hown3 hgr3 hat3
                                  have hx3:Below w.heap.size w w3:=hxB.grown hgr3 hxB.size (fun k hk=>(hownB.lt k hk).1))
                     go_roundg (gk-1)
                     case measure=>omega
                     case rel=>exact ⟨r+1,by omega,by go_num,by rw [HN5.out];exact OwnB.snoc_ hown3,hx3⟩
                   · have hrnB:decide ((r:Int)<(X:Int) / 1024+3)=false:=decide_eq_false (by have:=HLN.out;omega)
                     have HF2:Hid (Pk.rfU size f (fn / 2) (8-1) (b.drop (an+1+1)) (Pk.copyN out bk r)=S):=Lib.hid (by rw [hfin.out (by omega)];exact HN4.out)
                     clear hfin
                     generalize Pk.copyN out bk r=cur at *
                     obtain ⟨A2,c2,hv2,hac2,_⟩:=Own.shape ho
                     subst hv2
                     have hcl4:cur.length<=4070:=by omega
                     have hclz:size<=f+cur.length:=by omega
                     have hcl3:an+1+1<=2+3*cur.length:=by omega
                     clear hcl
                     go_wp2_with fail
                     go_roundg f
                     case measure=>omega
                     case rel=>exact ⟨an+1+1,fn / 2,8-1,cur,congrArg (Value.int .i64) (by omega),congrArg (Value.int .i64) (by omega),congrArg (Value.int .i64) (by omega),HF2,hclz,hcl4,by omega,hcl3,by omega,by omega,ho,hx⟩
              · have haB:decide ((b.length:Int)<=((an:Nat):Int)+1)=true:=decide_eq_true (by omega)
                have haD:(b.length:Int)<=((an:Nat):Int)+1:=by omega
                have haE:decide (b.length<=an+1)=true:=decide_eq_true (by omega)
                have haF:b.length<=an+1:=by omega
                have HDEAD:Hid (S=none):=Lib.hid (by rw [<-HRN.out,Pk.rnd_cp0 hev (by rw [List.length_drop];omega)])
                skip
                have hRR:=HR2.out
                rw [HDEAD.out] at hRR
                simp only at hRR
                subst hRR
                go_wp2_with fail
                go_ret2
                exact (HP.out _ _).2 ⟨_,rfl,Own.nil_ _ _ _ _,hx⟩
          · have h0B:decide ((b.length:Int)<=(at_:Int))=true:=decide_eq_true (by omega)
            have h0C:decide (b.length<=at_)=true:=decide_eq_true (by omega)
            have h0D:(b.length:Int)<=(at_:Int):=by omega
            have HDEAD:Hid (S=none):=Lib.hid (by rw [<-HT.out,drop_nil (by omega),Pk.rfU_dead hlt (Pk.hd1_none rfl)])
            have hRR:=HR2.out
            rw [HDEAD.out] at hRR
            simp only at hRR
            subst hRR
            go_wp2_with fail
            go_ret2
            exact (HP.out _ _).2 ⟨_,rfl,Own.nil_ _ _ _ _,hx⟩
        · have hl0B:((left:Int)==0)=false:=by rw [beq_eq_false_iff_ne];omega
          have HRN:Hid (Pk.rnd size f fl left (b.drop at_) out=S):=Lib.hid (by rw [<-HT.out,Pk.rfU_rnd hlt (Pk.hd1_more hl0)])
          clear HT
          go_upto_region 14 with (fail)
          by_cases hev:fl % 2=0
          · have hevB:(((fl:Nat):Int) % 2==0)=true:=by rw [beq_iff_eq];omega
            by_cases ha:at_<b.length
            · have haB:decide ((b.length:Int)<=((at_:Nat):Int))=false:=decide_eq_false (by omega)
              have haC:decide (b.length<=at_)=false:=decide_eq_false (by omega)
              have hlI:((at_:Nat):Int)<(b.length:Int):=by omega
              have cq:wr.cell? ⟨q,off+at_,none⟩=some (.int .u8 ((b.getD (at_) 0).toNat:Int)):=(hx.cell (p:=⟨q,off+at_,none⟩) hq).trans (HC.out (at_) (by omega))
              have hnx:=HRN.out
              rw [drop_at ha,Pk.rnd_lit hev] at hnx
              generalize b.getD (at_) 0=ch at *
              obtain ⟨hownB,hsrc⟩:=byte_prep ch hown
              have hb0:bv ch = .int .u8 (ch.toNat:Int):=rfl
              have hxB:=hx.alloc hx.size (.cells #[bv ch] 5)
              rw [hb0] at hownB hsrc hxB
              have HNX:=Lib.hid hnx
              clear hnx hb0
              skip
              go_wp2_with (at_builtin
                           refine wpList_append_Own _ (by rfl) (.tmp 51) (.tmp 56) 22 (by rfl) w.heap.size 5 i0 _ 1 1 Try.underlying22 hi hz0 hz1 hz2 (by rfl) (by omega) (.slice A1 out.length c1) out.length (out.map bv) (by rfl) hownB _ _ _ _ (by rfl) hsrc (by simp [Value.oneCell']) (by simp only [maxLen];omega) (by omega) (by simp;have:=hx.size;omega) ?_
                           intro v2 w2 hown2 hgr2 hat2
                           have hx2:Below w.heap.size w w2:=hxB.grown hgr2 hxB.size (fun k hk=>(hownB.lt k hk).1))
              go_roundg f
              case measure=>omega
              case rel=>exact ⟨at_+1,fl / 2,left-1,out++[ch],congrArg (Value.int .i64) (by omega),congrArg (Value.int .i64) (by omega),congrArg (Value.int .i64) (by omega),HNX,by simp;omega,by simp;omega,by omega,by simp;omega,by omega,by omega,OwnB.snoc_ hown2,hx2⟩
            · have haB:decide ((b.length:Int)<=((at_:Nat):Int))=true:=decide_eq_true (by omega)
              have haC:decide (b.length<=at_)=true:=decide_eq_true (by omega)
              have haD:(b.length:Int)<=((at_:Nat):Int):=by omega
              have HDEAD:Hid (S=none):=Lib.hid (by rw [<-HRN.out,drop_nil (by omega),Pk.rnd_lit0 hev])
              skip
              have hRR:=HR2.out
              rw [HDEAD.out] at hRR
              simp only at hRR
              subst hRR
              go_wp2_with fail
              go_ret2
              exact (HP.out _ _).2 ⟨_,rfl,Own.nil_ _ _ _ _,hx⟩
          · have hevB:(((fl:Nat):Int) % 2==0)=false:=by rw [beq_eq_false_iff_ne];omega
            by_cases ha:at_+1<b.length
            · have haB:decide ((b.length:Int)<=((at_:Nat):Int)+1)=false:=decide_eq_false (by omega)
              have cq:wr.cell? ⟨q,off+at_,none⟩=some (.int .u8 ((b.getD (at_) 0).toNat:Int)):=(hx.cell (p:=⟨q,off+at_,none⟩) hq).trans (HC.out (at_) (by omega))
              have cq1:wr.cell? ⟨q,off+(at_+1),none⟩=some (.int .u8 ((b.getD ((at_+1)) 0).toNat:Int)):=(hx.cell (p:=⟨q,off+(at_+1),none⟩) hq).trans (HC.out ((at_+1)) (by omega))
              have hnx:=HRN.out
              rw [drop_at (show at_<b.length by omega),drop_at ha] at hnx
              have hc1:=(b.getD (at_) 0).toNat_lt
              have hc2:=(b.getD (at_+1) 0).toNat_lt
              generalize b.getD (at_) 0=y0 at *
              generalize b.getD (at_+1) 0=y1 at *
              have hl1:((at_:Nat):Int)<(b.length:Int):=by omega
              have hl2:((at_:Nat):Int)+1<(b.length:Int):=by omega
              have n1:(0:Int)<=((at_:Nat):Int)+1:=by omega
              have n2:(((at_:Nat):Int)+1).toNat=at_+1:=by omega
              have n3:IntKind.i64.wrap (((at_:Nat):Int)+1)=((at_:Nat):Int)+1:=IntWalk.i64_in _ (by omega)
              have y0I:(y0.toNat:Int)<256:=by omega
              have y1I:(y1.toNat:Int)<256:=by omega
              obtain ⟨X,hX⟩:∃ X,y0.toNat * 256+y1.toNat=X:=⟨_,rfl⟩
              have hXI:Hid (256*(y0.toNat:Int)+(y1.toNat:Int)=((X:Nat):Int)):=Lib.hid (by omega)
              have hXw:Hid (IntKind.i64.wrap (IntKind.i64.wrap (256*(y0.toNat:Int))+(y1.toNat:Int))=((X:Nat):Int)):=Lib.hid (by rw [show IntKind.i64.wrap (256*(y0.toNat:Int))=256*(y0.toNat:Int) from IntWalk.i64_in _ (by omega),IntWalk.i64_in _ (by omega)];omega)
              have hXl:X<65536:=by omega
              have HNX:=Lib.hid hnx
              have HXX:=Lib.hid hX
              have HN2:=Lib.hid n2
              have HN3:=Lib.hid n3
              clear hnx hX n2 n3 hc1 hc2
              skip
              go_upto_region 21 with (fail)
              have n2:=HN2.out
              have n3:=HN3.out
              go_quiet (fail)
              clear n2 n3
              go_upto_region 22 with (fail)
              first | rw [hXI.out] | rw [hXw.out]
              have hxq:=below_drewN hx nq
              have hoq:=Own.drewN hown nq
              generalize wr.drewN nq=wq at *
              clear cq cq1
              by_cases hbk:out.length<X % 1024+1
              · have hbB:(out.length:Int)<(X:Int) % 1024+1:=by omega
                have HDEAD:Hid (S=none):=Lib.hid (by have h:=HNX.out;rw [Pk.rnd_cp1 hev (by rw [HXX.out];exact hbk)] at h;exact h.symm)
                have hRR:=HR2.out
                rw [HDEAD.out] at hRR
                simp only at hRR
                subst hRR
                go_wp2_with fail
                go_ret2
                exact (HP.out _ _).2 ⟨_,rfl,Own.nil_ _ _ _ _,hxq⟩
              · have hbB:decide ((out.length:Int)<(X:Int) % 1024+1)=false:=decide_eq_false (by omega)
                have HN4:Hid (Pk.rfU size f (fl / 2) (left-1) (b.drop (at_+1+1)) (Pk.copyN out (X % 1024+1) (X / 1024+3))=S):=Lib.hid (by have h:=HNX.out;rw [Pk.rnd_cp hev (by rw [HXX.out];exact hbk),HXX.out] at h;exact h)
                obtain ⟨bk,hbke⟩:∃ k:Nat,k=X % 1024+1:=⟨_,rfl⟩
                obtain ⟨ln,hlne⟩:∃ k:Nat,k=X / 1024+3:=⟨_,rfl⟩
                have hb1:1<=bk/\bk<=out.length/\bk<=1024:=by omega
                obtain ⟨hb1,hb2,hb3⟩:=hb1
                have hl3:3<=ln/\ln<=66:=by omega
                obtain ⟨hl3,hl66⟩:=hl3
                have HBK:Hid ((X:Int) % 1024+1=((bk:Nat):Int)):=Lib.hid (by omega)
                have HLN:Hid ((X:Int) / 1024+3=((ln:Nat):Int)):=Lib.hid (by omega)
                rw [<-hbke,<-hlne] at HN4
                clear hbke hlne hbk
                go_wp2_with fail
                rw [HBK.out]
                generalize wq=wq0 at *
                go_loopg [5,11] ln (fun k v i wz=>∃ r:Nat,r+k=ln/\i = .int .i64 (r:Int)/\OwnB wz w.heap.size v (Pk.copyN out bk r)/\Below w.heap.size w wz)
                case atStart=>exact ⟨0,by omega,rfl,hoq,hxq⟩
                case round =>
                 clear hoq hxq hown hx
                 obtain ⟨r,hr,rfl,ho,hx⟩:=hrel
                 have hcl:=length_copy out bk r
                 have hfin:Hid (r=ln->Pk.copyN out bk r=Pk.copyN out bk ln):=Lib.hid (fun h=>by rw [h])
                 by_cases hrn:r<ln
                 · have hnx:Pk.copyN out bk (r+1)=Pk.copyN out bk r++[(Pk.copyN out bk r).getD ((Pk.copyN out bk r).length-bk) 0]:=rfl
                   clear hfin
                   generalize Pk.copyN out bk r=cur at *
                   obtain ⟨A2,c2,hv2,hac2,_⟩:=Own.shape ho
                   subst hv2
                   have hrnB:(r:Int)<(X:Int) / 1024+3:=by have:=HLN.out;omega
                   have hcm1:cur.length<=4140:=by omega
                   have hmc:bk<=cur.length:=by omega
                   obtain ⟨q3,off2,rfl,hq3,hcq⟩:∃ q off,A2=some ⟨q,off,none⟩/\q<wr.heap.size/\wr.cell? ⟨q,off+(cur.length-bk),none⟩=some (.int .u8 ((cur.getD (cur.length-bk) 0).toNat:Int)):=by
                    obtain ⟨A',c',hv,_,_,_,h⟩:=OwnB.bytes ho
                    injection hv with z1 z2 z3
                    subst z1
                    obtain ⟨q,off,h,_,hq,hcc⟩:=h (by omega)
                    exact ⟨q,off,h,hq,hcc (cur.length-bk) (bv (cur.getD (cur.length-bk) 0)) (by rw [List.getElem?_map,List.getElem?_eq_getElem (by omega),getD_at (by omega)];rfl)⟩
                   generalize cur.getD (cur.length-bk) 0=x at *
                   obtain ⟨hownB,hsrc⟩:=byte_prep x ho
                   have hb0:bv x = .int .u8 (x.toNat:Int):=rfl
                   have hxB:=hx.alloc hx.size (.cells #[bv x] 5)
                   rw [hb0] at hownB hsrc hxB
                   have z1:(0:Int)<=(cur.length:Int)-(bk:Int):=by omega
                   have z2:(cur.length:Int)-(bk:Int)<(cur.length:Int):=by omega
                   have z3:(bk:Int)<=(cur.length:Int):=by omega
                   have z4:((cur.length:Int)-(bk:Int)).toNat=cur.length-bk:=by omega
                   have HN5:=Lib.hid hnx
                   have HCL:=Lib.hid hcl
                   clear hnx hcl hb0
                   go_wp2_with (at_builtin
                                refine wpList_append_Own _ (by rfl) (.tmp 94) (.tmp 102) 22 (by rfl) w.heap.size 5 i0 _ 1 1 Try.underlying22 hi hz0 hz1 hz2 (by rfl) (by omega) (.slice (some ⟨q3,off2,none⟩) cur.length c2) cur.length (cur.map bv) (by rfl) hownB _ _ _ _ (by rfl) hsrc (by simp [Value.oneCell']) (by simp only [maxLen];omega) (by omega) (by simp;have:=hx.size;omega) ?_
                                intro v3 w3 hown3 hgr3 hat3
                                have hx3:Below w.heap.size w w3:=hxB.grown hgr3 hxB.size (fun k hk=>(hownB.lt k hk).1))
                   go_roundg (gk-1)
                   case measure=>omega
                   case rel=>exact ⟨r+1,by omega,by go_num,by rw [HN5.out];exact OwnB.snoc_ hown3,hx3⟩
                 · have hrnB:decide ((r:Int)<(X:Int) / 1024+3)=false:=decide_eq_false (by have:=HLN.out;omega)
                   have HF2:Hid (Pk.rfU size f (fl / 2) (left-1) (b.drop (at_+1+1)) (Pk.copyN out bk r)=S):=Lib.hid (by rw [hfin.out (by omega)];exact HN4.out)
                   clear hfin
                   generalize Pk.copyN out bk r=cur at *
                   obtain ⟨A2,c2,hv2,hac2,_⟩:=Own.shape ho
                   subst hv2
                   have hcl4:cur.length<=4070:=by omega
                   have hclz:size<=f+cur.length:=by omega
                   have hcl3:at_+1+1<=2+3*cur.length:=by omega
                   clear hcl
                   go_wp2_with fail
                   go_roundg f
                   case measure=>omega
                   case rel=>exact ⟨at_+1+1,fl / 2,left-1,cur,congrArg (Value.int .i64) (by omega),congrArg (Value.int .i64) (by omega),congrArg (Value.int .i64) (by omega),HF2,hclz,hcl4,by omega,hcl3,by omega,by omega,ho,hx⟩
            · have haB:decide ((b.length:Int)<=((at_:Nat):Int)+1)=true:=decide_eq_true (by omega)
              have haD:(b.length:Int)<=((at_:Nat):Int)+1:=by omega
              have haE:decide (b.length<=at_+1)=true:=decide_eq_true (by omega)
              have haF:b.length<=at_+1:=by omega
              have HDEAD:Hid (S=none):=Lib.hid (by rw [<-HRN.out,Pk.rnd_cp0 hev (by rw [List.length_drop];omega)])
              skip
              have hRR:=HR2.out
              rw [HDEAD.out] at hRR
              simp only at hRR
              subst hRR
              go_wp2_with fail
              go_ret2
              exact (HP.out _ _).2 ⟨_,rfl,Own.nil_ _ _ _ _,hx⟩
      · have hltB:decide ((out.length:Int)<(size:Int))=false:=decide_eq_false (by omega)
        have hltC:decide (out.length<size)=false:=decide_eq_false (by omega)
        have hend:=HT.out
        rw [Pk.rfU_end (by omega)] at hend
        by_cases e1:at_=b.length
        · have e1B:((at_:Int) != (b.length:Int))=false:=by rw [bne_eq_false_iff_eq];omega
          by_cases e2:out.length=size
          · have e2B:((out.length:Int) != (size:Int))=false:=by rw [bne_eq_false_iff_eq];omega
            by_cases e3:fl=0
            · have e3B:((fl:Int) != 0)=false:=by rw [bne_eq_false_iff_eq];omega
              rw [Pk.endU_some ⟨drop_nil (by omega),e2,e3⟩] at hend
              have hRR:=HR2.out
              rw [<-hend] at hRR
              simp only at hRR
              subst hRR
              clear e1 e2 e3 hend
              go_wp2_with fail
              go_ret2
              exact (HP.out _ _).2 ⟨_,rfl,hown,hx⟩
            · have e3B:((fl:Int) != 0)=true:=by rw [bne_iff_ne];omega
              rw [Pk.endU_none (fun h=>e3 h.2.2)] at hend
              have HDEAD:Hid (S=none):=Lib.hid hend.symm
              clear e1 e2 e3 hend
              have hRR:=HR2.out
              rw [HDEAD.out] at hRR
              simp only at hRR
              subst hRR
              go_wp2_with fail
              go_ret2
              exact (HP.out _ _).2 ⟨_,rfl,Own.nil_ _ _ _ _,hx⟩
          · have e2B:((out.length:Int) != (size:Int))=true:=by rw [bne_iff_ne];omega
            rw [Pk.endU_none (fun h=>e2 h.2.1)] at hend
            have HDEAD:Hid (S=none):=Lib.hid hend.symm
            clear e1 e2 hend
            have hRR:=HR2.out
            rw [HDEAD.out] at hRR
            simp only at hRR
            subst hRR
            go_wp2_with fail
            go_ret2
            exact (HP.out _ _).2 ⟨_,rfl,Own.nil_ _ _ _ _,hx⟩
        · have e1B:((at_:Int) != (b.length:Int))=true:=by rw [bne_iff_ne];omega
          rw [Pk.endU_none (fun h=>e1 (by have:=congrArg List.length h.1;rw [List.length_drop] at this;simp at this;omega))] at hend
          have HDEAD:Hid (S=none):=Lib.hid hend.symm
          clear e1 hend
          have hRR:=HR2.out
          rw [HDEAD.out] at hRR
          simp only at hRR
          subst hRR
          go_wp2_with fail
          go_ret2
          exact (HP.out _ _).2 ⟨_,rfl,Own.nil_ _ _ _ _,hx⟩
end Go.Proofs.Ytfdibjgmbdkbcaa
