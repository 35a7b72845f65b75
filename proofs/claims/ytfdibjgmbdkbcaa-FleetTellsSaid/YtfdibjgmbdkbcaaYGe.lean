/-
  Plain law, no program: tokens, texts, packing and unpacking as the walks of pack and yearref4 come to them. No conditions. THE PLAIN LAWS of packing, no program: what is packed is unpacked; how long it is; tokens of a beginning; texts one behind the other. No conditions. THE PLAIN LAW of unpacking, as the walk comes to it, no program; and bits of integers. No conditions. A group of tokens grows by one; a flag is set in a byte; plain. No conditions.
-/
import Derived.Laws.BitsAllLaws
import Derived.Laws.BitsLemmas
import Derived.IntWalk
import Derived.Test.YtfdibjgmbdkbcaaYGa
namespace Go.Proofs.Ytfdibjgmbdkbcaa
namespace Pk
structure Tok where
 len:Int
 back:Int
 byte:UInt8
deriving DecidableEq
def lit (c:UInt8):Tok:=⟨0,0,c⟩
def cp (n back:Nat):Tok:=⟨n,back,0⟩
def mgo (b:Bs) (pos back:Nat):Nat->Nat->Nat
 | 0,n=>n
 | f+1,n=>if pos+n<b.length/\b.getD (pos+n) 0=b.getD (pos+n-back) 0 then mgo b pos back f (n+1) else n
def mlen (b:Bs) (pos back:Nat):Nat:=mgo b pos back 66 0
def best (b:Bs) (pos:Nat):Nat->Nat × Nat
 | 0=>(0,0)
 | j+1=>if (best b pos j).1<mlen b pos (j+1) then (mlen b pos (j+1),j+1) else best b pos j
def longest (b:Bs) (pos:Nat):Nat × Nat:=best b pos (min pos 1024)
def tokAt (b:Bs) (pos:Nat):Tok:=if (longest b pos).1<3 then lit (b.getD pos 0) else cp (longest b pos).1 (longest b pos).2
def stepAt (b:Bs) (pos:Nat):Nat:=if (longest b pos).1<3 then 1 else (longest b pos).1
def toksF (b:Bs):Nat->Nat->List Tok
 | 0,_=>[]
 | f+1,pos=>if pos<b.length then tokAt b pos::toksF b f (pos+stepAt b pos) else []
def toks (b:Bs):List Tok:=toksF b b.length 0
def copyN (out:Bs) (back:Nat):Nat->Bs
 | 0=>out
 | k+1=>copyN out back k++[(copyN out back k).getD ((copyN out back k).length-back) 0]
def bad (t:Tok) (n:Nat):Nat :=
 if t.len≠0/\(t.len<3\/66<t.len\/t.back<1\/1024<t.back) then 3
 else if t.len≠0/\(n:Int)<t.back then 7
 else if 4000<(n:Int)+max t.len 1 then 4
 else 0
def more (out:Bs) (t:Tok):Bs:=if t.len=0 then out++[t.byte] else copyN out t.back.toNat t.len.toNat
def textF:List Tok->Nat->Bs->Sum Bs (Nat × Nat)
 | [],_,out=>.inl out
 | t::l,i,out=>if bad t out.length=0 then textF l (i+1) (more out t) else .inr (bad t out.length,i)
def text (l:List Tok):Sum Bs (Nat × Nat):=textF l 0 []
def flags:List Tok->Nat
 | []=>0
 | t::l=>(if t.len=0 then 0 else 1)+2*flags l
def wordOf (t:Tok):Nat:=1024*(t.len-3).toNat+(t.back-1).toNat
def body (t:Tok):Bs:=if t.len=0 then [t.byte] else [UInt8.ofNat (wordOf t / 256),UInt8.ofNat (wordOf t)]
def grp (g:List Tok):Bs:=UInt8.ofNat (flags g)::g.flatMap body
def grps:Nat->List Tok->Bs
 | 0,_=>[]
 | f+1,l=>if l=[] then [] else grp (l.take 8)++grps f (l.drop 8)
def size2 (n:Nat):Bs:=[UInt8.ofNat (n / 256),UInt8.ofNat n]
def write (l:List Tok) (n:Nat):Bs:=size2 n++grps l.length l
def pack (b:Bs):Bs:=write (toks b) b.length
end Pk
end Go.Proofs.Ytfdibjgmbdkbcaa
namespace Go.Proofs.Ytfdibjgmbdkbcaa
namespace Pk
theorem flags_cons (t:Tok) (l:List Tok):flags (t::l)=(if t.len=0 then 0 else 1)+2*flags l:=rfl
theorem toksF_succ (b:Bs) (f pos:Nat):toksF b (f+1) pos=if pos<b.length then tokAt b pos::toksF b f (pos+stepAt b pos) else []:=rfl
theorem textF_cons (t:Tok) (l:List Tok) (i:Nat) (out:Bs):textF (t::l) i out=if bad t out.length=0 then textF l (i+1) (more out t) else .inr (bad t out.length,i):=rfl
theorem mgo_spec (b:Bs) (pos back:Nat):∀ f n,(∀ k,k<n->pos+k<b.length/\b.getD (pos+k) 0=b.getD (pos+k-back) 0) →
 n<=mgo b pos back f n/\mgo b pos back f n<=n+f/\(∀ k,k<mgo b pos back f n->pos+k<b.length/\b.getD (pos+k) 0=b.getD (pos+k-back) 0) ∧
 (mgo b pos back f n<n+f->¬ (pos+mgo b pos back f n<b.length/\b.getD (pos+mgo b pos back f n) 0=b.getD (pos+mgo b pos back f n-back) 0))
 | 0,n,h=>by simp [mgo];exact h
 | f+1,n,h=>by
   unfold mgo
   split
   · rename_i hc
     obtain ⟨h1,h2,h3,h4⟩:=mgo_spec b pos back f (n+1) (fun k hk=>by
      rcases Nat.lt_or_ge k n with hlt | hge
      · exact h k hlt
      · have:k=n:=by omega
        subst this;exact hc)
     exact ⟨by omega,by omega,h3,fun hlt=>h4 (by omega)⟩
   · rename_i hc
     exact ⟨Nat.le_refl _,by omega,h,fun _=>hc⟩
theorem mlen_le (b:Bs) (pos back:Nat):mlen b pos back<=66:=by
 have:=(mgo_spec b pos back 66 0 (fun k hk=>absurd hk (by omega))).2.1
 unfold mlen;omega
theorem mlen_at (b:Bs) (pos back k:Nat) (hk:k<mlen b pos back):pos+k<b.length/\b.getD (pos+k) 0=b.getD (pos+k-back) 0 :=
 (mgo_spec b pos back 66 0 (fun k hk=>absurd hk (by omega))).2.2.1 k hk
theorem best_spec (b:Bs) (pos:Nat):∀ j,(∀ i,1<=i->i<=j->mlen b pos i<=(best b pos j).1) ∧
 ((best b pos j).1=0\/(1<=(best b pos j).2/\(best b pos j).2<=j/\mlen b pos (best b pos j).2=(best b pos j).1))
 | 0=>⟨fun i h1 h2=>by omega,.inl rfl⟩
 | j+1=>by
   obtain ⟨h1,h2⟩:=best_spec b pos j
   unfold best
   split
   · rename_i hc
     refine ⟨fun i hi hij=>?_,.inr ⟨by simp,by simp,rfl⟩⟩
     rcases Nat.lt_or_ge i (j+1) with hlt | hge
     · have:=h1 i hi (by omega);simp;omega
     · have:i=j+1:=by omega
       subst this;simp
   · rename_i hc
     refine ⟨fun i hi hij=>?_,?_⟩
     · rcases Nat.lt_or_ge i (j+1) with hlt | hge
       · exact h1 i hi (by omega)
       · have:i=j+1:=by omega
         subst this;omega
     · rcases h2 with h | ⟨ha,hb,hc⟩
       · exact .inl h
       · exact .inr ⟨ha,by omega,hc⟩
theorem best_le (b:Bs) (pos j:Nat):(best b pos j).1<=66:=by
 rcases (best_spec b pos j).2 with h | ⟨_,_,h⟩
 · omega
 · have:=mlen_le b pos (best b pos j).2;omega
theorem longest_le (b:Bs) (pos:Nat):(longest b pos).1<=66:=best_le _ _ _
theorem longest_spec (b:Bs) (pos:Nat) (h:0<(longest b pos).1):1<=(longest b pos).2/\(longest b pos).2<=pos/\(longest b pos).2<=1024/\mlen b pos (longest b pos).2=(longest b pos).1:=by
 rcases (best_spec b pos (min pos 1024)).2 with h0 | ⟨h1,h2,h3⟩
 · unfold longest at h;omega
 · unfold longest;exact ⟨h1,by omega,by omega,h3⟩
def Okt (t:Tok):Prop:=(∃ c,t=lit c)\/∃ n back:Nat,t=cp n back/\3<=n/\n<=66/\1<=back/\back<=1024
def wt (t:Tok):Nat:=max t.len.toNat 1
def wts (l:List Tok):Nat:=(l.map wt).sum
theorem wts_cons (t:Tok) (l:List Tok):wts (t::l)=wt t+wts l:=by simp [wts]
theorem wt_pos (t:Tok):1<=wt t:=by unfold wt;omega
theorem wts_len:∀ l:List Tok,l.length<=wts l
 | []=>by simp [wts]
 | t::l=>by have:=wts_len l;have:=wt_pos t;rw [wts_cons,List.length_cons];omega
theorem step_pos (b:Bs) (pos:Nat):1<=stepAt b pos:=by unfold stepAt;split<;>omega
theorem tokAt_ok (b:Bs) (pos:Nat):Okt (tokAt b pos)/\wt (tokAt b pos)=stepAt b pos:=by
 unfold tokAt stepAt
 split
 · exact ⟨.inl ⟨_,rfl⟩,by simp [wt,lit]⟩
 · rename_i h
   have h2:=longest_spec b pos (by omega)
   exact ⟨.inr ⟨_,_,rfl,by omega,longest_le b pos,h2.1,h2.2.2.1⟩,by simp [wt,cp];omega⟩
theorem step_in (b:Bs) (pos:Nat) (hp:pos<b.length):pos+stepAt b pos<=b.length:=by
 unfold stepAt
 split
 · omega
 · rename_i h
   have h2:=longest_spec b pos (by omega)
   have h3:=mlen_at b pos (longest b pos).2 ((longest b pos).1-1) (by omega)
   omega
theorem toksF_fuel (b:Bs):∀ f g pos,b.length-pos<=f->b.length-pos<=g->toksF b f pos=toksF b g pos
 | 0,0,_,_,_=>rfl
 | 0,g+1,pos,h,_=>by unfold toksF;rw [if_neg (by omega)]
 | f+1,0,pos,_,h=>by unfold toksF;rw [if_neg (by omega)]
 | f+1,g+1,pos,h1,h2=>by
   unfold toksF
   have:=step_pos b pos
   split
   · rw [toksF_fuel b f g _ (by omega) (by omega)]
   · rfl
theorem toksF_ok (b:Bs):∀ f pos,∀ t ∈ toksF b f pos,Okt t
 | 0,_=>by simp [toksF]
 | f+1,pos=>by
   unfold toksF
   split
   · intro t ht
     rcases List.mem_cons.1 ht with rfl | ht
     · exact (tokAt_ok b pos).1
     · exact toksF_ok b f _ t ht
   · simp
theorem toksF_wts (b:Bs):∀ f pos,pos<=b.length->b.length-pos<=f->wts (toksF b f pos)=b.length-pos
 | 0,pos,_,h=>by simp [toksF,wts];omega
 | f+1,pos,hp,h=>by
   unfold toksF
   split
   · rename_i hlt
     have h1:=step_in b pos hlt
     have h2:=step_pos b pos
     rw [wts_cons,(tokAt_ok b pos).2,toksF_wts b f _ h1 (by omega)]
     omega
   · simp [wts];omega
theorem toks_wts (b:Bs):wts (toks b)=b.length:=by unfold toks;rw [toksF_wts b _ 0 (by omega) (by omega)];omega
theorem toks_len (b:Bs):(toks b).length<=b.length:=by have:=wts_len (toks b);rw [toks_wts] at this;exact this
structure St where
 bs:Bs
 ok:Bool
 l:List Tok
 n:Nat
def one (bs:Bs) (ok:Bool):Nat × Bs × Bool:=match bs with | []=>(0,[],false) | c::bs=>(c.toNat,bs,ok)
def tokOf (v:Nat):Tok:=cp (v / 1024+3) (v % 1024+1)
def readT (flag:Bool) (s:St):St :=
 let (c,bs,ok):=one s.bs s.ok
 if flag then
  let (d,bs',ok'):=one bs ok
  ⟨bs',ok',s.l++[tokOf (c*256+d)],s.n+((c*256+d) / 1024+3)⟩
 else ⟨bs,ok,s.l++[lit (UInt8.ofNat c)],s.n+1⟩
def grpR (size:Nat):Nat->Nat->St->St
 | 0,_,s=>s
 | k+1,fl,s=>if size<=s.n then ⟨s.bs,s.ok&&fl==0,s.l,s.n⟩ else grpR size k (fl / 2) (readT (fl % 2==1) s)
def unR (size:Nat):Nat->St->St
 | 0,s=>s
 | f+1,s=>if s.n<size/\s.ok=true then unR size f (grpR size 8 (one s.bs s.ok).1 ⟨(one s.bs s.ok).2.1,(one s.bs s.ok).2.2,s.l,s.n⟩) else s
def start (b:Bs):St:=let (_,bs,ok):=one b true;let (_,bs',ok'):=one bs ok;⟨bs',ok',[],0⟩
def sizeOf (b:Bs):Nat:=let (c,bs,ok):=one b true;c*256+(one bs ok).1
def unpack (b:Bs):Nat × Bs :=
 if (start b).ok=false then (2,[])
 else if 4000<sizeOf b then (4,[])
 else if (unR (sizeOf b) (sizeOf b) (start b)).ok=false\/(unR (sizeOf b) (sizeOf b) (start b)).bs≠[] then (2,[])
 else match text (unR (sizeOf b) (sizeOf b) (start b)).l with
  | .inl out=>if out.length=sizeOf b then (0,out) else (2,[])
  | .inr _=>(2,[])
theorem flags_lt:∀ g:List Tok,flags g<2 ^ g.length
 | []=>by simp [flags]
 | t::g=>by
   have:=flags_lt g
   rw [flags_cons]
   rw [List.length_cons,Nat.pow_succ]
   split<;>omega
theorem grps_nil:∀ f,grps f []=[]
 | 0=>rfl
 | f+1=>by simp [grps]
theorem body_le {t:Tok} (h:Okt t):(body t).length<=wt t:=by
 rcases h with ⟨c,rfl⟩ | ⟨n,back,rfl,h1,h2,h3,h4⟩
 · simp [body,lit,wt]
 · unfold body;rw [if_neg (by simp [cp];omega)];simp [wt,cp];omega
def bodies (l:List Tok):Nat:=(l.flatMap body).length
theorem bodies_cons (t:Tok) (l:List Tok):bodies (t::l)=(body t).length+bodies l:=by simp [bodies]
theorem bodies_append (l m:List Tok):bodies (l++m)=bodies l+bodies m:=by simp [bodies]
theorem bodies_le:∀ l:List Tok,(∀ t ∈ l,Okt t)->bodies l<=wts l
 | [],_=>by simp [bodies]
 | t::l,h=>by
   have:=bodies_le l (fun x hx=>h x (List.mem_cons_of_mem _ hx))
   have:=body_le (h t (List.mem_cons_self ..))
   rw [bodies_cons,wts_cons];omega
theorem length_grps:∀ (f:Nat) (l:List Tok),l.length<=f->(grps f l).length=(l.length+7) / 8+bodies l
 | f,[],_=>by rw [grps_nil];simp [bodies]
 | 0,t::l,h=>by simp at h
 | f+1,t::l,h=>by
   have htd:(t::l).take 8++(t::l).drop 8=t::l:=List.take_append_drop 8 (t::l)
   have hw:bodies ((t::l).take 8)+bodies ((t::l).drop 8)=bodies (t::l):=by rw [<-bodies_append,htd]
   have ih:=length_grps f ((t::l).drop 8) (by rw [List.length_drop];simp at h ⊢;omega)
   rw [grps,if_neg (by simp),List.length_append,ih,List.length_drop]
   have:(grp ((t::l).take 8)).length=1+bodies ((t::l).take 8):=by simp [grp,bodies];omega
   rw [this,<-hw]
   simp only [List.length_cons]
   omega
theorem length_pack (b:Bs):(pack b).length=2+((toks b).length+7) / 8+bodies (toks b):=by
 unfold pack write
 rw [List.length_append,length_grps _ _ (Nat.le_refl _)]
 simp [size2];omega
theorem pack_le (b:Bs):(pack b).length<=2+b.length+(b.length+7) / 8:=by
 have h1:=toks_len b
 have h2:=bodies_le (toks b) (toksF_ok b _ 0)
 rw [toks_wts] at h2
 rw [length_pack]
 omega
theorem textF_append:∀ (l m:List Tok) (i:Nat) (out:Bs),textF (l++m) i out=match textF l i out with | .inl o=>textF m (i+l.length) o | .inr e=>.inr e
 | [],m,i,out=>by simp [textF]
 | t::l,m,i,out=>by
   rw [List.cons_append,textF_cons,textF_cons]
   split
   · rw [textF_append l m (i+1)]
     rw [List.length_cons,show i+1+l.length=i+(l.length+1) by omega]
   · rfl
theorem textF_at:∀ (l:List Tok) (i:Nat) (out:Bs) (e:Nat × Nat),textF l i out = .inr e->i<=e.2/\e.1≠0
 | [],_,_,_,h=>by simp [textF] at h
 | t::l,i,out,e,h=>by
   unfold textF at h
   split at h
   · have:=textF_at l (i+1) _ e h;omega
   · rename_i hb
     injection h with h
     subst h
     exact ⟨Nat.le_refl _,hb⟩
end Pk
end Go.Proofs.Ytfdibjgmbdkbcaa
namespace Go.Proofs.Ytfdibjgmbdkbcaa
open Go.RowKit
theorem or_nat_ (x y:Nat) (h:y<256):(x*256) ||| y=x*256+y:=by
 have:=Nat.shiftLeft_add_eq_or_of_lt (i:=8) (b:=y) h x
 rw [Nat.shiftLeft_eq] at this
 exact this.symm
theorem or_i64_ (x y:Nat) (hx:x<281474976710656) (hy:y<256):bits .or .i64 ((x:Int)*256) (y:Int)=((x*256+y:Nat):Int):=by
 show IntKind.i64.wrap ((BitVec.ofInt 64 ((x:Int)*256) ||| BitVec.ofInt 64 (y:Int)).toNat:Int)=_
 have e:((x:Int)*256)=((x*256:Nat):Int):=by omega
 rw [e,BitVec.ofInt_natCast,BitVec.ofInt_natCast,BitVec.toNat_or,BitVec.toNat_ofNat,BitVec.toNat_ofNat,Nat.mod_eq_of_lt (by omega),Nat.mod_eq_of_lt (by omega),or_nat_ x _ (by omega)]
 exact IntWalk.i64_in _ (by omega)
theorem and_i64_ (x k:Nat) (hx:x<281474976710656) (hk:k<62):bits .and .i64 (x:Int) (((2 ^ k-1:Nat):Int))=((x % 2 ^ k:Nat):Int):=by
 have hp:2 ^ k<2 ^ 62:=Nat.pow_lt_pow_right (by omega) hk
 have hp1:0<2 ^ k:=Nat.pow_pos (by omega)
 have hm:x % 2 ^ k<=x:=Nat.mod_le _ _
 show IntKind.i64.wrap ((BitVec.ofInt 64 (x:Int) &&& BitVec.ofInt 64 (((2 ^ k-1:Nat):Int))).toNat:Int)=_
 rw [BitVec.ofInt_natCast,BitVec.ofInt_natCast,BitVec.toNat_and,BitVec.toNat_ofNat,BitVec.toNat_ofNat,Nat.mod_eq_of_lt (by omega),Nat.mod_eq_of_lt (by omega),Nat.and_two_pow_sub_one_eq_mod]
 exact IntWalk.i64_in _ (by omega)
theorem and_one_ (x:Nat) (hx:x<281474976710656):bits .and .i64 (x:Int) 1=((x % 2:Nat):Int):=by
 have:=and_i64_ x 1 hx (by omega)
 exact this
theorem and_1023_ (x:Nat) (hx:x<281474976710656):bits .and .i64 (x:Int) 1023=((x % 1024:Nat):Int):=by
 have:=and_i64_ x 10 hx (by omega)
 exact this
namespace Pk
theorem one_fst (bs:Bs) (ok:Bool):(one bs ok).1<256:=by
 cases bs with
 | nil=>simp [one]
 | cons c bs=>exact c.toNat_lt
theorem readT_n (flag:Bool) (s:St):s.n+1<=(readT flag s).n:=by
 unfold readT
 cases flag
 · simp
 · simp only [if_true];omega
theorem grpR_n (size:Nat):∀ k fl s,s.n<=(grpR size k fl s).n
 | 0,_,s=>Nat.le_refl _
 | k+1,fl,s=>by
   unfold grpR
   split
   · exact Nat.le_refl _
   · have:=readT_n (fl % 2==1) s
     have:=grpR_n size k (fl / 2) (readT (fl % 2==1) s)
     omega
theorem grpR_n1 (size k fl:Nat) (s:St) (h:s.n<size):s.n+1<=(grpR size (k+1) fl s).n:=by
 unfold grpR
 rw [if_neg (by omega)]
 have:=readT_n (fl % 2==1) s
 have:=grpR_n size k (fl / 2) (readT (fl % 2==1) s)
 omega
theorem readT_lit (s:St):readT false s=⟨(one s.bs s.ok).2.1,(one s.bs s.ok).2.2,s.l++[lit (UInt8.ofNat (one s.bs s.ok).1)],s.n+1⟩:=rfl
theorem readT_cp (s:St):readT true s=⟨(one (one s.bs s.ok).2.1 (one s.bs s.ok).2.2).2.1,(one (one s.bs s.ok).2.1 (one s.bs s.ok).2.2).2.2,s.l++[tokOf ((one s.bs s.ok).1*256+(one (one s.bs s.ok).2.1 (one s.bs s.ok).2.2).1)],
 s.n+(((one s.bs s.ok).1*256+(one (one s.bs s.ok).2.1 (one s.bs s.ok).2.2).1) / 1024+3)⟩:=rfl
theorem unR_stop {size f:Nat} {s:St} (h:¬ (s.n<size/\s.ok=true)):unR size f s=s:=by
 cases f with
 | zero=>rfl
 | succ f=>unfold unR;rw [if_neg h]
theorem unR_go {size f:Nat} {s:St} (h:s.n<size/\s.ok=true):unR size (f+1) s=unR size f (grpR size 8 (one s.bs s.ok).1 ⟨(one s.bs s.ok).2.1,(one s.bs s.ok).2.2,s.l,s.n⟩):=by
 rw [unR,if_pos h]
theorem grpR_stop {size k fl:Nat} {s:St} (h:size<=s.n):grpR size (k+1) fl s=⟨s.bs,s.ok&&fl==0,s.l,s.n⟩:=by rw [grpR,if_pos h]
theorem grpR_go {size k fl:Nat} {s:St} (h:¬ size<=s.n):grpR size (k+1) fl s=grpR size k (fl / 2) (readT (fl % 2==1) s):=by rw [grpR,if_neg h]
end Pk
end Go.Proofs.Ytfdibjgmbdkbcaa
namespace Go.Proofs.Ytfdibjgmbdkbcaa
open Go.RowKit
namespace Pk
theorem flags_snoc (t:Tok):∀ l:List Tok,flags (l++[t])=flags l+(if t.len=0 then 0 else 2 ^ l.length)
 | []=>by rw [List.nil_append,flags_cons];simp [flags]
 | a::l=>by
   rw [List.cons_append,flags_cons,flags_cons,flags_snoc t l,List.length_cons,Nat.pow_succ]
   split<;>split<;>omega
theorem grp_snoc (t:Tok) (l:List Tok):grp (l++[t])=UInt8.ofNat (flags l+(if t.len=0 then 0 else 2 ^ l.length))::(l.flatMap body++body t):=by
 unfold grp
 rw [flags_snoc,List.flatMap_append]
 simp
theorem grp_lit {t:Tok} (h:t.len=0) (l:List Tok):grp (l++[t])=grp l++[t.byte]:=by
 rw [grp_snoc,if_pos h]
 unfold grp body
 rw [if_pos h]
 simp
theorem body_len (t:Tok):(body t).length<=2:=by unfold body;split<;>simp
theorem flat_len:∀ l:List Tok,(l.flatMap body).length<=2*l.length
 | []=>by simp
 | t::l=>by have:=flat_len l;have:=body_len t;rw [List.flatMap_cons,List.length_append,List.length_cons];omega
theorem grp_len (l:List Tok):(grp l).length<=1+2*l.length:=by have:=flat_len l;unfold grp;rw [List.length_cons];omega
def outs (n:Nat) (T:List Tok) (pre:List Nat):Bs:=size2 n++pre.flatMap fun k=>grp ((T.drop (8*k)).take 8)
theorem outs_nil (n:Nat) (T:List Tok):outs n T []=size2 n:=by simp [outs]
theorem outs_snoc (n:Nat) (T:List Tok) (pre:List Nat) (k:Nat):outs n T (pre++[k])=outs n T pre++grp ((T.drop (8*k)).take 8):=by simp [outs]
theorem flatg_len (T:List Tok):∀ pre:List Nat,(pre.flatMap fun k=>grp ((T.drop (8*k)).take 8)).length<=17*pre.length
 | []=>by simp
 | k::pre=>by
   have:=flatg_len T pre
   have:=grp_len ((T.drop (8*k)).take 8)
   have:((T.drop (8*k)).take 8).length<=8:=by rw [List.length_take];omega
   rw [List.flatMap_cons,List.length_append,List.length_cons];omega
theorem outs_len (n:Nat) (T:List Tok) (pre:List Nat):(outs n T pre).length<=2+17*pre.length:=by
 have:=flatg_len T pre
 unfold outs size2
 rw [List.length_append]
 simpa using this
theorem grps_outs:∀ (f:Nat) (T:List Tok),T.length<=f->grps f T=(List.range ((T.length+7) / 8)).flatMap fun k=>grp ((T.drop (8*k)).take 8)
 | 0,T,h=>by
   have:T=[]:=List.eq_nil_of_length_eq_zero (by omega)
   subst this
   simp [grps]
 | f+1,T,h=>by
   unfold grps
   split
   · rename_i h0;subst h0;simp
   · rename_i h0
     have hpos:0<T.length:=List.length_pos_iff.2 h0
     rw [grps_outs f (T.drop 8) (by rw [List.length_drop];omega)]
     have e:(T.length+7) / 8=((T.drop 8).length+7) / 8+1:=by rw [List.length_drop];omega
     rw [e,List.range_succ_eq_map,List.flatMap_cons,List.flatMap_map]
     congr 1
     refine congrArg (fun g=>List.flatMap g _) (funext fun k=>?_)
     rw [List.drop_drop,Nat.mul_succ,Nat.add_comm]
theorem pack_outs (b:Bs):pack b=outs b.length (toks b) (List.range (((toks b).length+7) / 8)):=by
 unfold pack write outs
 rw [grps_outs _ _ (Nat.le_refl _)]
theorem flag_set (fl j:Nat) (h:fl<2 ^ j) (hj:j<8):bits .or .u8 (((UInt8.ofNat fl).toNat:Nat):Int) (IntKind.u8.wrap (2 ^ j))=(((UInt8.ofNat (fl+2 ^ j)).toNat:Nat):Int):=by
 have h8:2 ^ j<=2 ^ 7:=Nat.pow_le_pow_right (by omega) (by omega)
 have e1:(UInt8.ofNat fl).toNat=fl:=by rw [UInt8.toNat_ofNat'];omega
 have e2:(UInt8.ofNat (fl+2 ^ j)).toNat=fl+2 ^ j:=by rw [UInt8.toNat_ofNat'];omega
 have e3:IntKind.u8.wrap (2 ^ j)=((2 ^ j:Nat):Int):=by
  rw [IntKind.wrap_u8']
  have:((2:Int) ^ j)=((2 ^ j:Nat):Int):=by push_cast;rfl
  omega
 rw [e1,e2,e3,u8_or_nat _ _ (by omega) (by omega),Nat.or_comm]
 have:=Nat.shiftLeft_add_eq_or_of_lt h 1
 rw [Nat.shiftLeft_eq,Nat.one_mul] at this
 rw [<-this,Nat.add_comm]
theorem word_of (n back:Nat) (h1:3<=n) (h2:n<=66) (h3:1<=back) (h4:back<=1024):wordOf (cp n back)=1024*(n-3)+(back-1):=by
 unfold wordOf cp
 simp only
 omega
theorem or_1024 (x y:Nat) (hx:x<100) (hy:y<1024):bits .or .i64 ((x:Int)*1024) (y:Int)=((1024*x+y:Nat):Int):=by
 show IntKind.i64.wrap ((BitVec.ofInt 64 ((x:Int)*1024) ||| BitVec.ofInt 64 (y:Int)).toNat:Int)=_
 have e:((x:Int)*1024)=((x*1024:Nat):Int):=by omega
 have e2:x*1024 ||| y=1024*x+y:=by
  have:=Nat.shiftLeft_add_eq_or_of_lt (i:=10) (b:=y) hy x
  rw [Nat.shiftLeft_eq] at this
  rw [<-this];omega
 rw [e,BitVec.ofInt_natCast,BitVec.ofInt_natCast,BitVec.toNat_or,BitVec.toNat_ofNat,BitVec.toNat_ofNat,Nat.mod_eq_of_lt (by omega),Nat.mod_eq_of_lt (by omega),e2]
 exact IntWalk.i64_in _ (by omega)
end Pk
end Go.Proofs.Ytfdibjgmbdkbcaa
