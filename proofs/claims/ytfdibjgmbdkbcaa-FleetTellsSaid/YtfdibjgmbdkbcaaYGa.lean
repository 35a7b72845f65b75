/-
  Plain law, no program: SHA-256 as the walks of sha and yearref1 come to it. No conditions. Words for memory, no program: what a slice reads as; a row of the call's own, whatever its offset; a world that has changed in some blocks alone. No conditions. append onto a row of the call's own, whatever its offset, from whatever slice is read: at the operation, at a plain region's list, at a step of a region that draws. No conditions but Go's own room.
-/
import Derived.Below
import Derived.Laws.OwnMore
import Derived.Laws.Rows
import Derived.Deep.Draws
import Derived.OwnWalk
import Derived.ArgAppend
import Derived.Lib.Hide
import Derived.Maps.AppendAt
import Derived.Deep.AppendLies
import Derived.RegionTactic
import Derived.Deep.MidRow
import Derived.Deep.QuietTactic
namespace Go.Proofs.Ytfdibjgmbdkbcaa
abbrev Bs:=List UInt8
namespace Sha
structure V8 where
 a:UInt32
 b:UInt32
 c:UInt32
 d:UInt32
 e:UInt32
 f:UInt32
 g:UInt32
 h:UInt32
def V8.toList (v:V8):List UInt32:=[v.a,v.b,v.c,v.d,v.e,v.f,v.g,v.h]
def rotr (x:UInt32) (n:UInt32):UInt32:=(x <<< (32-n)) ||| (x >>> n)
def Kc:List UInt32:=[
 1116352408,1899447441,3049323471,3921009573,961987163,1508970993,
 2453635748,2870763221,3624381080,310598401,607225278,1426881987,
 1925078388,2162078206,2614888103,3248222580,3835390401,4022224774,
 264347078,604807628,770255983,1249150122,1555081692,1996064986,
 2554220882,2821834349,2952996808,3210313671,3336571891,3584528711,
 113926993,338241895,666307205,773529912,1294757372,1396182291,
 1695183700,1986661051,2177026350,2456956037,2730485921,2820302411,
 3259730800,3345764771,3516065817,3600352804,4094571909,275423344,
 430227734,506948616,659060556,883997877,958139571,1322822218,
 1537002063,1747873779,1955562222,2024104815,2227730452,2361852424,
 2428436474,2756734187,3204031479,3329325298]
def H0:V8:=⟨1779033703,3144134277,1013904242,2773480762,1359893119,2600822924,528734635,1541459225⟩
def word (p q r s:UInt8):UInt32:=(p.toUInt32 <<< 24) ||| (q.toUInt32 <<< 16) ||| (r.toUInt32 <<< 8) ||| s.toUInt32
def wordAt (b:Bs) (i:Nat):UInt32:=word (b.getD (4*i) 0) (b.getD (4*i+1) 0) (b.getD (4*i+2) 0) (b.getD (4*i+3) 0)
def sig0 (x:UInt32):UInt32:=rotr x 7 ^^^ rotr x 18 ^^^ (x >>> 3)
def sig1 (x:UInt32):UInt32:=rotr x 17 ^^^ rotr x 19 ^^^ (x >>> 10)
def Sig0 (x:UInt32):UInt32:=rotr x 2 ^^^ rotr x 13 ^^^ rotr x 22
def Sig1 (x:UInt32):UInt32:=rotr x 6 ^^^ rotr x 11 ^^^ rotr x 25
def nextW (b:Bs) (l:List UInt32):UInt32 :=
 if l.length<16 then wordAt b l.length
 else l.getD (l.length-16) 0+l.getD (l.length-7) 0+sig0 (l.getD (l.length-15) 0)+sig1 (l.getD (l.length-2) 0)
def sched (b:Bs):Nat->List UInt32
 | 0=>[]
 | n+1=>sched b n++[nextW b (sched b n)]
def t1 (v:V8) (k w:UInt32):UInt32:=v.h+Sig1 v.e+((v.e &&& v.f) ^^^ (~~~v.e &&& v.g))+k+w
def t2 (v:V8):UInt32:=Sig0 v.a+((v.a &&& v.b) ^^^ (v.a &&& v.c) ^^^ (v.b &&& v.c))
def round (v:V8) (k w:UInt32):V8:=⟨t1 v k w+t2 v,v.a,v.b,v.c,v.d+t1 v k w,v.e,v.f,v.g⟩
def rounds (ws:List UInt32) (v:V8):Nat->V8
 | 0=>v
 | n+1=>round (rounds ws v n) (Kc.getD n 0) (ws.getD n 0)
def V8.plus (v x:V8):V8:=⟨v.a+x.a,v.b+x.b,v.c+x.c,v.d+x.d,v.e+x.e,v.f+x.f,v.g+x.g,v.h+x.h⟩
def compress (v:V8) (b:Bs):V8:=v.plus (rounds (sched b 64) v 64)
def blk (m:Bs) (k:Nat):Bs:=(m.drop (64*k)).take 64
def hAt (m:Bs):Nat->V8
 | 0=>H0
 | k+1=>compress (hAt m k) (blk m k)
def be32 (x:UInt32):Bs:=[(x >>> 24).toUInt8,(x >>> 16).toUInt8,(x >>> 8).toUInt8,x.toUInt8]
def be64 (n:UInt64):Bs:=[(n >>> 56).toUInt8,(n >>> 48).toUInt8,(n >>> 40).toUInt8,(n >>> 32).toUInt8,(n >>> 24).toUInt8,(n >>> 16).toUInt8,(n >>> 8).toUInt8,n.toUInt8]
def noughts (n:Nat):Nat:=(119-n % 64) % 64
def padding (n:Nat):Bs:=128::List.replicate (noughts n) 0++be64 (8*UInt64.ofNat n)
def padded (m:Bs):Bs:=m++padding m.length
def out8 (v:V8):Bs:=be32 v.a++be32 v.b++be32 v.c++be32 v.d++be32 v.e++be32 v.f++be32 v.g++be32 v.h
def sha256 (m:Bs):Bs:=out8 (hAt (padded m) ((padded m).length / 64))
theorem length_sched (b:Bs) (n:Nat):(sched b n).length=n:=by
 induction n with
 | zero=>rfl
 | succ n ih=>simp [sched,ih]
theorem length_padding (n:Nat):(padding n).length=9+noughts n:=by simp [padding,be64];omega
theorem length_padded (m:Bs):(padded m).length % 64=0:=by
 simp only [padded,List.length_append,length_padding,noughts];omega
theorem blk_append (m r:Bs) (k:Nat) (h:64*(k+1)<=m.length):blk (m++r) k=blk m k:=by
 unfold blk
 rw [List.drop_append_of_le_length (by omega),List.take_append_of_le_length (by rw [List.length_drop];omega)]
theorem hAt_append (m r:Bs) (k:Nat) (h:64*k<=m.length):hAt (m++r) k=hAt m k:=by
 induction k with
 | zero=>rfl
 | succ k ih=>rw [hAt,hAt,ih (by omega),blk_append m r k h]
end Sha
end Go.Proofs.Ytfdibjgmbdkbcaa
namespace Go.Proofs.Ytfdibjgmbdkbcaa
open Go.RowKit
def bv (b:UInt8):Value:=.int .u8 (b.toNat:Int)
theorem bv_def (b:UInt8):bv b = .int .u8 (b.toNat:Int):=rfl
theorem bv_oneCell (b:UInt8):(bv b).oneCell'=true:=rfl
theorem u8_bne {x y:UInt8} (h:x≠y):((x.toNat:Int) != (y.toNat:Int))=true:=by
 rw [bne_iff_ne];intro e;exact h (UInt8.toNat_inj.1 (by omega))
theorem u8_beq {x y:UInt8} (h:x=y):((x.toNat:Int)==(y.toNat:Int))=true:=by rw [h];simp
theorem u8_beq_not {x y:UInt8} (h:x≠y):((x.toNat:Int)==(y.toNat:Int))=false:=by
 rw [beq_eq_false_iff_ne];intro e;exact h (UInt8.toNat_inj.1 (by omega))
theorem nat_bne {x y:Nat} (h:x≠y):((x:Int) != (y:Int))=true:=by rw [bne_iff_ne];omega
theorem nat_beq_not {x y:Nat} (h:x≠y):((x:Int)==(y:Int))=false:=by rw [beq_eq_false_iff_ne];omega
structure Ch (S:Nat->Prop) (w w':World):Prop where
 os:w'.os=w.os
 tape:w'.tape=w.tape
 output:w'.output=w.output
 size:w.heap.size<=w'.heap.size
 block:∀ k,k<w.heap.size->¬ S k->w'.heap[k]? = w.heap[k]?
section
variable {S S':Nat->Prop} {w w' w'':World}
theorem Ch.refl (S:Nat->Prop) (w:World):Ch S w w:=⟨rfl,rfl,rfl,Nat.le_refl _,fun _ _ _=>rfl⟩
theorem Ch.trans (h:Ch S w w') (h':Ch S' w' w'') (hs:∀ k,k<w.heap.size->S' k->S k):Ch S w w'' :=
 ⟨h'.os.trans h.os,h'.tape.trans h.tape,h'.output.trans h.output,Nat.le_trans h.size h'.size,
  fun k hk hn=>(h'.block k (Nat.lt_of_lt_of_le hk h.size) (fun hx=>hn (hs k hk hx))).trans (h.block k hk hn)⟩
theorem Ch.mono (h:Ch S w w') (hs:∀ k,k<w.heap.size->S k->S' k):Ch S' w w' :=
 ⟨h.os,h.tape,h.output,h.size,fun k hk hn=>h.block k hk (fun hx=>hn (hs k hk hx))⟩
theorem Ch.drew (h:Ch S w w'):Ch S w w'.drew:=⟨h.os,h.tape,h.output,h.size,h.block⟩
theorem Ch.drewN (h:Ch S w w') (n:Nat):Ch S w (w'.drewN n):=⟨h.os,h.tape,h.output,h.size,h.block⟩
theorem Ch.alloc (h:Ch S w w') (o:Obj):Ch S w (w'.alloc o) :=
 ⟨h.os,h.tape,h.output,by rw [World.size_alloc];have:=h.size;omega,fun k hk hn=>(Below.heap_alloc w' o k (Nat.lt_of_lt_of_le hk h.size)).trans (h.block k hk hn)⟩
theorem Ch.setCell (h:Ch S w w') {p:Addr} (hp:p.block<w.heap.size->S p.block) (u:Value):Ch S w (w'.setCell p u) :=
 ⟨h.os,h.tape,h.output,by rw [World.size_setCell];exact h.size,fun k hk hn=>(Below.heap_setCell w' p u k (fun e=>hn (e ▸ hp (e ▸ hk)))).trans (h.block k hk hn)⟩
theorem Ch.below (h:Ch S w w') (hS:∀ k,k<w.heap.size->¬ S k):Below w.heap.size w w' :=
 ⟨h.os,h.tape,h.output,h.size,fun k hk=>h.block k hk (hS k hk)⟩
theorem Ch.of_below {B:Nat} (h:Below B w w') (hB:∀ k,k<w.heap.size->¬ S k->k<B):Ch S w w' :=
 ⟨h.os,h.tape,h.output,h.size,fun k hk hn=>h.block k (hB k hk hn)⟩
theorem Ch.of_below' (h:Below w.heap.size w w'):Ch S w w':=Ch.of_below h fun _ hk _=>hk
theorem Ch.cell (h:Ch S w w') {p:Addr} (hp:p.block<w.heap.size) (hn:¬ S p.block):w'.cell? p=w.cell? p:=World.cell?_of_block (h.block _ hp hn)
theorem below_drewN {B:Nat} {a w:World} (h:Below B a w) (n:Nat):Below B a (w.drewN n):=⟨h.os,h.tape,h.output,h.size,h.block⟩
end
def Blk (w:World) (g:Nat) (t:TypeId) (cs:Array Value):Prop:=w.heap[g]? = some (.cells cs t (0,0))
section
variable {w w':World} {g:Nat} {t:TypeId} {cs:Array Value}
theorem Blk.lt (h:Blk w g t cs):g<w.heap.size:=by
 rcases Nat.lt_or_ge g w.heap.size with hlt | hge
 · exact hlt
 · unfold Blk at h;rw [Array.getElem?_eq_none hge] at h;cases h
theorem Blk.cell (h:Blk w g t cs) (i:Nat):w.cell? ⟨g,i,none⟩=cs[i]?:=cell_of_row w g i cs t (0,0) h
theorem Blk.frozen (h:Blk w g t cs) (i:Nat):w.frozen? ⟨g,i,none⟩=false:=frozen_of_row w g i cs t h
theorem Blk.keep (h:Blk w g t cs) (hk:w'.heap[g]? = w.heap[g]?):Blk w' g t cs:=hk.trans h
theorem Blk.drewN (h:Blk w g t cs) (n:Nat):Blk (w.drewN n) g t cs:=h
theorem Blk.alloc (h:Blk w g t cs) (o:Obj):Blk (w.alloc o) g t cs:=(Below.heap_alloc w o g h.lt).trans h
theorem Blk.set_ (h:Blk w g t cs) (i:Nat) (u:Value):Blk (w.setCell ⟨g,i,none⟩ u) g t (cs.setIfInBounds i u):=by
 unfold Blk at h ⊢
 simp [World.setCell,Array.getElem?_modify,h]
theorem Blk.far (h:Blk w g t cs) {p:Addr} (hp:g≠p.block) (u:Value):Blk (w.setCell p u) g t cs:=(Below.heap_setCell w p u g hp).trans h
theorem Blk.ch {S:Nat->Prop} (h:Blk w g t cs) (hc:Ch S w w') (hS:¬ S g):Blk w' g t cs:=(hc.block g h.lt hS).trans h
theorem Blk.below {B:Nat} (h:Blk w g t cs) (hb:Below B w w') (hg:g<B):Blk w' g t cs:=(hb.block g hg).trans h
end
def SlAt (w:World) (F:Nat->Prop) (size:Nat) (v:Value) (n:Nat) (xs:List Value):Prop :=
 ∃ A c,v = .slice A n c/\n<=c/\c<=maxLen/\xs.length=n*size ∧
  (0<n->∃ b off,A=some ⟨b,off,none⟩/\F b/\b<w.heap.size/\∀ j u,xs[j]? = some u->w.cell? ⟨b,off+j,none⟩=some u)
section
variable {w w':World} {F F' S:Nat->Prop} {size n:Nat} {v:Value} {xs:List Value}
theorem SlAt.keep (h:SlAt w F size v n xs) (hs:w.heap.size<=w'.heap.size) (hk:∀ k,k<w.heap.size->F k->w'.heap[k]? = w.heap[k]?):SlAt w' F size v n xs:=by
 obtain ⟨A,c,hv,h1,h2,h3,h4⟩:=h
 refine ⟨A,c,hv,h1,h2,h3,fun hn=>?_⟩
 obtain ⟨b,off,hA,hF,hb,hc⟩:=h4 hn
 exact ⟨b,off,hA,hF,by omega,fun j u hu=>(World.cell?_of_block (hk b hb hF)).trans (hc j u hu)⟩
theorem SlAt.ch (h:SlAt w F size v n xs) (hc:Ch S w w') (hS:∀ k,F k->¬ S k):SlAt w' F size v n xs :=
 h.keep hc.size fun k hk hF=>hc.block k hk (hS k hF)
theorem SlAt.below (h:SlAt w F size v n xs) (hb:Below w.heap.size w w'):SlAt w' F size v n xs:=h.keep hb.size fun k hk _=>hb.block k hk
theorem SlAt.below_of {B:Nat} (h:SlAt w F size v n xs) (hb:Below B w w') (hF:∀ k,F k->k<B):SlAt w' F size v n xs:=h.keep hb.size fun k _ hk=>hb.block k (hF k hk)
theorem SlAt.drew (h:SlAt w F size v n xs):SlAt w.drew F size v n xs:=h
theorem SlAt.drewN (h:SlAt w F size v n xs) (k:Nat):SlAt (w.drewN k) F size v n xs:=h
theorem SlAt.alloc (h:SlAt w F size v n xs) (o:Obj):SlAt (w.alloc o) F size v n xs :=
 h.keep (by simp) fun k hk _=>Below.heap_alloc w o k hk
theorem SlAt.setCell (h:SlAt w F size v n xs) {p:Addr} (hp:¬ F p.block) (u:Value):SlAt (w.setCell p u) F size v n xs :=
 h.keep (by simp) fun k _ hF=>Below.heap_setCell w p u k (fun e=>hp (e ▸ hF))
theorem SlAt.weak (h:SlAt w F size v n xs) (hF:∀ k,k<w.heap.size->F k->F' k):SlAt w F' size v n xs:=by
 obtain ⟨A,c,hv,h1,h2,h3,h4⟩:=h
 refine ⟨A,c,hv,h1,h2,h3,fun hn=>?_⟩
 obtain ⟨b,off,hA,hF',hb,hc⟩:=h4 hn
 exact ⟨b,off,hA,hF b hb hF',hb,hc⟩
theorem SlAt.nil_ (w:World) (F:Nat->Prop) (size:Nat):SlAt w F size (.slice none 0 0) 0 [] :=
 ⟨none,0,rfl,Nat.le_refl _,by simp [maxLen],by simp,fun h=>absurd h (by omega)⟩
end
def Bytes (w:World) (F:Nat->Prop) (v:Value) (l:Bs):Prop:=SlAt w F 1 v l.length (l.map bv)
def BList (w:World) (F:Nat->Prop) (v:Value) (ll:List Bs):Prop :=
 ∃ vs:List Value,SlAt w F 1 v ll.length vs/\∀ (i:Nat) (b:Bs),ll[i]? = some b->∃ u:Value,vs[i]? = some u/\Bytes w F u b
section
variable {w w':World} {F F' S:Nat->Prop} {v:Value} {l:Bs} {ll:List Bs}
theorem BList.map_ (h:BList w F v ll) (hs:∀ v n xs,SlAt w F 1 v n xs->SlAt w' F' 1 v n xs):BList w' F' v ll:=by
 obtain ⟨vs,h1,h2⟩:=h
 refine ⟨vs,hs _ _ _ h1,fun i b hb=>?_⟩
 obtain ⟨u,hu,hub⟩:=h2 i b hb
 exact ⟨u,hu,hs _ _ _ hub⟩
theorem BList.ch (h:BList w F v ll) (hc:Ch S w w') (hS:∀ k,F k->¬ S k):BList w' F v ll:=h.map_ fun _ _ _ h=>h.ch hc hS
theorem BList.below (h:BList w F v ll) (hb:Below w.heap.size w w'):BList w' F v ll:=h.map_ fun _ _ _ h=>h.below hb
theorem BList.drewN (h:BList w F v ll) (k:Nat):BList (w.drewN k) F v ll:=h
theorem BList.alloc (h:BList w F v ll) (o:Obj):BList (w.alloc o) F v ll:=h.map_ fun _ _ _ h=>h.alloc o
theorem BList.setCell (h:BList w F v ll) {p:Addr} (hp:¬ F p.block) (u:Value):BList (w.setCell p u) F v ll:=h.map_ fun _ _ _ h=>h.setCell hp u
theorem BList.weak (h:BList w F v ll) (hF:∀ k,k<w.heap.size->F k->F' k):BList w F' v ll:=h.map_ fun _ _ _ h=>h.weak hF
theorem Bytes.form (h:Bytes w F v l):∃ A c,v = .slice A l.length c:=by
 obtain ⟨A,c,hv,_⟩:=h
 exact ⟨A,c,hv⟩
theorem Bytes.form' (h:Bytes w F v l):∃ A c,v = .slice A l.length c/\l.length<=c/\c<=maxLen:=by
 obtain ⟨A,c,hv,h1,h2,_⟩:=h
 exact ⟨A,c,hv,h1,h2⟩
theorem BList.form (h:BList w F v ll):∃ A c,v = .slice A ll.length c:=by
 obtain ⟨vs,⟨A,c,hv,_⟩,_⟩:=h
 exact ⟨A,c,hv⟩
end
def Own (w:World) (base:Nat) (e:TypeId) (size:Nat) (v:Value) (n:Nat) (xs:List Value):Prop :=
 xs.length=n*size ∧
 ((v = .slice none 0 0/\n=0) ∨
  ∃ g off cap cur,v = .slice (some ⟨g,off,none⟩) n cap/\base<=g/\w.heap[g]? = some (.cells cur e (0,0))/\n<=cap/\cap<=maxLen/\off+cap*size<=cur.size/\(cur.toList.drop off).take (n*size)=xs)
section
variable {w w':World} {base:Nat} {e:TypeId} {size n:Nat} {v:Value} {xs:List Value} {S F:Nat->Prop}
theorem Own.of_ownsRow (h:w.ownsRow base e size v n xs):Own w base e size v n xs:=by
 obtain ⟨h1,h2 | ⟨g,cap,cur,hv,hb,hg,hn,hm,hs,ht⟩⟩:=h
 · exact ⟨h1,.inl h2⟩
 · exact ⟨h1,.inr ⟨g,0,cap,cur,hv,hb,hg,hn,hm,by omega,by simpa using ht⟩⟩
theorem Own.nil_ (w:World) (base:Nat) (e:TypeId) (size:Nat):Own w base e size (.slice none 0 0) 0 []:=⟨by simp,.inl ⟨rfl,rfl⟩⟩
theorem Own.keep (h:Own w base e size v n xs) (hk:∀ k,v.ownBlock=some k->k<w.heap.size->base<=k->w'.heap[k]? = w.heap[k]?):Own w' base e size v n xs:=by
 obtain ⟨h1,h2 | ⟨g,off,cap,cur,hv,hb,hg,hn,hm,hs,ht⟩⟩:=h
 · exact ⟨h1,.inl h2⟩
 · have hlt:g<w.heap.size:=by
    rcases Nat.lt_or_ge g w.heap.size with hlt | hge
    · exact hlt
    · rw [Array.getElem?_eq_none hge] at hg;cases hg
   exact ⟨h1,.inr ⟨g,off,cap,cur,hv,hb,(hk g (by rw [hv];rfl) hlt hb).trans hg,hn,hm,hs,ht⟩⟩
theorem Own.ch (h:Own w base e size v n xs) (hc:Ch S w w') (hS:∀ k,v.ownBlock=some k->base<=k->¬ S k):Own w' base e size v n xs :=
 h.keep fun k hv hk hb=>hc.block k hk (hS k hv hb)
theorem Own.below (h:Own w base e size v n xs) (hb:Below w.heap.size w w'):Own w' base e size v n xs:=h.keep fun k _ hk _=>hb.block k hk
theorem Own.alloc (h:Own w base e size v n xs) (o:Obj):Own (w.alloc o) base e size v n xs:=h.keep fun k _ hk _=>Below.heap_alloc w o k hk
theorem Own.drew (h:Own w base e size v n xs):Own w.drew base e size v n xs:=h
theorem Own.drewN (h:Own w base e size v n xs) (k:Nat):Own (w.drewN k) base e size v n xs:=h
theorem Own.setCell (h:Own w base e size v n xs) {p:Addr} (hp:v.ownBlock≠some p.block) (u:Value):Own (w.setCell p u) base e size v n xs :=
 h.keep fun k hv _ _=>Below.heap_setCell w p u k (fun ek=>hp (ek ▸ hv))
theorem Own.mono (h:Own w base e size v n xs) {base':Nat} (hb:base'<=base):Own w base' e size v n xs:=by
 obtain ⟨h1,h2 | ⟨g,off,cap,cur,hv,hb',r⟩⟩:=h
 · exact ⟨h1,.inl h2⟩
 · exact ⟨h1,.inr ⟨g,off,cap,cur,hv,by omega,r⟩⟩
theorem Own.lt (h:Own w base e size v n xs):∀ k,v.ownBlock=some k->base<=k/\k<w.heap.size:=by
 obtain ⟨h1,⟨rfl,_⟩ | ⟨g,off,cap,cur,rfl,hb,hg,_⟩⟩:=h
 · intro k hk;simp [Value.ownBlock] at hk
 · intro k hk
   simp only [Value.ownBlock,Option.some.injEq] at hk
   subst hk
   refine ⟨hb,?_⟩
   rcases Nat.lt_or_ge g w.heap.size with hlt | hge
   · exact hlt
   · rw [Array.getElem?_eq_none hge] at hg;cases hg
theorem Own.slAt (h:Own w base e size v n xs) (hF:∀ k,v.ownBlock=some k->F k):SlAt w F size v n xs:=by
 have hlt:=h.lt
 obtain ⟨h1,⟨rfl,rfl⟩ | ⟨g,off,cap,cur,rfl,hb,hg,hn,hm,hs,ht⟩⟩:=h
 · exact ⟨none,0,rfl,Nat.le_refl _,by simp [maxLen],h1,fun h=>absurd h (by omega)⟩
 · refine ⟨_,cap,rfl,hn,hm,h1,fun _=>⟨g,off,rfl,hF g rfl,(hlt g rfl).2,fun j u hu=>?_⟩⟩
   rw [cell_of_row w g (off+j) cur e (0,0) hg]
   rw [<-ht] at hu
   have hj:j<n*size:=by
    rcases Nat.lt_or_ge j (n*size) with h | h
    · exact h
    · rw [List.getElem?_eq_none (by rw [List.length_take];omega)] at hu;cases hu
   rw [List.getElem?_take_of_lt hj,List.getElem?_drop] at hu
   rw [<-Array.getElem?_toList]
   exact hu
end
end Go.Proofs.Ytfdibjgmbdkbcaa
namespace Go.Proofs.Ytfdibjgmbdkbcaa
open Go.RowKit
theorem Own.form {w:World} {base:Nat} {e:TypeId} {size n:Nat} {v:Value} {xs:List Value} (h:Own w base e size v n xs) (hn:0<n) :
 ∃ g off cap,v = .slice (some ⟨g,off,none⟩) n cap/\base<=g/\g<w.heap.size/\n<=cap/\cap<=maxLen/\∀ j u,xs[j]? = some u->w.cell? ⟨g,off+j,none⟩=some u:=by
 have hlt:=h.lt
 obtain ⟨A,c,hv,hnc,hcm,_,hc⟩:=h.slAt (F:=fun _=>True) (fun _ _=>trivial)
 obtain ⟨b,off,rfl,_,hb,hcell⟩:=hc hn
 subst hv
 exact ⟨b,off,c,rfl,(hlt b rfl).1,hb,hnc,hcm,hcell⟩
theorem Own.shape {w:World} {base:Nat} {e:TypeId} {size n:Nat} {v:Value} {xs:List Value} (h:Own w base e size v n xs) :
 ∃ A c,v = .slice A n c/\n<=c/\c<=maxLen:=by
 obtain ⟨A,c,hv,hnc,hcm,_,hc⟩:=h.slAt (F:=fun _=>True) (fun _ _=>trivial)
 exact ⟨A,c,hv,hnc,hcm⟩
theorem Own.ne_blk {w:World} {base:Nat} {e t:TypeId} {size n g:Nat} {v:Value} {xs:List Value} {cs:Array Value} (h:Own w base e size v n xs) (hg:Blk w g t cs) (hne:e≠t):v.ownBlock≠some g:=by
 obtain ⟨_,⟨rfl,_⟩ | ⟨g',off,cap,cur,rfl,_,hh,_⟩⟩:=h
 · simp [Value.ownBlock]
 · intro he
   have:g'=g:=by simpa [Value.ownBlock] using he
   subst this
   unfold Blk at hg
   rw [hh] at hg
   injection hg with hg
   injection hg with _ ht
   exact hne ht
theorem Own.cut {w:World} {base:Nat} {e:TypeId} {n c g off:Nat} {xs:List Value} (h:Own w base e 1 (.slice (some ⟨g,off,none⟩) n c) n xs) (k:Nat) (hk:k<=n) :
 Own w base e 1 (.slice (some ⟨g,off+k,none⟩) (n-k) (c-k)) (n-k) (xs.drop k):=by
 obtain ⟨hl,⟨h0,_⟩ | ⟨g',off',cap,cur,hv,hb,hg,hn,hm,hs,ht⟩⟩:=h
 · cases h0
 · injection hv with h1 h2 h3
   injection h1 with h1
   injection h1 with h1 h4
   subst h1 h3 h4
   refine ⟨by rw [List.length_drop,hl];omega,.inr ⟨g,off+k,c-k,cur,rfl,hb,hg,by omega,by omega,by omega,?_⟩⟩
   rw [<-ht,List.drop_take,List.drop_drop,Nat.mul_one,Nat.mul_one]
theorem Own.cut0 {w:World} {base:Nat} {e:TypeId} {n c g off:Nat} {xs:List Value} (h:Own w base e 1 (.slice (some ⟨g,off,none⟩) n c) n xs) :
 Own w base e 1 (.slice (some ⟨g,off,none⟩) 0 0) 0 []:=by
 obtain ⟨hl,⟨h0,_⟩ | ⟨g',off',cap,cur,hv,hb,hg,hn,hm,hs,ht⟩⟩:=h
 · cases h0
 · injection hv with h1 h2 h3
   injection h1 with h1
   injection h1 with h1 h4
   subst h1 h3 h4
   exact ⟨rfl,.inr ⟨g,off,0,cur,rfl,hb,hg,Nat.le_refl _,Nat.zero_le _,by omega,by simp⟩⟩
theorem SlAt.new (w:World) (e:TypeId) (vs:List Value) (n:Nat) (hn:vs.length=n) (hm:n<=maxLen) :
 SlAt (w.alloc (.cells vs.toArray e)) (fun k=>k=w.heap.size) 1 (.slice (some ⟨w.heap.size,0,none⟩) n n) n vs:=by
 refine ⟨_,n,rfl,Nat.le_refl _,hm,by omega,fun _=>⟨w.heap.size,0,rfl,rfl,by simp,fun j u hu=>?_⟩⟩
 rw [Nat.zero_add,World.cell?_alloc_new,List.getElem?_toArray]
 exact hu
theorem Own.new (w:World) (base:Nat) (e:TypeId) (vs:List Value) (n:Nat) (hn:vs.length=n) (hm:n<=maxLen) (hb:base<=w.heap.size) :
 Own (w.alloc (.cells vs.toArray e)) base e 1 (.slice (some ⟨w.heap.size,0,none⟩) n n) n vs:=by
 refine ⟨by omega,.inr ⟨w.heap.size,0,n,vs.toArray,rfl,hb,heap_alloc_new w _,Nat.le_refl _,hm,by simp;omega,?_⟩⟩
 simp only [List.drop_zero,Nat.mul_one,<-hn,List.take_length]
theorem SlAt.first {w:World} {F:Nat->Prop} {n c:Nat} {A:Option Addr} {xs:List Value} (h:SlAt w F 1 (.slice A n c) n xs) (k:Nat) (hk:k<=n):SlAt w F 1 (.slice A k c) k (xs.take k):=by
 obtain ⟨A',c',hv,h1,h2,h3,h4⟩:=h
 injection hv with e1 e2 e3
 subst e1 e3
 refine ⟨A,c,rfl,by omega,h2,by rw [List.length_take];omega,fun hp=>?_⟩
 obtain ⟨b,off,hA,hF,hb,hc⟩:=h4 (by omega)
 refine ⟨b,off,hA,hF,hb,fun j u hu=>hc j u ?_⟩
 have hj:j<k:=by
  rcases Nat.lt_or_ge j k with h | h
  · exact h
  · rw [List.getElem?_eq_none (by rw [List.length_take];omega)] at hu;cases hu
 rwa [List.getElem?_take_of_lt hj] at hu
theorem quiet_add {P:Program} {f:FuncId} {args:Array Value} {w:World} {a n:Nat} {v:Value}
 (h:Calls P f args (w.drewN (a+n)) fun e w'=>e = .returned v/\∃ m,w'=(w.drewN (a+n)).drewN m) :
 Calls P f args (w.drewN (a+n)) fun e w''=>e = .returned v/\∃ m,w''=w.drewN (a+m) :=
 h.mono fun _ _ ⟨he,m,hm⟩=>⟨he,n+m,by rw [hm,World.drewN_drewN,Nat.add_assoc]⟩
theorem quiet_add_same {P:Program} {f:FuncId} {args:Array Value} {w:World} {a n:Nat} {v:Value}
 (h:Calls P f args (w.drewN (a+n)) fun e w'=>e = .returned v/\w'=w.drewN (a+n)) :
 Calls P f args (w.drewN (a+n)) fun e w''=>e = .returned v/\∃ m,w''=w.drewN (a+m) :=
 h.mono fun _ _ ⟨he,hm⟩=>⟨he,n,hm⟩
theorem wpList_value {P:Program} {w w':World} {ops:Array Oper} {rest:List Oper} {o:Oper} {a:Act} {Q:Exit->Act->World->Prop} (hgd:o.guard=none) (v:Value)
 (hrun:(execOp a.eval o).run P w = .ok (.value v) w') (h:wpList P ops Q rest (a.put o.dst v) w'):wpList P ops Q (o::rest) a w :=
 wpList_plain hgd fun _ hK=>by
  unfold Oper.wp
  rw [hrun]
  exact hK _ _ h
theorem wpList_same {P:Program} {w:World} {ops:Array Oper} {rest:List Oper} {o:Oper} {a:Act} {Q:Exit->Act->World->Prop} (hgd:o.guard=none) (v:Value)
 (hrun:(execOp a.eval o).run P w = .ok (.value v) w) (h:wpList P ops Q rest (a.put o.dst v) w):wpList P ops Q (o::rest) a w:=wpList_value hgd v hrun h
theorem alloc_named {w w1:World} {o:Obj} (h:w.alloc o=w1):w1.heap[w.heap.size]? = some o/\Below w.heap.size w w1/\w1.heap.size=w.heap.size+1:=by
 subst h
 exact ⟨heap_alloc_new w o,(Below.refl _ _).alloc (Nat.le_refl _) _,by simp⟩
theorem there_whole {w:World} {b:Nat} {c:Array Value} {t:TypeId} (h:w.heap[b]? = some (.cells c t (0,0))) (n:Nat) (hn:n<=c.size):w.there b 0 n:=by
 intro j hj
 rw [Nat.zero_add,cell_of_row w b j c t (0,0) h,frozen_of_row w b j c t h,Array.getElem?_eq_getElem (by omega)]
 exact ⟨rfl,rfl⟩
theorem setCells_ch (b:Nat):∀ (vs:List Value) (o:Nat) (w:World),Ch (fun k=>k=b) w (w.setCells b o vs)
 | [],_,w=>Ch.refl _ w
 | v::vs,o,w=>by
   have h:=setCells_ch b vs (o+1) (w.setCell ⟨b,o,none⟩ v)
   exact ((Ch.refl (fun k=>k=b) w).setCell (p:=⟨b,o,none⟩) (fun _=>rfl) v).trans h fun _ _ h=>h
theorem set_piece {α:Type} (L vs:List α) (v:α) (o:Nat) (h:o<L.length) :
 List.take (o+1) (L.set o v)++vs++List.drop (o+1+vs.length) (L.set o v)=List.take o L++v::vs++List.drop (o+(v::vs).length) L:=by
 have h1:List.take (o+1) (L.set o v)=List.take o L++[v]:=by
  rw [List.take_succ_eq_append_getElem (by simpa using h),List.take_set_of_le (Nat.le_refl _)]
  simp
 rw [h1,List.drop_set_of_lt (by omega)]
 simp only [List.append_assoc,List.cons_append,List.nil_append,List.length_cons]
 congr 4
 omega
theorem setCells_heap (b:Nat) (e:TypeId):∀ (vs:List Value) (o:Nat) (w:World) (cur:Array Value),w.heap[b]? = some (.cells cur e (0,0))->o+vs.length<=cur.size →
 ∃ cur':Array Value,(w.setCells b o vs).heap[b]? = some (.cells cur' e (0,0))/\cur'.size=cur.size/\cur'.toList=cur.toList.take o++vs++cur.toList.drop (o+vs.length)
 | [],o,w,cur,h,_=>⟨cur,h,rfl,by simp⟩
 | v::vs,o,w,cur,h,hl=>by
   have h1:(w.setCell ⟨b,o,none⟩ v).heap[b]? = some (.cells (cur.setIfInBounds o v) e (0,0)):=by
    simp [World.setCell,Array.getElem?_modify,h]
   obtain ⟨cur',h2,h3,h4⟩:=setCells_heap b e vs (o+1) _ _ h1 (by simp at hl ⊢;omega)
   refine ⟨cur',h2,by rw [h3];simp,?_⟩
   rw [h4,Array.toList_setIfInBounds]
   exact set_piece cur.toList vs v o (by simp only [List.length_cons] at hl;simpa using (by omega:o<cur.size))
theorem setCells_whole (w:World) (b:Nat) (cur:Array Value) (e:TypeId) (vs:List Value) (h:w.heap[b]? = some (.cells cur e (0,0))) (hl:vs.length=cur.size) :
 (w.setCells b 0 vs).heap[b]? = some (.cells vs.toArray e (0,0)):=by
 obtain ⟨cur',h1,h2,h3⟩:=setCells_heap b e vs 0 w cur h (by omega)
 rw [h1]
 have:cur'=vs.toArray:=by
  apply Array.ext'
  rw [h3]
  simp [hl]
 rw [this]
section
variable {P:Program} (w:World)
theorem run_append_none (t ty e:TypeId) (i:TypeInfo) (ht:P.underlying t=some (.slice e)) (hi:P.info? e=some i) (A B:Option Addr) (n cap c:Nat) (hn:n<=cap) :
 (Builtin.append_ #[t,t] ty #[.slice A n cap,.slice B 0 c]).run P w = .ok (.slice A n cap) w:=by
 rcases B with _ | b<;>rcases A with _ | a <;>
 simp [Builtin.append_,run_underlying ht,sizeOf,typeInfo,hi,Builtin.lenOf,Builtin.firstCells,hn,storeCells,loadCells,loadCellsFrom]
theorem run_append_Own (base:Nat) (t ty e:TypeId) (i:TypeInfo) (z:Value) (size bytes:Nat) (ht:P.underlying t=some (.slice e)) (hi:P.info? e=some i) (hz:i.zero=some z)
 (hsize:i.size=size) (hby:i.bytes=bytes) (hzs:z.cells.size=size) (hsz:0<size)
 (v:Value) (n:Nat) (xs:List Value) (hown:Own w base e size v n xs)
 (F:Nat->Prop) (u:Value) (m:Nat) (news:List Value) (hr:SlAt w F size u m news) (h1:∀ u ∈ news,u.oneCell'=true)
 (h63:n+m<=maxLen) (hbytes:(n+m)*bytes<=140737488355328) (hbase:base<=w.heap.size) :
 ∃ v' w',(Builtin.append_ #[t,t] ty #[v,u]).run P w = .ok v' w'/\Own w' base e size v' (n+m) (xs++news)/\w.grownBy w' v.ownBlock ∧
  (v'.ownBlock=v.ownBlock\/v'.ownBlock=some w.heap.size):=by
 obtain ⟨A,c,rfl,hmc,hcm,hl,hcells⟩:=hr
 rcases Nat.eq_zero_or_pos m with hm | hm
 · subst hm
   have hn:news=[]:=List.eq_nil_of_length_eq_zero (by simpa using hl)
   subst hn
   refine ⟨v,w,?_,by simpa using hown,World.grownBy.refl w _,.inl rfl⟩
   obtain ⟨_,⟨rfl,rfl⟩ | ⟨g,off,cap,cur,rfl,_,_,hnc,_⟩⟩:=hown
   · exact run_append_none w t ty e i ht hi none A 0 0 c (Nat.le_refl _)
   · exact run_append_none w t ty e i ht hi _ A n cap c hnc
 · obtain ⟨b,o,rfl,_,_,hc⟩:=hcells hm
   have hnews:∀ j u,news[j]? = some u->w.cell? ((⟨b,o,none⟩:Addr).add j)=some u:=by
    intro j u hu
    rw [Addr.add_lit]
    exact hc j u hu
   obtain ⟨hxl,⟨rfl,rfl⟩ | ⟨g,off,cap,cur,rfl,hbg,hg,hnc,hcap,hcs,htake⟩⟩:=hown
   · have hx:xs=[]:=List.eq_nil_of_length_eq_zero (by simpa using hxl)
     subst hx
     obtain ⟨v',w',hrun,h2,h3,_,h5⟩:=run_append_own_at (P:=P) w base t ty e i z size bytes ht hi hz hsize hby hzs hsz (.slice none 0 0) 0 [] ⟨by simp,.inl ⟨rfl,rfl⟩⟩ ⟨b,o,none⟩ m c news hl hnews h1 h63 hbytes hbase
     exact ⟨v',w',hrun,Own.of_ownsRow h2,h3,h5⟩
   · have hcell:∀ j,w.cell? ⟨g,j,none⟩=cur.toList[j]?:=fun j=>by rw [cell_of_row w g j cur e (0,0) hg,Array.getElem?_toList]
     by_cases hroom:n+m<=cap
     · have hsz':i.size=size:=hsize
       have hfit:off+n*size+news.length<=cur.size:=by
        have:(n+m)*size<=cap*size:=Nat.mul_le_mul_right _ hroom
        rw [hl];rw [Nat.add_mul] at this;omega
       have hrun:=run_append_room_cells (P:=P) w t ty e i ht hi g off n cap ⟨b,o,none⟩ m c news (by rw [hsize];exact hl) hnews h1 hroom
        (fun j hj=>by rw [hsize,hcell,List.getElem?_eq_getElem (by simp;omega)];rfl)
        (fun j hj=>frozen_of_row w g _ cur e hg)
       rw [hsize] at hrun
       obtain ⟨cur',hg',hs',ht'⟩:=setCells_heap g e news (off+n*size) w cur hg hfit
       have hch:=setCells_ch g news (off+n*size) w
       refine ⟨_,_,hrun,⟨by rw [List.length_append,hxl,hl,Nat.add_mul],.inr ⟨g,off,cap,cur',rfl,hbg,hg',hroom,hcap,by omega,?_⟩⟩,
        ⟨hch.os,hch.tape,hch.output,hch.size,fun k hk hne=>hch.block k hk (fun e=>hne (by rw [e];rfl))⟩,.inl rfl⟩
       rw [ht',<-htake]
       have hlt:off+n*size<=cur.toList.length:=by simpa using (by omega:off+n*size<=cur.size)
       have ha:(List.take (off+n*size) cur.toList).drop off=(cur.toList.drop off).take (n*size):=by
        rw [List.drop_take];congr 1;omega
       rw [List.append_assoc,List.drop_append_of_le_length (by rw [List.length_take];omega),ha]
       have hll:((cur.toList.drop off).take (n*size)).length=n*size:=by rw [List.length_take,List.length_drop];omega
       rw [List.take_append,hll,List.take_of_length_le (by rw [hll,Nat.add_mul];omega),Nat.add_mul,Nat.add_sub_cancel_left]
       congr 1
       rw [List.take_append_of_le_length (by omega),List.take_of_length_le (by omega)]
     · have holds:∀ j u,xs[j]? = some u->w.cell? ((⟨g,off,none⟩:Addr).add j)=some u:=by
        intro j u hu
        rw [Addr.add_lit,hcell]
        rw [<-htake] at hu
        have hj:j<n*size:=by
         rcases Nat.lt_or_ge j (n*size) with h | h
         · exact h
         · rw [List.getElem?_eq_none (by rw [List.length_take];omega)] at hu;cases hu
        rw [List.getElem?_take_of_lt hj,List.getElem?_drop] at hu
        exact hu
       subst hsize
       subst hby
       have hrun:=run_append_grow (P:=P) w t ty e i z ht hi hz ⟨g,off,none⟩ n cap xs hxl holds ⟨b,o,none⟩ m c news hl hnews (by omega) (by simp only [maxLen] at h63;omega) (growslice_fits (by omega) hbytes)
       have hge:=grownCap_ge w (n+m) cap e
       have hcm:=grownCap_le_maxLen w (n+m) cap e h63
       have hlen:(xs++news).length=(n+m)*i.size:=by rw [List.length_append,hxl,hl,Nat.add_mul]
       refine ⟨_,_,hrun,Own.of_ownsRow (base:=base) ⟨hlen,.inr ⟨w.heap.size,_,_,rfl,hbase,heap_alloc_new w.drew _,hge,hcm,?_,?_⟩⟩,
        ⟨rfl,rfl,rfl,by simp,fun k hk _=>heap_alloc_old w.drew _ k hk⟩,.inr rfl⟩
       · simp only [Array.size_append,List.size_toArray,size_zeroCells,hzs,hxl,hl,<-Nat.add_mul]
         congr 1
         omega
       · simp only [Array.toList_append,List.append_assoc]
         rw [<-List.append_assoc,<-hlen]
         exact List.take_left
theorem wp_append_Own {o:Oper} {a:Act} {K:Act->World->Prop} {Q:Exit->Act->World->Prop} (s x:Operand) (t:TypeId)
 (ho:o.op = .call { callee:=.builtin .append,args:=#[s,x],argTypes:=#[t,t] })
 (base:Nat) (e:TypeId) (i:TypeInfo) (z:Value) (size bytes:Nat) (ht:P.underlying t=some (.slice e)) (hi:P.info? e=some i) (hz:i.zero=some z)
 (hsize:i.size=size) (hby:i.bytes=bytes) (hzs:z.cells.size=size) (hsz:0<size)
 (v:Value) (n:Nat) (xs:List Value) (hs:a.eval s=v) (hown:Own w base e size v n xs)
 (F:Nat->Prop) (u:Value) (m:Nat) (news:List Value) (hx:a.eval x=u) (hr:SlAt w F size u m news) (h1:∀ u ∈ news,u.oneCell'=true)
 (h63:n+m<=maxLen) (hbytes:(n+m)*bytes<=140737488355328) (hbase:base<=w.heap.size)
 (h:∀ v' w',Own w' base e size v' (n+m) (xs++news)->w.grownBy w' v.ownBlock->(v'.ownBlock=v.ownBlock\/v'.ownBlock=some w.heap.size)->K (a.put o.dst v') w'):o.wp P a w K Q:=by
 obtain ⟨v',w',hrun,h2,h3,h4⟩:=run_append_Own (P:=P) w base t o.type e i z size bytes ht hi hz hsize hby hzs hsz v n xs hown F u m news hr h1 h63 hbytes hbase
 unfold Oper.wp execOp
 simp only [ho,resolve,invoke,builtin,Sem.run_bind,Sem.run_pure,Result.andThen_ok,List.map_toArray,List.map_cons,List.map_nil,hs,hx,hrun]
 exact h v' w' h2 h3 h4
theorem wpList_append_Own {ops:Array Oper} {rest:List Oper} {o:Oper} {a:Act} {Q:Exit->Act->World->Prop} (hgd:o.guard=none) (s x:Operand) (t:TypeId)
 (ho:o.op = .call { callee:=.builtin .append,args:=#[s,x],argTypes:=#[t,t] })
 (base:Nat) (e:TypeId) (i:TypeInfo) (z:Value) (size bytes:Nat) (ht:P.underlying t=some (.slice e)) (hi:P.info? e=some i) (hz:i.zero=some z)
 (hsize:i.size=size) (hby:i.bytes=bytes) (hzs:z.cells.size=size) (hsz:0<size)
 (v:Value) (n:Nat) (xs:List Value) (hs:a.eval s=v) (hown:Own w base e size v n xs)
 (F:Nat->Prop) (u:Value) (m:Nat) (news:List Value) (hx:a.eval x=u) (hr:SlAt w F size u m news) (h1:∀ u ∈ news,u.oneCell'=true)
 (h63:n+m<=maxLen) (hbytes:(n+m)*bytes<=140737488355328) (hbase:base<=w.heap.size)
 (h:∀ v' w',Own w' base e size v' (n+m) (xs++news)->w.grownBy w' v.ownBlock->(v'.ownBlock=v.ownBlock\/v'.ownBlock=some w.heap.size)->wpList P ops Q rest (a.put o.dst v') w'):wpList P ops Q (o::rest) a w :=
 wpList_plain hgd fun _ hK=>wp_append_Own w s x t ho base e i z size bytes ht hi hz hsize hby hzs hsz v n xs hs hown F u m news hx hr h1 h63 hbytes hbase fun v' w' h2 h3 h4=>hK _ _ (h v' w' h2 h3 h4)
end
end Go.Proofs.Ytfdibjgmbdkbcaa
