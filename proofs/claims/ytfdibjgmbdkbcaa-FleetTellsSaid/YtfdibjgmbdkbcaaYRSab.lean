/-
  What the constants of yearref1.Sum are, and what its words mean: no walk, no conditions. Memory words for the walk of yearref1.Sum: rows that lie apart. No conditions.
-/
import Derived.Test.YtfdibjgmbdkbcaaYGb
import Derived.Test.YtfdibjgmbdkbcaaYGc
import Derived.Test.YtfdibjgmbdkbcaaYPR
namespace Go.Proofs.Ytfdibjgmbdkbcaa
open Go.RowKit
theorem roots_k:((primesTo 310).map fun p=>rootS p false)=Sha.Kc:=by decide +kernel
theorem roots_h:(((primesTo 310).take 8).map fun p=>rootS p true)=Sha.H0.toList:=by decide +kernel
theorem primes_small:∀ p ∈ primesTo 310,p<4294967296:=fun p hp=>by have:=(primesTo_ge 310 p hp).2;omega
theorem andNot32 (x y:UInt32):bits .andNot .u32 (x.toNat:Int) (y.toNat:Int)=((x &&& ~~~y).toNat:Int):=by
 show IntKind.u32.wrap (((BitVec.ofInt 32 (x.toNat:Int) &&& ~~~ BitVec.ofInt 32 (y.toNat:Int)).toNat:Nat):Int)=_
 rw [ofInt32,ofInt32]
 have h:(x.toBitVec &&& ~~~y.toBitVec).toNat=(x &&& ~~~y).toNat:=rfl
 rw [h,IntKind.wrap_u32]
 have:=(x &&& ~~~y).toNat_lt
 omega
theorem choose_eq (e f g:UInt32):((f &&& e) ||| (g &&& ~~~e))=((e &&& f) ^^^ (~~~e &&& g)):=by
 apply UInt32.eq_of_toBitVec_eq
 simp only [UInt32.toBitVec_or,UInt32.toBitVec_and,UInt32.toBitVec_xor,UInt32.toBitVec_not]
 ext i hi
 simp only [BitVec.getElem_or,BitVec.getElem_and,BitVec.getElem_xor,BitVec.getElem_not]
 cases e.toBitVec[i]<;>cases f.toBitVec[i]<;>cases g.toBitVec[i]<;>rfl
theorem most_eq (a b c:UInt32):((a &&& b) ||| (a &&& c) ||| (b &&& c))=((a &&& b) ^^^ (a &&& c) ^^^ (b &&& c)):=by
 apply UInt32.eq_of_toBitVec_eq
 simp only [UInt32.toBitVec_or,UInt32.toBitVec_and,UInt32.toBitVec_xor]
 ext i hi
 simp only [BitVec.getElem_or,BitVec.getElem_and,BitVec.getElem_xor]
 cases a.toBitVec[i]<;>cases b.toBitVec[i]<;>cases c.toBitVec[i]<;>rfl
theorem rt1_val (a b c d e f g h kj wj:UInt32) :
 h+(Sha.rotr e 6 ^^^ Sha.rotr e 11 ^^^ Sha.rotr e 25)+((f &&& e) ||| (g &&& ~~~e))+kj+wj=Sha.t1 ⟨a,b,c,d,e,f,g,h⟩ kj wj:=by
 rw [choose_eq];rfl
theorem rt2_val (a b c d e f g h:UInt32) :
 (Sha.rotr a 2 ^^^ Sha.rotr a 13 ^^^ Sha.rotr a 22)+((a &&& b) ||| (a &&& c) ||| (b &&& c))=Sha.t2 ⟨a,b,c,d,e,f,g,h⟩:=by
 rw [most_eq];rfl
theorem rsched_val (x16 x7 x15 x2:UInt32):x16+(Sha.rotr x15 7 ^^^ Sha.rotr x15 18 ^^^ (x15 >>> 3))+x7+(Sha.rotr x2 17 ^^^ Sha.rotr x2 19 ^^^ (x2 >>> 10))=x16+x7+Sha.sig0 x15+Sha.sig1 x2:=by
 show x16+Sha.sig0 x15+x7+Sha.sig1 x2=_
 rw [UInt32.add_assoc x16 (Sha.sig0 x15) x7,UInt32.add_comm (Sha.sig0 x15) x7,<-UInt32.add_assoc]
def wordTo (l:Bs):UInt32:=l.foldl (fun x c=>x*256+c.toUInt32) 0
theorem wordTo_snoc (l:Bs) (c:UInt8):wordTo (l++[c])=wordTo l*256+c.toUInt32:=by simp [wordTo]
theorem wordTo_four (p q r s:UInt8):wordTo [p,q,r,s]=Sha.word p q r s:=by
 show ((((0*256+p.toUInt32:UInt32)*256+q.toUInt32:UInt32)*256+r.toUInt32:UInt32)*256+s.toUInt32:UInt32)=Sha.word p q r s
 unfold Sha.word
 have hp:=p.toNat_lt
 have hq:=q.toNat_lt
 have hr:=r.toNat_lt
 have hs:=s.toNat_lt
 apply UInt32.toNat_inj.1
 simp only [UInt32.toNat_or,UInt32.toNat_add,UInt32.toNat_mul,UInt32.toNat_shiftLeft,UInt8.toNat_toUInt32,UInt32.reduceToNat,Nat.reduceMod]
 rw [Nat.shiftLeft_eq,Nat.shiftLeft_eq,Nat.shiftLeft_eq,Nat.or_assoc,Nat.or_assoc,
  Nat.mod_eq_of_lt (a:=p.toNat * 2 ^ 24) (by omega),Nat.mod_eq_of_lt (a:=q.toNat * 2 ^ 16) (by omega),Nat.mod_eq_of_lt (a:=r.toNat * 2 ^ 8) (by omega)]
 have e3:(r.toNat * 2 ^ 8 ||| s.toNat)=r.toNat * 2 ^ 8+s.toNat:=by
  rw [Nat.mul_comm];exact (Nat.two_pow_add_eq_or_of_lt hs _).symm
 have e2:(q.toNat * 2 ^ 16 ||| (r.toNat * 2 ^ 8 ||| s.toNat))=q.toNat * 2 ^ 16+(r.toNat * 2 ^ 8+s.toNat):=by
  rw [e3,Nat.mul_comm q.toNat];exact (Nat.two_pow_add_eq_or_of_lt (by omega) _).symm
 have e1:(p.toNat * 2 ^ 24 ||| (q.toNat * 2 ^ 16 ||| (r.toNat * 2 ^ 8 ||| s.toNat)))=p.toNat * 2 ^ 24+(q.toNat * 2 ^ 16+(r.toNat * 2 ^ 8+s.toNat)):=by
  rw [e2,Nat.mul_comm p.toNat];exact (Nat.two_pow_add_eq_or_of_lt (by omega) _).symm
 rw [e1]
 omega
end Go.Proofs.Ytfdibjgmbdkbcaa
namespace Go.Proofs.Ytfdibjgmbdkbcaa
open Go.RowKit
theorem info_u32:(Try.prog.info? 119).map (fun i=>(i.zero,i.size,i.bytes))=some (some (.int .u32 0),1,4):=by kernel_rfl
def Apart (u v:Value):Prop:=∀ k,u.ownBlock=some k->v.ownBlock≠some k
section
variable {w w1:World} {B B':Nat} {e e':TypeId} {s s' n n':Nat} {u v u':Value} {xs ys:List Value}
theorem Apart.symm (h:Apart u v):Apart v u:=fun k hk hu=>h k hu hk
theorem Apart.grown (h:Apart u v) (hv:Own w B e s v n xs) (hat:u'.ownBlock=u.ownBlock\/u'.ownBlock=some w.heap.size):Apart u' v:=by
 intro k hk hvk
 rcases hat with ha | ha
 · exact h k (ha ▸ hk) hvk
 · rw [ha] at hk
   injection hk with hk
   have:=(hv.lt k hvk).2
   omega
theorem Own.stay (h:Own w B e s v n xs) (hg:w.grownBy w1 u.ownBlock) (ha:Apart u v):Own w1 B e s v n xs :=
 h.keep fun k hk hlt _=>hg.block k hlt (fun e=>ha k e.symm hk)
end
def KH (w:World) (B:Nat) (vk vh:Value) (hs:List UInt32):Prop :=
 Own w B 119 1 vk 64 (Sha.Kc.map uv)/\Own w B 119 1 vh 8 (hs.map uv)/\Apart vk vh
section
variable {w w1:World} {B B':Nat} {vk vh u:Value} {hs:List UInt32} {n:Nat} {xs:List Value}
theorem KH.alloc (h:KH w B vk vh hs) (o:Obj):KH (w.alloc o) B vk vh hs:=⟨h.1.alloc o,h.2.1.alloc o,h.2.2⟩
theorem KH.drewN (h:KH w B vk vh hs) (k:Nat):KH (w.drewN k) B vk vh hs:=h
theorem KH.below (h:KH w B vk vh hs) (hb:Below w.heap.size w w1):KH w1 B vk vh hs:=⟨h.1.below hb,h.2.1.below hb,h.2.2⟩
theorem KH.bytes (h:KH w B vk vh hs) (hu:Own w B' 5 1 u n xs) (hg:w.grownBy w1 u.ownBlock):KH w1 B vk vh hs :=
 ⟨h.1.stay hg (Own.apart hu h.1 (by decide)),h.2.1.stay hg (Own.apart hu h.2.1 (by decide)),h.2.2⟩
end
theorem blk_at (m:Bs) (i q:Nat) (hq:q<64) (hn:64*i+q<m.length):m[64*i+q]? = some ((Sha.blk m i).getD q 0):=by
 unfold Sha.blk
 rw [List.getD_eq_getElem?_getD,List.getElem?_take_of_lt hq,List.getElem?_drop,List.getElem?_eq_getElem hn]
 rfl
def four (b:Bs) (j:Nat):Bs:=[b.getD (4*j) 0,b.getD (4*j+1) 0,b.getD (4*j+2) 0,b.getD (4*j+3) 0]
theorem four_take (b:Bs) (j q:Nat) (hq:q<4):(four b j).take (q+1)=(four b j).take q++[b.getD (4*j+q) 0]:=by
 rcases q with _ | _ | _ | _ | q<;>first | rfl | omega
theorem four_next (b:Bs) (j q:Nat) (hq:q<4):wordTo ((four b j).take (q+1))=wordTo ((four b j).take q)*256+(b.getD (4*j+q) 0).toUInt32:=by
 rw [four_take b j q hq,wordTo_snoc]
theorem four_all (b:Bs) (j:Nat):wordTo ((four b j).take 4)=Sha.wordAt b j:=by
 have h:(four b j).take 4=[b.getD (4*j) 0,b.getD (4*j+1) 0,b.getD (4*j+2) 0,b.getD (4*j+3) 0]:=rfl
 rw [h,wordTo_four]
 rfl
theorem word_sched (b:Bs) (j:Nat) (h:j<16):Sha.sched b (j+1)=Sha.sched b j++[Sha.wordAt b j]:=by
 rw [Sha.sched,Sha.nextW,Sha.length_sched,if_pos h]
theorem byte_in (x:UInt32) (c:UInt8):((x.toNat:Int)*256 % 4294967296+(c.toNat:Int) % 4294967296) % 4294967296=((x*256+c.toUInt32).toNat:Int):=by
 rw [UInt32.toNat_add,UInt32.toNat_mul,UInt8.toNat_toUInt32]
 show _=(((x.toNat * 256 % 2 ^ 32+c.toNat) % 2 ^ 32:Nat):Int)
 have:=c.toNat_lt
 omega
theorem rsched_raw (x16 x7 x15 x2:UInt32) :
 IntKind.u32.wrap (IntKind.u32.wrap (IntKind.u32.wrap ((x16.toNat:Int)+bits .xor .u32 (bits .xor .u32 ((Sha.rotr x15 7).toNat:Int) ((Sha.rotr x15 18).toNat:Int)) ((x15.toNat:Int) / 8))+(x7.toNat:Int)) +
  bits .xor .u32 (bits .xor .u32 ((Sha.rotr x2 17).toNat:Int) ((Sha.rotr x2 19).toNat:Int)) ((x2.toNat:Int) / 1024))=((x16+x7+Sha.sig0 x15+Sha.sig1 x2).toNat:Int):=by
 have e1:=shr32_3 x15
 have e2:=shr32_10 x2
 rw [e1,e2,xor32,xor32,xor32,xor32,wadd32,wadd32,wadd32,rsched_val]
theorem rt1_raw (a b c d e f g h kj wj:UInt32) :
 IntKind.u32.wrap (IntKind.u32.wrap (IntKind.u32.wrap (IntKind.u32.wrap ((h.toNat:Int)+bits .xor .u32 (bits .xor .u32 ((Sha.rotr e 6).toNat:Int) ((Sha.rotr e 11).toNat:Int)) ((Sha.rotr e 25).toNat:Int))+(((f &&& e) ||| (g &&& ~~~e)).toNat:Int))+(kj.toNat:Int))+(wj.toNat:Int)) =
  ((Sha.t1 ⟨a,b,c,d,e,f,g,h⟩ kj wj).toNat:Int):=by
 rw [xor32,xor32,wadd32,wadd32,wadd32,wadd32,rt1_val]
theorem rt2_raw (a b c d e f g h:UInt32) :
 IntKind.u32.wrap (bits .xor .u32 (bits .xor .u32 ((Sha.rotr a 2).toNat:Int) ((Sha.rotr a 13).toNat:Int)) ((Sha.rotr a 22).toNat:Int)+(((a &&& b) ||| (a &&& c) ||| (b &&& c)).toNat:Int))=((Sha.t2 ⟨a,b,c,d,e,f,g,h⟩).toNat:Int):=by
 rw [xor32,xor32,wadd32,rt2_val]
theorem choose_raw (e f g:UInt32):bits .or .u32 (bits .and .u32 (f.toNat:Int) (e.toNat:Int)) (bits .andNot .u32 (g.toNat:Int) (e.toNat:Int))=(((f &&& e) ||| (g &&& ~~~e)).toNat:Int):=by
 rw [and32,andNot32,or32]
theorem most_raw (a b c:UInt32):bits .or .u32 (bits .or .u32 (bits .and .u32 (a.toNat:Int) (b.toNat:Int)) (bits .and .u32 (a.toNat:Int) (c.toNat:Int))) (bits .and .u32 (b.toNat:Int) (c.toNat:Int))=(((a &&& b) ||| (a &&& c) ||| (b &&& c)).toNat:Int):=by
 rw [and32,and32,and32,or32,or32]
def mixW (v x:Sha.V8) (q:Nat):List UInt32:=(v.plus x).toList.take q++v.toList.drop q
theorem mixW_at (v x:Sha.V8) (q:Nat) (hq:q<8):((mixW v x q).map uv)[q]? = some (.int .u32 (v.toList.getD q 0).toNat):=by
 rcases q with _ | _ | _ | _ | _ | _ | _ | _ | q<;>first | rfl | omega
theorem mixW_set (v x:Sha.V8) (q:Nat) (hq:q<8):((mixW v x q).set q (v.toList.getD q 0+x.toList.getD q 0))=mixW v x (q+1):=by
 rcases q with _ | _ | _ | _ | _ | _ | _ | _ | q<;>first | rfl | omega
theorem V8_at (v:Sha.V8) (q:Nat) (hq:q<8):(v.toList.map uv)[q]? = some (uv (v.toList.getD q 0)):=by
 rcases q with _ | _ | _ | _ | _ | _ | _ | _ | q<;>first | rfl | omega
theorem be32_at (x:UInt32) (j:Nat) (hj:j<4):(x.toNat:Int) / 2 ^ (24-8*j) % 256=(((Sha.be32 x).getD j 0).toNat:Int):=by
 have e1:=shr32_24 x
 have e2:=shr32_16 x
 have e3:=shr32_8 x
 rcases j with _ | _ | _ | _ | j
 · show (x.toNat:Int) / 16777216 % 256=_
   rw [e1,u32to8];rfl
 · show (x.toNat:Int) / 65536 % 256=_
   rw [e2,u32to8];rfl
 · show (x.toNat:Int) / 256 % 256=_
   rw [e3,u32to8];rfl
 · show (x.toNat:Int) / 1 % 256=_
   rw [Int.ediv_one,u32to8];rfl
 · omega
section
variable {w w1:World} {B:Nat} {vk:Value} {gb go ch:Nat} {hs:List UInt32}
theorem KH.set_ (h:KH w B vk (.slice (some ⟨gb,go,none⟩) 8 ch) hs) (q:Nat) (u:UInt32):KH (w.setCell ⟨gb,go+q,none⟩ (.int .u32 u.toNat)) B vk (.slice (some ⟨gb,go,none⟩) 8 ch) (hs.set q u):=by
 refine ⟨h.1.setCell (p:=⟨gb,go+q,none⟩) (fun e=>h.2.2 gb e rfl) _,?_,h.2.2⟩
 have h2:=h.2.1.set_ q (uv u)
 rw [<-List.map_set] at h2
 exact h2
end
theorem turn6_any (w:World) (x:UInt32):Calls Try.prog 83 #[.int .u32 x.toNat,.int .i64 6] w fun e w'=>e = .returned (.int .u32 (Sha.rotr x 6).toNat)/\∃ n,w'=w.drewN n :=
 turn_any w x 6 (by decide) (by decide)
theorem turn11_any (w:World) (x:UInt32):Calls Try.prog 83 #[.int .u32 x.toNat,.int .i64 11] w fun e w'=>e = .returned (.int .u32 (Sha.rotr x 11).toNat)/\∃ n,w'=w.drewN n :=
 turn_any w x 11 (by decide) (by decide)
theorem turn25_any (w:World) (x:UInt32):Calls Try.prog 83 #[.int .u32 x.toNat,.int .i64 25] w fun e w'=>e = .returned (.int .u32 (Sha.rotr x 25).toNat)/\∃ n,w'=w.drewN n :=
 turn_any w x 25 (by decide) (by decide)
theorem wmod32 (x y:UInt32):((x.toNat:Int)+(y.toNat:Int)) % 4294967296=((x+y).toNat:Int):=by
 rw [<-wadd32,IntKind.wrap_u32]
theorem rt2_mod {a b c:UInt32} (d e f g h m:UInt32) (hm:m=((a &&& b) ||| (a &&& c) ||| (b &&& c))) :
 (bits .xor .u32 (bits .xor .u32 ((Sha.rotr a 2).toNat:Int) ((Sha.rotr a 13).toNat:Int)) ((Sha.rotr a 22).toNat:Int)+(m.toNat:Int)) % 4294967296=((Sha.t2 ⟨a,b,c,d,e,f,g,h⟩).toNat:Int):=by
 rw [hm,<-rt2_raw a b c d e f g h,IntKind.wrap_u32]
theorem rt1_hid {e f g:UInt32} (a b c d h kj wj m:UInt32) (hm:m=((f &&& e) ||| (g &&& ~~~e))) :
 IntKind.u32.wrap (IntKind.u32.wrap (IntKind.u32.wrap (IntKind.u32.wrap ((h.toNat:Int)+bits .xor .u32 (bits .xor .u32 ((Sha.rotr e 6).toNat:Int) ((Sha.rotr e 11).toNat:Int)) ((Sha.rotr e 25).toNat:Int))+(m.toNat:Int))+(kj.toNat:Int))+(wj.toNat:Int)) =
  ((Sha.t1 ⟨a,b,c,d,e,f,g,h⟩ kj wj).toNat:Int):=by
 rw [hm];exact rt1_raw a b c d e f g h kj wj
end Go.Proofs.Ytfdibjgmbdkbcaa
