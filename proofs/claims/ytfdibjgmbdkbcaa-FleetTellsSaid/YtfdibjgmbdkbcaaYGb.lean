/-
  Plain law, no program: the model's sums and bits on uint32 and uint8, told by UInt32 and UInt8. No conditions. THE WALKS of sha.word, math/bits.RotateLeft32, yearref1.turn, sha.rounds. Conditions: what is read is bytes.  THE WALK of (*sha.state).write: what a state holds of so many bytes, and of more behind them. Conditions: fewer than 2^47 bytes in all. THE WALKS of sha.begin, (*sha.state).end, sha.Parts, sha.Sum: what comes in parts has the digest of all. Conditions: fewer than 2^47 bytes in all. THE WALKS of sha.Parts, sha.Sum: what comes in parts has the digest of all. Conditions: fewer than 2^47 bytes in all.
-/
import Derived.Laws.BitsAllLaws
import Derived.Laws.BitsLemmas
import Derived.Test.YtfdibjgmbdkbcaaProg
import Derived.WalkKit
import Derived.WalkSpells
import Derived.WalkLawsBesides
import Derived.Deep.QuietTactic
import Derived.BigQuiet
import Derived.Deep.MidRow
import Derived.StillTailTactics
import Derived.LoopTactic
import Derived.Deep.DeepCutAuto
import Derived.Deep.LoopGhost
import Derived.Test.YtfdibjgmbdkbcaaYGa
namespace Go.Proofs.Ytfdibjgmbdkbcaa
theorem ofInt32 (x:UInt32):BitVec.ofInt 32 (x.toNat:Int)=x.toBitVec:=by
 apply BitVec.eq_of_toNat_eq
 rw [BitVec.ofInt_natCast,BitVec.toNat_ofNat,UInt32.toNat_toBitVec]
 exact Nat.mod_eq_of_lt x.toNat_lt
theorem or32 (x y:UInt32):bits .or .u32 (x.toNat:Int) (y.toNat:Int)=((x ||| y).toNat:Int):=by
 show IntKind.u32.wrap ((BitVec.ofInt 32 (x.toNat:Int) ||| BitVec.ofInt 32 (y.toNat:Int)).toNat:Int)=_
 rw [ofInt32,ofInt32,<-UInt32.toBitVec_or,UInt32.toNat_toBitVec,IntKind.wrap_u32]
 have:=(x ||| y).toNat_lt
 omega
theorem and32 (x y:UInt32):bits .and .u32 (x.toNat:Int) (y.toNat:Int)=((x &&& y).toNat:Int):=by
 show IntKind.u32.wrap ((BitVec.ofInt 32 (x.toNat:Int) &&& BitVec.ofInt 32 (y.toNat:Int)).toNat:Int)=_
 rw [ofInt32,ofInt32,<-UInt32.toBitVec_and,UInt32.toNat_toBitVec,IntKind.wrap_u32]
 have:=(x &&& y).toNat_lt
 omega
theorem xor32 (x y:UInt32):bits .xor .u32 (x.toNat:Int) (y.toNat:Int)=((x ^^^ y).toNat:Int):=by
 show IntKind.u32.wrap ((BitVec.ofInt 32 (x.toNat:Int) ^^^ BitVec.ofInt 32 (y.toNat:Int)).toNat:Int)=_
 rw [ofInt32,ofInt32,<-UInt32.toBitVec_xor,UInt32.toNat_toBitVec,IntKind.wrap_u32]
 have:=(x ^^^ y).toNat_lt
 omega
theorem not32 (x:UInt32):bits .xor .u32 (if IntKind.u32.signed=true then -1 else IntKind.u32.max) (x.toNat:Int)=((~~~x).toNat:Int):=by
 have h:(if IntKind.u32.signed=true then -1 else IntKind.u32.max:Int)=((4294967295:UInt32).toNat:Int):=by decide
 rw [h,xor32]
 have e:(4294967295:UInt32) ^^^ x = ~~~x:=by
  apply UInt32.toBitVec_inj.1
  rw [UInt32.toBitVec_xor,UInt32.toBitVec_not]
  show BitVec.allOnes 32 ^^^ x.toBitVec=_
  rw [BitVec.allOnes_xor]
 rw [e]
theorem wadd32 (x y:UInt32):IntKind.u32.wrap ((x.toNat:Int)+(y.toNat:Int))=((x+y).toNat:Int):=by
 rw [IntKind.wrap_u32,UInt32.toNat_add];omega
theorem add32 (x y:UInt32):((x.toNat:Int)+(y.toNat:Int)) % 4294967296=((x+y).toNat:Int):=by
 rw [UInt32.toNat_add];omega
theorem shl32 (x:UInt32) (c:UInt32) (h:c.toNat<32):(x.toNat:Int)*2 ^ c.toNat % 4294967296=((x <<< c).toNat:Int):=by
 rw [UInt32.toNat_shiftLeft,Nat.mod_eq_of_lt h,Nat.shiftLeft_eq]
 simp
theorem shr32 (x:UInt32) (c:UInt32) (h:c.toNat<32):(x.toNat:Int) / 2 ^ c.toNat=((x >>> c).toNat:Int):=by
 rw [UInt32.toNat_shiftRight,Nat.mod_eq_of_lt h,Nat.shiftRight_eq_div_pow]
 simp
theorem shl32_24 (x:UInt32):(x.toNat:Int)*(16777216:Int) % (4294967296:Int)=((x <<< 24).toNat:Int):=shl32 x 24 (by decide)
theorem shl32_16 (x:UInt32):(x.toNat:Int)*(65536:Int) % (4294967296:Int)=((x <<< 16).toNat:Int):=shl32 x 16 (by decide)
theorem shl32_8 (x:UInt32):(x.toNat:Int)*(256:Int) % (4294967296:Int)=((x <<< 8).toNat:Int):=shl32 x 8 (by decide)
theorem shr32_3 (x:UInt32):(x.toNat:Int) / (8:Int)=((x >>> 3).toNat:Int):=shr32 x 3 (by decide)
theorem shr32_10 (x:UInt32):(x.toNat:Int) / (1024:Int)=((x >>> 10).toNat:Int):=shr32 x 10 (by decide)
theorem shr32_24 (x:UInt32):(x.toNat:Int) / (16777216:Int)=((x >>> 24).toNat:Int):=shr32 x 24 (by decide)
theorem shr32_16 (x:UInt32):(x.toNat:Int) / (65536:Int)=((x >>> 16).toNat:Int):=shr32 x 16 (by decide)
theorem shr32_8 (x:UInt32):(x.toNat:Int) / (256:Int)=((x >>> 8).toNat:Int):=shr32 x 8 (by decide)
theorem u8to32 (p:UInt8):(p.toNat:Int) % 4294967296=(p.toUInt32.toNat:Int):=by
 have:=p.toNat_lt
 rw [UInt8.toNat_toUInt32];omega
theorem u32to8 (p:UInt32):(p.toNat:Int) % 256=(p.toUInt8.toNat:Int):=by
 rw [UInt32.toNat_toUInt8];omega
end Go.Proofs.Ytfdibjgmbdkbcaa
namespace Go.Proofs.Ytfdibjgmbdkbcaa
open Go.RowKit
set_option maxHeartbeats 400000 in
theorem word_at (w:World) (b off n c:Nat) (p q r s:UInt8) (h4:4<=n) (hn:n<=9223372036854775807)
 (c0:w.cell? ⟨b,off,none⟩=some (.int .u8 p.toNat)) (c1:w.cell? ⟨b,off+1,none⟩=some (.int .u8 q.toNat))
 (c2:w.cell? ⟨b,off+2,none⟩=some (.int .u8 r.toNat)) (c3:w.cell? ⟨b,off+3,none⟩=some (.int .u8 s.toNat)) :
 Calls Try.prog 147 #[.slice (some ⟨b,off,none⟩) n c] w fun e w'=>e = .returned (.int .u32 (Sha.word p q r s).toNat)/\∃ n,w'=w.drewN n:=by
 have i0:(0:Int)<(n:Int):=by omega
 have i1:(1:Int)<(n:Int):=by omega
 have i2:(2:Int)<(n:Int):=by omega
 have i3:(3:Int)<(n:Int):=by omega
 go_enter Try.func147,Try.ntmps147
 go_wp2
 go_quiet (fail)
 go_wp2
 go_ret
 refine ⟨?_,nq,rfl⟩
 show Ending.returned (Value.int IntKind.u32 _)=_
 rw [u8to32,u8to32,u8to32,u8to32,shl32_24,shl32_16,shl32_8,or32,or32,or32]
 rfl
set_option maxHeartbeats 400000 in
theorem rot_any (w:World) (x:UInt32) (k:Int) (s:Nat) (hk:bits .and .u64 (IntKind.u64.wrap k) 31=(s:Int)) (h1:1<=s) (h2:s<=31) :
 Calls Try.prog 148 #[.int .u32 x.toNat,.int .i64 k] w fun e w'=>e = .returned (.int .u32 (Sha.rotr x (UInt32.ofNat (32-s))).toNat)/\w'=w:=by
 go_enter Try.func148,Try.ntmps148
 go_wp2
 go_ret
 refine ⟨?_,rfl⟩
 show Ending.returned (Value.int IntKind.u32 (bits BinOp.or IntKind.u32 ((x.toNat:Int)*2 ^ s % 4294967296) ((x.toNat:Int) / 2 ^ (32-s))))=_
 have e1:(UInt32.ofNat (32-s)).toNat=32-s:=by rw [UInt32.toNat_ofNat'];omega
 have e2:(32-UInt32.ofNat (32-s)).toNat=s:=by
  rw [UInt32.toNat_sub_of_le _ _ (by rw [UInt32.le_iff_toNat_le,e1];show 32-s<=32;omega),e1]
  show 32-(32-s)=s
  omega
 have g1:=shl32 x (32-UInt32.ofNat (32-s)) (by rw [e2];omega)
 have g2:=shr32 x (UInt32.ofNat (32-s)) (by rw [e1];omega)
 rw [e2] at g1
 rw [e1] at g2
 rw [g1,g2,or32]
 rfl
def uv (x:UInt32):Value:=.int .u32 (x.toNat:Int)
def kArr:Array Value:=(Sha.Kc.map uv).toArray
theorem kArr_one:kArr.all (·.oneCell')=true:=by simp [kArr,uv,Value.oneCell',Sha.Kc]
set_option maxRecDepth 100000 in
theorem rounds_any (w:World):Calls Try.prog 149 #[] w fun e w'=>e = .returned (.agg kArr)/\Below w.heap.size w w':=by
 go_enter Try.func149,Try.ntmps149
 go_step
 go_step
 go_step
 go_step
 go_step
 go_step
 go_step
 iterate 4 go_step
 generalize hw1:World.alloc w _=w1
 obtain ⟨hg,hb1,_⟩:=alloc_named hw1
 clear hw1
 refine wpList_same rfl (.agg kArr) (by kernel_rfl) ?_
 refine wpList_store_mid rfl 192 (.tmp 0) (.tmp 1) rfl w.heap.size 0 kArr rfl rfl (there_whole hg _ (Nat.le_refl 64)) (by kernel_rfl) kArr_one ?_
 have hh:=setCells_whole w1 w.heap.size _ 192 kArr.toList hg rfl
 have hch:=setCells_ch w.heap.size kArr.toList 0 w1
 generalize World.setCells _ _ _ _=w2 at hh hch ⊢
 have hb2:Below w.heap.size w w2:=hb1.trans ⟨hch.os,hch.tape,hch.output,hch.size,fun k hk=>hch.block k (Nat.lt_of_lt_of_le hk hb1.size) (by omega)⟩
 clear hch hg
 go_wp2_with fail
 exact bodyPost_ret (results_cell_row rfl _ _ w.heap.size 192 kArr (0,0) _ rfl hh Try.underlying192 rfl (by kernel_rfl)) rfl ⟨rfl,hb2⟩
def rotC (k:Int):UInt32:=UInt32.ofNat (32-(bits .and .u64 (IntKind.u64.wrap k) 31).toNat)
def rotOk (k:Int):Bool:=decide (1<=bits .and .u64 (IntKind.u64.wrap k) 31)&&decide (bits .and .u64 (IntKind.u64.wrap k) 31<=31)
theorem rotk_any (w:World) (x:UInt32) (k:Int) (h:rotOk k=true) :
 Calls Try.prog 148 #[.int .u32 x.toNat,.int .i64 k] w fun e w'=>e = .returned (.int .u32 (Sha.rotr x (rotC k)).toNat)/\w'=w:=by
 unfold rotOk at h
 rw [Bool.and_eq_true,decide_eq_true_eq,decide_eq_true_eq] at h
 refine rot_any w x k (bits .and .u64 (IntKind.u64.wrap k) 31).toNat (by omega) (by omega) (by omega)
end Go.Proofs.Ytfdibjgmbdkbcaa
namespace Go.Proofs.Ytfdibjgmbdkbcaa
open Go.RowKit
def stCells (v:Sha.V8) (r n:Value):Array Value:=#[uv v.a,uv v.b,uv v.c,uv v.d,uv v.e,uv v.f,uv v.g,uv v.h,r,n]
theorem kArr_get {j:Nat} {x:UInt32} (h:Sha.Kc[j]? = some x):kArr[j]? = some (uv x):=by
 unfold kArr
 rw [List.getElem?_toArray,List.getElem?_map,h]
 rfl
theorem vcells_one (v:Sha.V8):(v.toList.map uv).toArray.all (·.oneCell')=true:=by simp [Sha.V8.toList,uv,Value.oneCell']
theorem stCells_range {w:World} {g:Nat} {T:TypeId} {v:Sha.V8} {r n:Value} (h:w.heap[g]? = some (.cells (stCells v r n) T (0,0))):w.rangeAt g 0 (v.toList.map uv):=by
 intro j u hu
 rw [Nat.zero_add,cell_of_row w g j _ T (0,0) h]
 rcases j with _ | _ | _ | _ | _ | _ | _ | _ | j<;>first | exact hu | (simp [Sha.V8.toList] at hu)
theorem rc7:rotC (-7)=7:=by decide +kernel
theorem rc18:rotC (-18)=18:=by decide +kernel
theorem rc17:rotC (-17)=17:=by decide +kernel
theorem rc19:rotC (-19)=19:=by decide +kernel
theorem rc6:rotC (-6)=6:=by decide +kernel
theorem rc11:rotC (-11)=11:=by decide +kernel
theorem rc25:rotC (-25)=25:=by decide +kernel
theorem rc2:rotC (-2)=2:=by decide +kernel
theorem rc13:rotC (-13)=13:=by decide +kernel
theorem rc22:rotC (-22)=22:=by decide +kernel
theorem sched_val (x16 x7 x15 x2:UInt32) :
 ((x16.toNat:Int)+(x7.toNat:Int)+bits .xor .u32 (bits .xor .u32 ((Sha.rotr x15 (rotC (-7))).toNat:Int) ((Sha.rotr x15 (rotC (-18))).toNat:Int)) ((x15.toNat:Int) / (8:Int)) +
   bits .xor .u32 (bits .xor .u32 ((Sha.rotr x2 (rotC (-17))).toNat:Int) ((Sha.rotr x2 (rotC (-19))).toNat:Int)) ((x2.toNat:Int) / (1024:Int))) % (4294967296:Int)=((x16+x7+Sha.sig0 x15+Sha.sig1 x2).toNat:Int):=by
 rw [rc7,rc18,rc17,rc19,shr32_3,shr32_10,xor32,xor32,xor32,xor32]
 show ((x16.toNat:Int)+(x7.toNat:Int)+((Sha.sig0 x15).toNat:Int)+((Sha.sig1 x2).toNat:Int)) % (4294967296:Int)=_
 rw [UInt32.toNat_add,UInt32.toNat_add,UInt32.toNat_add]
 omega
def stMix (v x:Sha.V8) (r n:Value) (i:Nat):Array Value:=((((v.plus x).toList.take i++v.toList.drop i).map uv)++[r,n]).toArray
theorem stMix_g {w:World} {g:Nat} {T:TypeId} {v x:Sha.V8} {r n:Value} {i:Nat} (h:Blk w g T (stMix v x r n i)) (hi:i<8):w.cell? ⟨g,i,none⟩=some (.int .u32 (v.toList.getD i 0).toNat):=by
 rw [h.cell i]
 rcases i with _ | _ | _ | _ | _ | _ | _ | _ | i<;>first | rfl | omega
theorem stMix_v {w:World} {b:Nat} {T:TypeId} {x:Sha.V8} {i:Nat} (h:Blk w b T (x.toList.map uv).toArray) (hi:i<8):w.cell? ⟨b,i,none⟩=some (.int .u32 (x.toList.getD i 0).toNat):=by
 rw [h.cell i]
 rcases i with _ | _ | _ | _ | _ | _ | _ | _ | i<;>first | rfl | omega
theorem stMix_next {w:World} {g:Nat} {T:TypeId} {v x:Sha.V8} {r n:Value} {i:Nat} (h:Blk w g T (stMix v x r n i)) (hi:i<8) :
 Blk (w.setCell ⟨g,i,none⟩ (.int .u32 (v.toList.getD i 0+x.toList.getD i 0).toNat)) g T (stMix v x r n (i+1)):=by
 have:=h.set_ i (.int .u32 (v.toList.getD i 0+x.toList.getD i 0).toNat)
 rcases i with _ | _ | _ | _ | _ | _ | _ | _ | i<;>first | exact this | omega
theorem t1_val (a b c d e f g h kj wj:UInt32) :
 IntKind.u32.wrap (IntKind.u32.wrap (IntKind.u32.wrap (IntKind.u32.wrap ((h.toNat:Int) +
  bits .xor .u32 (bits .xor .u32 ((Sha.rotr e (rotC (-6))).toNat:Int) ((Sha.rotr e (rotC (-11))).toNat:Int)) ((Sha.rotr e (rotC (-25))).toNat:Int)) +
  bits .xor .u32 (bits .and .u32 (e.toNat:Int) (f.toNat:Int)) (bits .and .u32 (bits .xor .u32 (if IntKind.u32.signed=true then -1 else IntKind.u32.max) (e.toNat:Int)) (g.toNat:Int))) +
  (kj.toNat:Int))+(wj.toNat:Int))=((Sha.t1 ⟨a,b,c,d,e,f,g,h⟩ kj wj).toNat:Int):=by
 rw [rc6,rc11,rc25,not32,and32,and32,xor32,xor32,xor32,wadd32,wadd32,wadd32,wadd32]
 rfl
theorem t2_val (a b c d e f g h:UInt32) :
 IntKind.u32.wrap (bits .xor .u32 (bits .xor .u32 ((Sha.rotr a (rotC (-2))).toNat:Int) ((Sha.rotr a (rotC (-13))).toNat:Int)) ((Sha.rotr a (rotC (-22))).toNat:Int) +
  bits .xor .u32 (bits .xor .u32 (bits .and .u32 (a.toNat:Int) (b.toNat:Int)) (bits .and .u32 (a.toNat:Int) (c.toNat:Int))) (bits .and .u32 (b.toNat:Int) (c.toNat:Int)))=((Sha.t2 ⟨a,b,c,d,e,f,g,h⟩).toNat:Int):=by
 rw [rc2,rc13,rc22,and32,and32,and32,xor32,xor32,xor32,xor32,wadd32]
 rfl
def WArr (w:World) (b:Nat) (T:TypeId) (N:Nat) (xs:List UInt32):Prop :=
 ∃ cs:Array Value,w.heap[b]? = some (.cells cs T (0,0))/\cs.size=N/\∀ (j:Nat) (x:UInt32),xs[j]? = some x->cs[j]? = some (uv x)
section
variable {w w':World} {b:Nat} {T:TypeId} {N:Nat} {xs:List UInt32}
theorem WArr.lt (h:WArr w b T N xs):b<w.heap.size:=by
 obtain ⟨cs,hg,_⟩:=h
 rcases Nat.lt_or_ge b w.heap.size with hlt | hge
 · exact hlt
 · rw [Array.getElem?_eq_none hge] at hg;cases hg
theorem WArr.cell (h:WArr w b T N xs) {j:Nat} {x:UInt32} (hj:xs[j]? = some x):w.cell? ⟨b,j,none⟩=some (.int .u32 x.toNat):=by
 obtain ⟨cs,hg,_,hx⟩:=h
 rw [cell_of_row w b j cs T (0,0) hg]
 exact hx j x hj
theorem WArr.some (h:WArr w b T N xs) {j:Nat} (hj:j<N):∃ v,w.cell? ⟨b,j,none⟩=some v:=by
 obtain ⟨cs,hg,hs,_⟩:=h
 rw [cell_of_row w b j cs T (0,0) hg]
 exact ⟨_,Array.getElem?_eq_getElem (by omega)⟩
theorem WArr.frozen (h:WArr w b T N xs) (j:Nat):w.frozen? ⟨b,j,none⟩=false:=by
 obtain ⟨cs,hg,_⟩:=h
 exact frozen_of_row w b j cs T hg
theorem WArr.snoc (h:WArr w b T N xs) (hl:xs.length<N) (x:UInt32):WArr (w.setCell ⟨b,xs.length,none⟩ (.int .u32 x.toNat)) b T N (xs++[x]):=by
 obtain ⟨cs,hg,hs,hx⟩:=h
 refine ⟨cs.setIfInBounds xs.length (.int .u32 x.toNat),heap_setCell_same w b _ cs T _ hg,by simpa using hs,fun j y hy=>?_⟩
 rcases Nat.lt_trichotomy j xs.length with h | h | h
 · rw [List.getElem?_append_left h] at hy
   rw [Array.getElem?_setIfInBounds_ne (by omega)]
   exact hx j y hy
 · subst h
   rw [List.getElem?_append_right (Nat.le_refl _)] at hy
   simp only [Nat.sub_self,List.getElem?_cons_zero,Option.some.injEq] at hy
   subst hy
   rw [Array.getElem?_setIfInBounds_self_of_lt (by omega)]
   rfl
 · rw [List.getElem?_eq_none (by simp;omega)] at hy;cases hy
theorem WArr.drewN (h:WArr w b T N xs) (n:Nat):WArr (w.drewN n) b T N xs:=h
theorem WArr.keep (h:WArr w b T N xs) (hk:w'.heap[b]? = w.heap[b]?):WArr w' b T N xs:=by
 obtain ⟨cs,hg,hs,hx⟩:=h
 exact ⟨cs,hk.trans hg,hs,hx⟩
end
set_option maxRecDepth 100000 in
set_option maxHeartbeats 4000000 in
theorem block_any (w:World) (g:Nat) (F:Nat->Prop) (v:Sha.V8) (r n vb:Value) (l:Bs) (hg:w.heap[g]? = some (.cells (stCells v r n) 184 (0,0))) (hb:Bytes w F vb l) (hl:l.length=64) :
 Calls Try.prog 138 #[.pointer (some ⟨g,0,none⟩),vb] w fun e w'=>e = .returned (.tuple #[])/\w'.heap[g]? = some (.cells (stCells (Sha.compress v l) r n) 184 (0,0))/\Ch (fun k=>k=g) w w':=by
 obtain ⟨A,c,rfl,hac,hcm,hal,hA⟩:=hb
 unfold maxLen at hcm
 obtain ⟨p,off,rfl,hFp,hpw,hc⟩:=hA (by omega)
 clear hA
 have hl1:l.length<=64:=by omega
 have hl2:64<=l.length:=by omega
 clear hl hal
 have Hg:=Lib.hid hg
 clear hg
 go_enter Try.func138,Try.ntmps138
 go_wp2
 go_loopw [16] (fun i wr=>∃ k:Nat,k<=64/\i = .int .i64 k/\WArr wr w.heap.size 192 64 (Sha.sched l k)/\Below w.heap.size w wr) (fun i _=>64-(intOf i).toNat)
 case atStart=>exact ⟨0,by omega,rfl,⟨_,heap_alloc_new _ _,rfl,fun j x hx=>by simp [Sha.sched] at hx⟩,(Below.refl _ _).alloc (Nat.le_refl _) _⟩
 case round =>
  obtain ⟨k,hk,rfl,hW,hbel⟩:=hrel
  by_cases hlt:k<64
  · --<P1
    by_cases h16:k<16
    · have hltB:(k:Int)<64:=by omega
      have h16B:(k:Int)<16:=by omega
      have hlI:(4*(k:Int))<=(l.length:Int):=by omega
      have hcell:∀ j (hj:j<64),wr.cell? ⟨p,off+j,none⟩=some (.int .u8 (l.getD j 0).toNat):=by
       intro j hj
       rw [hbel.cell (p:=⟨p,off+j,none⟩) hpw]
       rw [hc j (bv (l.getD j 0)) (by rw [List.getElem?_map,List.getElem?_eq_getElem (by omega),List.getD_eq_getElem?_getD,List.getElem?_eq_getElem (by omega)];rfl)]
       rfl
      have q0:=hcell (4*k) (by omega)
      have q1:=hcell (4*k+1) (by omega)
      have q2:=hcell (4*k+2) (by omega)
      have q3:=hcell (4*k+3) (by omega)
      obtain ⟨v0,hv0⟩:=hW.some hlt
      have hfz:=hW.frozen k
      have hsz:=hW.lt
      have hs1:Sha.sched l (k+1)=Sha.sched l k++[Sha.wordAt l k]:=by
       rw [Sha.sched,Sha.nextW,Sha.length_sched,if_pos h16]
      have hsn:=hW.snoc (by rw [Sha.length_sched];exact hlt) (Sha.wordAt l k)
      rw [<-hs1,Sha.length_sched] at hsn
      have hbn:=hbel.setCell (p:=⟨w.heap.size,k,none⟩) (Nat.le_refl _) (.int .u32 (Sha.wordAt l k).toNat)
      have HS1:=Lib.hid hs1
      clear hcell hs1 hc
      go_wp2_with fail
      refine (word_at _ p (off+4*k) (l.length-4*k) (c-4*k) _ _ _ _ (by omega) (by omega) q0 q1 q2 q3).mono ?_
      rintro e w' ⟨rfl,m,rfl⟩
      go_wp2
      exact ⟨⟨k+1,by omega,by go_num,hsn,below_drewN hbn m⟩,by simp [intOf];omega⟩
    · have hltB:(k:Int)<64:=by omega
      have h16B:decide ((k:Int)<16)=false:=by simp;omega
      have g16:(Sha.sched l k)[k-16]? = some ((Sha.sched l k).getD (k-16) 0):=by
       rw [List.getD_eq_getElem?_getD,List.getElem?_eq_getElem (by rw [Sha.length_sched];omega)];rfl
      have g15:(Sha.sched l k)[k-15]? = some ((Sha.sched l k).getD (k-15) 0):=by
       rw [List.getD_eq_getElem?_getD,List.getElem?_eq_getElem (by rw [Sha.length_sched];omega)];rfl
      have g7:(Sha.sched l k)[k-7]? = some ((Sha.sched l k).getD (k-7) 0):=by
       rw [List.getD_eq_getElem?_getD,List.getElem?_eq_getElem (by rw [Sha.length_sched];omega)];rfl
      have g2:(Sha.sched l k)[k-2]? = some ((Sha.sched l k).getD (k-2) 0):=by
       rw [List.getD_eq_getElem?_getD,List.getElem?_eq_getElem (by rw [Sha.length_sched];omega)];rfl
      have hs1:Sha.sched l (k+1)=Sha.sched l k++[(Sha.sched l k).getD (k-16) 0+(Sha.sched l k).getD (k-7) 0+Sha.sig0 ((Sha.sched l k).getD (k-15) 0)+Sha.sig1 ((Sha.sched l k).getD (k-2) 0)]:=by
       rw [Sha.sched,Sha.nextW,Sha.length_sched,if_neg h16]
      have hsn:=hW.snoc (by rw [Sha.length_sched];exact hlt) ((Sha.sched l k).getD (k-16) 0+(Sha.sched l k).getD (k-7) 0+Sha.sig0 ((Sha.sched l k).getD (k-15) 0)+Sha.sig1 ((Sha.sched l k).getD (k-2) 0))
      rw [<-hs1,Sha.length_sched] at hsn
      generalize (Sha.sched l k).getD (k-16) 0=x16 at *
      generalize (Sha.sched l k).getD (k-15) 0=x15 at *
      generalize (Sha.sched l k).getD (k-7) 0=x7 at *
      generalize (Sha.sched l k).getD (k-2) 0=x2 at *
      have q16:=hW.cell g16
      have q15:=hW.cell g15
      have q7:=hW.cell g7
      have q2:=hW.cell g2
      obtain ⟨v0,hv0⟩:=hW.some hlt
      have hfz:=hW.frozen k
      have hsz:=hW.lt
      have hbn:=hbel.setCell (p:=⟨w.heap.size,k,none⟩) (Nat.le_refl _) (.int .u32 (x16+x7+Sha.sig0 x15+Sha.sig1 x2).toNat)
      clear g16 g15 g7 g2 hs1 hc
      go_wp2
      go_quiet (fail)
      go_wp2
      have w16:IntKind.i64.wrap ((k:Int)-16)=(k:Int)-16:=IntWalk.i64_in _ (by omega)
      have w7:IntKind.i64.wrap ((k:Int)-7)=(k:Int)-7:=IntWalk.i64_in _ (by omega)
      have z16:0<=(k:Int)-16:=by omega
      have z7:0<=(k:Int)-7:=by omega
      have y16:(16:Int)<=(k:Int):=by omega
      have y7:(7:Int)<=(k:Int):=by omega
      have t16:((k:Int)-16).toNat=k-16:=by omega
      have t7:((k:Int)-7).toNat=k-7:=by omega
      have l16:(k:Int)-16<64:=by omega
      have l7:(k:Int)-7<64:=by omega
      refine wp_region_still_tail 29 (by kernel_rfl) (by kernel_rfl) ?_
      simp only [List.take_succ_cons,List.take_zero,List.drop_succ_cons,List.drop_zero,World.drew_eq,World.drew_drewN]
      repeat (first | still_step | still_call (rotk_any _ _ _ (by decide +kernel)))
      refine wpStill_nil ?_
      go_wp2
      rw [sched_val]
      exact ⟨⟨k+1,by omega,by go_num,hsn.drewN _,below_drewN hbn _⟩,by simp [intOf];omega⟩
    -->P1
  · have hk64:k=64:=by omega
    subst hk64
    have hgw:g<w.heap.size:=by
     rcases Nat.lt_or_ge g w.heap.size with hlt | hge
     · exact hlt
     · have h:=Hg.out;rw [Array.getElem?_eq_none hge] at h;cases h
    generalize hws:Sha.sched l 64=ws at hW
    have HWS:=Lib.hid hws
    have hwl:ws.length=64:=by rw [<-hws,Sha.length_sched]
    have HWL:=Lib.hid hwl
    clear hws hwl hlt hc
    go_wp2_with fail
    refine (rounds_any wr).mono ?_
    rintro e w1 ⟨rfl,hb1⟩
    have hW1:WArr w1 w.heap.size 192 64 ws:=hW.keep (hb1.block _ hW.lt)
    have hx1:Below w.heap.size w w1:=hbel.trans (hb1.mono hbel.size)
    have hlt1:=hW1.lt
    clear hW hbel hb1
    dsimp only
    iterate 4 go_step
    generalize hn2:World.alloc w1 _=w2
    obtain ⟨hg2,hb2,hs2⟩:=alloc_named hn2
    have hW2:=hW1.keep (hb2.block _ hlt1)
    have hx2:=hx1.trans (hb2.mono hx1.size)
    clear hn2 hb2 hx1
    refine wpList_store_mid rfl 192 (.tmp 8) (.tmp 66) rfl w1.heap.size 0 kArr rfl rfl (there_whole hg2 _ (Nat.le_refl 64)) (by kernel_rfl) kArr_one ?_
    have hK3:=setCells_whole w2 w1.heap.size _ 192 kArr.toList hg2 rfl
    have hch:=setCells_ch w1.heap.size kArr.toList 0 w2
    generalize World.setCells _ _ _ _=w3 at hK3 hch ⊢
    have hW3:=hW2.keep (hch.block _ hW2.lt (by omega))
    have hx3:Below w.heap.size w w3:=hx2.trans ⟨hch.os,hch.tape,hch.output,hch.size,fun k hk=>hch.block k (Nat.lt_of_lt_of_le hk hx2.size) (by have:=hW1.lt;omega)⟩
    have hs3:w1.heap.size<w3.heap.size:=by have:=hch.size;omega
    clear hch hg2 hW2 hx2 hs2
    have HK3:=Lib.hid hK3
    clear hK3
    iterate 14 go_step
    have hg3:w3.heap[g]? = some (.cells (stCells v r n) 184 (0,0)):=(hx3.block g hgw).trans Hg.out
    refine wpList_load_mid rfl 182 (.tmp 69) rfl g 0 rfl (v.toList.map uv) _ (stCells_range hg3) Try.underlying182 rfl (by kernel_rfl) ?_
    iterate 3 go_step
    generalize hn4:World.alloc w3 _=w4
    obtain ⟨hg4,hb4,hs4⟩:=alloc_named hn4
    have hW4:=hW3.keep (hb4.block _ hW3.lt)
    have hK4:=(hb4.block _ hs3).trans HK3.out
    have hx4:=hx3.trans (hb4.mono hx3.size)
    clear hn4 hb4 hx3
    refine wpList_store_mid rfl 182 (.tmp 9) (.tmp 70) rfl w3.heap.size 0 (v.toList.map uv).toArray rfl rfl (there_whole hg4 _ (Nat.le_refl 8)) (by kernel_rfl) (vcells_one v) ?_
    have hV5:=setCells_whole w4 w3.heap.size _ 182 (v.toList.map uv).toArray.toList hg4 rfl
    have hch:=setCells_ch w3.heap.size (v.toList.map uv).toArray.toList 0 w4
    generalize World.setCells _ _ _ _=w5 at hV5 hch ⊢
    have hW5:=hW4.keep (hch.block _ hW4.lt (by have:=hW3.lt;omega))
    have hK5:=(hch.block _ (by omega) (by omega)).trans hK4
    have hx5:Below w.heap.size w w5:=hx4.trans ⟨hch.os,hch.tape,hch.output,hch.size,fun k hk=>hch.block k (Nat.lt_of_lt_of_le hk hx4.size) (by have:=hW3.lt;omega)⟩
    have hs5:w3.heap.size<w5.heap.size:=by have:=hch.size;omega
    have hlt3:=hW3.lt
    clear hch hg4 hW4 hx4 hs4 hK4 HK3 hg3
    have BK5:Blk w5 w1.heap.size 192 kArr:=hK5
    have BV5:Blk w5 w3.heap.size 182 (v.toList.map uv).toArray:=hV5
    have hgk:w.heap.size<w1.heap.size:=hlt1
    have hkv:w1.heap.size<w3.heap.size:=hs3
    clear hK5 hV5 hlt1 hs3 hlt3
    generalize w1.heap.size=bk at BK5 hgk hkv ⊢
    generalize w3.heap.size=bv at BV5 hkv hs5 ⊢
    go_wp2_with fail
    go_loopw [71] (fun i wr=>∃ j:Nat,j<=64/\i = .int .i64 j/\WArr wr w.heap.size 192 64 ws/\Blk wr bk 192 kArr/\Blk wr bv 182 ((Sha.rounds ws v j).toList.map uv).toArray/\Below w.heap.size w wr) (fun i _=>64-(intOf i).toNat)
    case atStart=>exact ⟨0,by omega,rfl,hW5,BK5,BV5,hx5⟩
    case round =>
     clear hW5 BK5 BV5 hx5 hs5
     obtain ⟨j,hj,rfl,hW,hK,hV,hx⟩:=hrel
     by_cases hlt:j<64
     · have hr1:Sha.rounds ws v (j+1)=Sha.round (Sha.rounds ws v j) (Sha.Kc.getD j 0) (ws.getD j 0):=rfl
       generalize Sha.rounds ws v j=x at *
       have hkj:Sha.Kc[j]? = some (Sha.Kc.getD j 0):=by
        have:j<Sha.Kc.length:=hlt
        rw [List.getD_eq_getElem?_getD,List.getElem?_eq_getElem this];rfl
       have hwj:ws[j]? = some (ws.getD j 0):=by
        have:j<ws.length:=by have:=HWL.out;omega
        rw [List.getD_eq_getElem?_getD,List.getElem?_eq_getElem this];rfl
       have ck:wr.cell? ⟨bk,j,none⟩=some (.int .u32 (Sha.Kc.getD j 0).toNat):=by
        rw [hK.cell j]
        exact kArr_get hkj
       have cw:=hW.cell hwj
       have c0:wr.cell? ⟨bv,0,none⟩=some (.int .u32 x.a.toNat):=hV.cell 0
       have c1:wr.cell? ⟨bv,1,none⟩=some (.int .u32 x.b.toNat):=hV.cell 1
       have c2:wr.cell? ⟨bv,2,none⟩=some (.int .u32 x.c.toNat):=hV.cell 2
       have c3:wr.cell? ⟨bv,3,none⟩=some (.int .u32 x.d.toNat):=hV.cell 3
       have c4:wr.cell? ⟨bv,4,none⟩=some (.int .u32 x.e.toNat):=hV.cell 4
       have c5:wr.cell? ⟨bv,5,none⟩=some (.int .u32 x.f.toNat):=hV.cell 5
       have c6:wr.cell? ⟨bv,6,none⟩=some (.int .u32 x.g.toNat):=hV.cell 6
       have c7:wr.cell? ⟨bv,7,none⟩=some (.int .u32 x.h.toNat):=hV.cell 7
       generalize Sha.Kc.getD j 0=kj at *
       generalize ws.getD j 0=wj at *
       have HR1:=Lib.hid hr1
       clear hr1 hkj hwj
       have hltB:(j:Int)<64:=by omega
       obtain ⟨xa,xb,xc,xd,xe,xf,xg,xh⟩:=x
       dsimp only at c0 c1 c2 c3 c4 c5 c6 c7
       go_upto_region 14 with (fail)
       go_cut [11,12] (fun e a w'=>e = .int .u32 xe.toNat/\a = .int .u32 xa.toNat/\∃ m,w'=wr.drewN m)
       case first =>
        go_quiet (fail)
        go_wp2_with fail
        go_meet
        exact ⟨rfl,rfl,_,rfl⟩
       case rest =>
        obtain ⟨rfl,rfl,m1,rfl⟩:=hcut
        go_upto_region 15 with (fail)
        go_cut [13] (fun t w'=>t = .int .u32 (Sha.t1 ⟨xa,xb,xc,xd,xe,xf,xg,xh⟩ kj wj).toNat/\∃ m,w'=wr.drewN m)
        case first =>
         --<P2
         refine wp_region_quiet_lit (by kernel_rfl) (by kernel_rfl) ?_
         iterate 31 (quiet_step (exact quiet_add_same (rotk_any _ _ _ (by decide +kernel))))
         refine wpQuiet_nil ?_
         rintro _ ⟨n2,rfl⟩
         iterate 2 go_step
         go_meet
         exact ⟨congrArg (Value.int .u32) (t1_val xa xb xc xd xe xf xg xh kj wj),m1+n2,World.drewN_drewN _ _ _⟩
         -->P2
        case rest =>
         obtain ⟨rfl,m2,rfl⟩:=hcut
         go_upto_region 16 with (fail)
         go_cut [14] (fun t w'=>t = .int .u32 (Sha.t2 ⟨xa,xb,xc,xd,xe,xf,xg,xh⟩).toNat/\∃ m,w'=wr.drewN m)
         case first =>
          --<P3
          refine wp_region_quiet_lit (by kernel_rfl) (by kernel_rfl) ?_
          iterate 25 (quiet_step (exact quiet_add_same (rotk_any _ _ _ (by decide +kernel))))
          refine wpQuiet_nil ?_
          rintro _ ⟨n2,rfl⟩
          iterate 2 go_step
          go_meet
          exact ⟨congrArg (Value.int .u32) (t2_val xa xb xc xd xe xf xg xh),m2+n2,World.drewN_drewN _ _ _⟩
          -->P3
         case rest =>
          obtain ⟨rfl,m3,rfl⟩:=hcut
          go_upto_region 17 with (fail)
          iterate 52 go_step
          simp only [add32]
          refine wpList_same rfl (.agg ((Sha.round ⟨xa,xb,xc,xd,xe,xf,xg,xh⟩ kj wj).toList.map uv).toArray) (by kernel_rfl) ?_
          refine wpList_store_mid rfl 182 (.tmp 9) (.tmp 149) rfl bv 0 ((Sha.round ⟨xa,xb,xc,xd,xe,xf,xg,xh⟩ kj wj).toList.map uv).toArray rfl rfl (there_whole (hV.drewN m3) _ (Nat.le_refl 8)) (by kernel_rfl) (vcells_one _) ?_
          have hV5:Blk _ bv 182 ((Sha.round ⟨xa,xb,xc,xd,xe,xf,xg,xh⟩ kj wj).toList.map uv).toArray.toList.toArray:=setCells_whole (wr.drewN m3) bv _ 182 ((Sha.round ⟨xa,xb,xc,xd,xe,xf,xg,xh⟩ kj wj).toList.map uv).toArray.toList (hV.drewN m3) rfl
          have hch:=setCells_ch bv ((Sha.round ⟨xa,xb,xc,xd,xe,xf,xg,xh⟩ kj wj).toList.map uv).toArray.toList 0 (wr.drewN m3)
          have hW5:=(hW.drewN m3).keep (hch.block _ hW.lt (by omega))
          have hK5:=(hK.drewN m3).ch hch (by omega)
          have hx5:Below w.heap.size w _:=(below_drewN hx m3).trans (b:=wr.drewN m3) ⟨hch.os,hch.tape,hch.output,hch.size,fun k hk=>hch.block k (Nat.lt_of_lt_of_le hk hx.size) (by omega)⟩
          generalize World.setCells _ _ _ _=w5 at hV5 hch hW5 hK5 hx5 ⊢
          go_wp2_with fail
          exact ⟨⟨j+1,by omega,by go_num,hW5,hK5,by rw [HR1.out];exact hV5,hx5⟩,by simp [intOf];omega⟩
     · have hj64:j=64:=by omega
       subst hj64
       have hx64:v.plus (Sha.rounds ws v 64)=Sha.compress v l:=by rw [<-HWS.out];rfl
       generalize Sha.rounds ws v 64=x at *
       have HX64:=Lib.hid hx64
       have hgb:Blk wr g 184 (stMix v x r n 0):=(hx.block g hgw).trans Hg.out
       have hxc:Ch (fun k=>k=g) w wr:=Ch.of_below' hx
       have hsz:=hx.size
       have hbv:w.heap.size<bv:=by omega
       clear hx64 hlt hK hW hx
       simp only [Int.cast_ofNat_Int]
       go_wp2_with fail
       go_loopw [151] (fun i wr=>∃ j:Nat,j<=8/\i = .int .i64 j/\Blk wr bv 182 (x.toList.map uv).toArray/\Blk wr g 184 (stMix v x r n j)/\Ch (fun k=>k=g) w wr) (fun i _=>8-(intOf i).toNat)
       case atStart=>exact ⟨0,by omega,rfl,hV,hgb,hxc⟩
       case round =>
        clear hV hgb hxc
        obtain ⟨i,hi,rfl,hV,hG,hc⟩:=hrel
        by_cases hlt:i<8
        · have hltB:(i:Int)<8:=by omega
          have cv:=stMix_v (x:=x) hV hlt
          have cg:=stMix_g hG hlt
          have fg:=hG.frozen i
          have hG':=stMix_next (hG.drewN 1) hlt
          have hV':=(hV.drewN 1).far (p:=⟨g,i,none⟩) (by show bv≠g;omega) (.int .u32 ((v.toList.getD i 0)+(x.toList.getD i 0)).toNat)
          have hc':=(hc.drewN 1).setCell (p:=⟨g,i,none⟩) (fun _=>rfl) (.int .u32 ((v.toList.getD i 0)+(x.toList.getD i 0)).toNat)
          generalize v.toList.getD i 0=vi at *
          generalize x.toList.getD i 0=xi at *
          go_wp2_with fail
          refine wp_region_still_tail 13 (by kernel_rfl) (by kernel_rfl) ?_
          simp only [List.take_succ_cons,List.take_zero,List.drop_succ_cons,List.drop_zero,World.drew_eq]
          iterate 13 still_step
          refine wpStill_nil ?_
          go_wp2_with fail
          rw [add32]
          exact ⟨⟨i+1,by omega,by go_num,hV',hG',hc'⟩,by simp [intOf];omega⟩
        · have hi8:i=8:=by omega
          subst hi8
          go_wp2_with fail
          go_end0
          refine ⟨rfl,?_,hc⟩
          have:=hG
          unfold Blk at this
          rw [this,<-HX64.out]
          rfl
end Go.Proofs.Ytfdibjgmbdkbcaa
namespace Go.Proofs.Ytfdibjgmbdkbcaa
open Go.RowKit
def StIs (w:World) (B g:Nat) (m:Bs):Prop :=
 B<=g/\∃ rv,Blk w g 184 (stCells (Sha.hAt m (m.length / 64)) rv (.int .u64 (m.length:Int))) ∧
  Own w B 5 1 rv (m.length-64*(m.length / 64)) ((m.drop (64*(m.length / 64))).map bv)
theorem info_u8:(Try.prog.info? 5).map (fun i=>(i.zero,i.size,i.bytes))=some (some (.int .u8 0),1,1):=by kernel_rfl
theorem stCells_8 (v:Sha.V8) (r n:Value):(stCells v r n)[8]? = some r:=rfl
theorem stCells_9 (v:Sha.V8) (r n:Value):(stCells v r n)[9]? = some n:=rfl
theorem stCells_set8 (v:Sha.V8) (r n u:Value):(stCells v r n).setIfInBounds 8 u=stCells v u n:=rfl
theorem stCells_set9 (v:Sha.V8) (r n u:Value):(stCells v r n).setIfInBounds 9 u=stCells v r u:=rfl
def StMid (w:World) (B g:Nat) (t:Bs) (j:Nat):Prop :=
 64*j<=t.length/\∃ rv,Blk w g 184 (stCells (Sha.hAt t j) rv (.int .u64 (t.length:Int)))/\Own w B 5 1 rv (t.length-64*j) ((t.drop (64*j)).map bv)
theorem map_oneCell (l:Bs):∀ u ∈ l.map bv,u.oneCell'=true:=by
 intro u hu
 obtain ⟨b,_,rfl⟩:=List.mem_map.1 hu
 rfl
set_option maxRecDepth 100000 in
set_option maxHeartbeats 1000000 in
theorem write_any (w:World) (B g:Nat) (F:Nat->Prop) (m l:Bs) (vb:Value) (hst:StIs w B g m) (hb:Bytes w F vb l) (hF:¬ F g) (hB:B<=w.heap.size) (hlen:m.length+l.length<=140737488355328) :
 Calls Try.prog 122 #[.pointer (some ⟨g,0,none⟩),vb] w fun e w'=>e = .returned (.tuple #[])/\StIs w' B g (m++l)/\Below B w w':=by
 obtain ⟨i0,hi,hz0,hz1,hz2⟩:=info_parts info_u8
 obtain ⟨hBg,rv,hg,hr⟩:=hst
 obtain ⟨A,c,rfl,hac⟩:=hb.form'
 have hcn:w.cell? ⟨g,9,none⟩=some (.int .u64 (m.length:Int)):=(hg.cell 9).trans (stCells_9 _ _ _)
 have hcr:w.cell? ⟨g,8,none⟩=some rv:=(hg.cell 8).trans (stCells_8 _ _ _)
 have hf9:=hg.frozen 9
 have hf8:=hg.frozen 8
 have hg1:=hg.set_ 9 (.int .u64 ((m.length:Int)+(l.length:Int)))
 rw [stCells_set9] at hg1
 have hne:=hr.ne_blk hg (by decide)
 have hr1:=hr.setCell (p:=⟨g,9,none⟩) hne (.int .u64 ((m.length:Int)+(l.length:Int)))
 have hb1:=hb.setCell (p:=⟨g,9,none⟩) hF (.int .u64 ((m.length:Int)+(l.length:Int)))
 have hx1:Below B w (w.setCell ⟨g,9,none⟩ (.int .u64 ((m.length:Int)+(l.length:Int)))):=(Below.refl _ _).setCell (p:=⟨g,9,none⟩) hBg _
 obtain ⟨A',c',rfl,hac',hcm'⟩:=hr.shape
 go_enter Try.func122,Try.ntmps122
 go_wp2_with (at_builtin
              refine wpList_append_Own _ rfl (.tmp 18) (.tmp 19) 22 rfl B 5 i0 _ 1 1 Try.underlying22 hi hz0 hz1 hz2 rfl (by omega) _ _ _ rfl hr1 F _ _ _ rfl hb1 (map_oneCell l) (by simp only [maxLen];omega) (by omega) (by simpa using hB) ?_
              intro v1 w1 hown1 hgr1 hat1
              have hx2:Below B w w1:=hx1.grown hgr1 (by simpa using hB) (fun k hk=>(hr1.lt k hk).1)
              have hg2:Blk w1 g _ _:=hg1.keep (hgr1.block g hg1.lt (fun e=>hne e.symm))
              have h8:=(hg2.cell 8).trans (stCells_8 _ _ _)
              have hf8':=hg2.frozen 8
              obtain ⟨A1,c1,hv1,hac1,hcm1⟩:=hown1.shape
              subst hv1)
 have hmid:StMid (w1.setCell ⟨g,8,none⟩ (.slice A1 (m.length-64*(m.length / 64)+l.length) c1)) B g (m++l) (m.length / 64):=by
  refine ⟨by rw [List.length_append];omega,.slice A1 (m.length-64*(m.length / 64)+l.length) c1,?_,?_⟩
  · have h:=hg2.set_ 8 (.slice A1 (m.length-64*(m.length / 64)+l.length) c1)
    rw [stCells_set8] at h
    rw [Sha.hAt_append m l _ (by omega),List.length_append,Int.natCast_add]
    exact h
  · have h:=hown1.setCell (p:=⟨g,8,none⟩) (hown1.ne_blk hg2 (by decide)) (.slice A1 (m.length-64*(m.length / 64)+l.length) c1)
    have e1:(m++l).length-64*(m.length / 64)=m.length-64*(m.length / 64)+l.length:=by rw [List.length_append];omega
    have e2:((m++l).drop (64*(m.length / 64))).map bv=(m.drop (64*(m.length / 64))).map bv++l.map bv:=by
     rw [List.drop_append_of_le_length (by omega),List.map_append]
    rw [e1,e2]
    exact h
 have hx3:Below B w (w1.setCell ⟨g,8,none⟩ (.slice A1 (m.length-64*(m.length / 64)+l.length) c1)):=hx2.setCell (p:=⟨g,8,none⟩) hBg _
 have htl:(m++l).length<=140737488355328:=by rw [List.length_append];exact hlen
 clear hown1 hgr1 hat1 hg2 h8 hf8' hx2 hb1 hr1 hg1 hcn hcr hf9 hf8 hr hg hx1
 generalize hT:m++l=t at *
 have HT:=Lib.hid hT
 clear hT
 go_loopg [] (t.length / 64-m.length / 64) (fun k wr=>k<=t.length / 64/\StMid wr B g t (t.length / 64-k)/\Below B w wr)
 case atStart =>
  have hq:=hmid.1
  refine ⟨by omega,?_,hx3⟩
  have:t.length / 64-(t.length / 64-m.length / 64)=m.length / 64:=by omega
  rw [this]
  exact hmid
 case round =>
  clear hmid hx3
  obtain ⟨hk,⟨hj,rv,hg,hr⟩,hx⟩:=hrel
  generalize hjk:t.length / 64-gk=j at *
  obtain ⟨A2,c2,hv2,hac2,hcm2⟩:=hr.shape
  subst hv2
  have h8:=(hg.cell 8).trans (stCells_8 _ _ _)
  have hf8:=hg.frozen 8
  unfold maxLen at hcm2
  by_cases hge:64<=t.length-64*j
  · have hgeB:(64:Int)<=((t.length-64*j:Nat):Int):=by omega
    have hc64:(64:Int)<=(c2:Int):=by omega
    have hbl:Bytes wr (fun k=>B<=k/\k<wr.heap.size) (.slice A2 64 c2) (Sha.blk t j):=by
     have h:=(hr.slAt (F:=fun k=>B<=k/\k<wr.heap.size) (fun k hk=>hr.lt k hk)).first 64 hge
     have e:(Sha.blk t j).length=64:=by unfold Sha.blk;rw [List.length_take,List.length_drop];omega
     unfold Bytes
     rw [e]
     unfold Sha.blk
     rw [List.map_take]
     exact h
    have hne:=hr.ne_blk hg (by decide)
    have HJ:=Lib.hid hjk
    clear hjk
    go_wp2_with fail
    refine (block_any wr g _ (Sha.hAt t j) _ _ _ _ hg hbl (by unfold Sha.blk;rw [List.length_take,List.length_drop];omega)).mono ?_
    rintro e w2 ⟨rfl,hg2,hch⟩
    have hg2':Blk w2 g 184 (stCells (Sha.hAt t (j+1)) (.slice A2 (t.length-64*j) c2) (.int .u64 t.length)):=hg2
    have h82:=(hg2'.cell 8).trans (stCells_8 _ _ _)
    have hf82:=hg2'.frozen 8
    have hr2:=hr.ch hch (fun k hk _ e=>hne (by rw [hk,e]))
    have hx2:Below B w w2:=hx.trans ⟨hch.os,hch.tape,hch.output,hch.size,fun k hk=>hch.block k (Nat.lt_of_lt_of_le (Nat.lt_of_lt_of_le hk hB) hx.size) (by omega)⟩
    clear hg2 hch
    obtain ⟨gr,off,cr,hvr,hBr,_,_,_,_⟩:=hr2.form (by omega)
    injection hvr with hv1 hv2 hv3
    subst hv1 hv3
    have hkm:t.length / 64-(gk-1)=j+1:=by have:=HJ.out;omega
    have hgk:0<gk:=by have:=HJ.out;omega
    have hmk:∀ u:Value,Own w2 B 5 1 u (t.length-64*j-64) ((t.drop (64*(j+1))).map bv)->StMid (w2.setCell ⟨g,8,none⟩ u) B g t (j+1):=by
     intro u hu
     refine ⟨by omega,u,?_,?_⟩
     · have h:=hg2'.set_ 8 u
       rw [stCells_set8] at h
       exact h
     · have h:=hu.setCell (p:=⟨g,8,none⟩) (hu.ne_blk hg2' (by decide)) u
       rw [show t.length-64*(j+1)=t.length-64*j-64 by omega]
       exact h
    by_cases hc:c2=64
    · have hn64:t.length-64*j=64:=by omega
      have hu:Own w2 B 5 1 (.slice (some ⟨gr,off,none⟩) 0 0) (t.length-64*j-64) ((t.drop (64*(j+1))).map bv):=by
       have h:=hr2.cut0
       rw [List.drop_of_length_le (by omega)]
       rw [hn64]
       exact h
      have hm:=hmk _ hu
      have hx3:Below B w (w2.setCell ⟨g,8,none⟩ (.slice (some ⟨gr,off,none⟩) 0 0)):=hx2.setCell (p:=⟨g,8,none⟩) hBg _
      clear hmk hu hn64
      subst hc
      go_wp2_with fail
      go_roundg (gk-1)
      case measure=>omega
      case rel=>exact ⟨by omega,by rw [hkm];exact hm,hx3⟩
    · have hu:Own w2 B 5 1 (.slice (some ⟨gr,off+64,none⟩) (t.length-64*j-64) (c2-64)) (t.length-64*j-64) ((t.drop (64*(j+1))).map bv):=by
       have h:=hr2.cut 64 hge
       rw [<-List.map_drop,List.drop_drop] at h
       rw [show 64*(j+1)=64*j+64 by omega]
       exact h
      have hm:=hmk _ hu
      have hx3:Below B w (w2.setCell ⟨g,8,none⟩ (.slice (some ⟨gr,off+64,none⟩) (t.length-64*j-64) (c2-64))):=hx2.setCell (p:=⟨g,8,none⟩) hBg _
      have hcB:((c2:Int)==64)=false:=by rw [beq_eq_false_iff_ne];omega
      clear hmk hu
      go_wp2_with fail
      go_roundg (gk-1)
      case measure=>omega
      case rel=>exact ⟨by omega,by rw [hkm];exact hm,hx3⟩
  · have hgeB:decide ((64:Int)<=((t.length-64*j:Nat):Int))=false:=by simp;omega
    have hjq:j=t.length / 64:=by omega
    have hst:StIs wr B g t:=by
     refine ⟨hBg,.slice A2 (t.length-64*j) c2,?_,?_⟩
     · rw [<-hjq];exact hg
     · rw [<-hjq];exact hr
    have HS:=Lib.hid hst
    clear hst hjq hjk
    go_wp2_with fail
    go_end0
    rw [HT.out]
    exact ⟨rfl,HS.out,hx⟩
end Go.Proofs.Ytfdibjgmbdkbcaa
namespace Go.Proofs.Ytfdibjgmbdkbcaa
open Go.RowKit
set_option maxRecDepth 100000 in
set_option maxHeartbeats 400000 in
theorem begin_any (w:World):Calls Try.prog 121 #[] w fun e w'=>e = .returned (.pointer (some ⟨w.heap.size,0,none⟩))/\StIs w' w.heap.size w.heap.size []/\Below w.heap.size w w':=by
 have hst:StIs (w.alloc (.cells (stCells Sha.H0 (.slice none 0 0) (.int .u64 0)) 184)) w.heap.size w.heap.size [] :=
  ⟨Nat.le_refl _,.slice none 0 0,heap_alloc_new w _,Own.nil_ _ _ _ _⟩
 have HS:=Lib.hid hst
 clear hst
 go_enter Try.func121,Try.ntmps121
 go_wp2_with fail
 go_ret
 exact ⟨rfl,HS.out,(Below.refl _ _).alloc (Nat.le_refl _) _⟩
theorem shr64 (x c:UInt64) (h:c.toNat<64):(x >>> c).toUInt8.toNat=x.toNat / 2 ^ c.toNat % 256:=by
 rw [UInt64.toNat_toUInt8,UInt64.toNat_shiftRight,Nat.mod_eq_of_lt h,Nat.shiftRight_eq_div_pow]
theorem be64_at (n j:Nat) (hj:j<8) (hn:n<=140737488355328):((n:Int)*8 / 2 ^ (56-8*j) % 256)=(((Sha.be64 (8*UInt64.ofNat n)).getD j 0).toNat:Int):=by
 have e:(8*UInt64.ofNat n).toNat=n*8:=by
  rw [UInt64.toNat_mul,UInt64.toNat_ofNat']
  show 8*(n % 2 ^ 64) % 2 ^ 64=n*8
  omega
 have e0:∀ k:Nat,((n:Int)*8 / 2 ^ k % 256)=((n*8 / 2 ^ k % 256:Nat):Int):=by intro k;simp
 rw [e0]
 congr 1
 rcases j with _ | _ | _ | _ | _ | _ | _ | _ | j
 · exact (by rw [<-e];exact (shr64 _ 56 (by decide)).symm)
 · exact (by rw [<-e];exact (shr64 _ 48 (by decide)).symm)
 · exact (by rw [<-e];exact (shr64 _ 40 (by decide)).symm)
 · exact (by rw [<-e];exact (shr64 _ 32 (by decide)).symm)
 · exact (by rw [<-e];exact (shr64 _ 24 (by decide)).symm)
 · exact (by rw [<-e];exact (shr64 _ 16 (by decide)).symm)
 · exact (by rw [<-e];exact (shr64 _ 8 (by decide)).symm)
 · rw [<-e]
   show (8*UInt64.ofNat n).toNat / 2 ^ 0 % 256=((8*UInt64.ofNat n).toUInt8).toNat
   rw [UInt64.toNat_toUInt8];simp
 · omega
theorem be32_vals (x:UInt32):[Value.int .u8 ((x.toNat:Int) / 16777216 % 256),.int .u8 ((x.toNat:Int) / 65536 % 256),.int .u8 ((x.toNat:Int) / 256 % 256),.int .u8 ((x.toNat:Int) % 256)]=(Sha.be32 x).map bv:=by
 have e1:=shr32_24 x
 have e2:=shr32_16 x
 have e3:=shr32_8 x
 rw [e1,e2,e3,u32to8,u32to8,u32to8,u32to8]
 rfl
theorem out8_flat (v:Sha.V8):(v.toList.take 8).flatMap Sha.be32=Sha.out8 v:=rfl
theorem flat_next (v:Sha.V8) (j:Nat) (hj:j<8):(v.toList.take (j+1)).flatMap Sha.be32=(v.toList.take j).flatMap Sha.be32++Sha.be32 (v.toList.getD j 0):=by
 rcases j with _ | _ | _ | _ | _ | _ | _ | _ | j<;>first | rfl | omega
theorem index_any (a b c d e f g h:Int) (xs:List Int) (j:Nat) (hj:j<8) (hx:xs=[a,b,c,d,e,f,g,h]) (w:World) :
 (Instr.index 182 (.agg #[.int .u32 a,.int .u32 b,.int .u32 c,.int .u32 d,.int .u32 e,.int .u32 f,.int .u32 g,.int .u32 h]) (.int .i64 (j:Int))).run Try.prog w = .ok (.int .u32 (xs.getD j 0)) w:=by
 subst hx
 rcases j with _ | _ | _ | _ | _ | _ | _ | _ | j
 · kernel_rfl
 · kernel_rfl
 · kernel_rfl
 · kernel_rfl
 · kernel_rfl
 · kernel_rfl
 · kernel_rfl
 · kernel_rfl
 · omega
set_option maxRecDepth 100000 in
set_option maxHeartbeats 1000000 in
theorem end_any (w:World) (B g:Nat) (m:Bs) (hst:StIs w B g m) (hB:B<=w.heap.size) (hlen:m.length<=140737488355200) :
 Calls Try.prog 123 #[.pointer (some ⟨g,0,none⟩)] w fun e w'=>∃ v,e = .returned v/\Own w' w.heap.size 5 1 v 32 ((Sha.sha256 m).map bv)/\Below B w w':=by
 obtain ⟨i0,hi,hz0,hz1,hz2⟩:=info_parts info_u8
 obtain ⟨hBg,rv,hg,hr⟩:=hst
 have hcn:w.cell? ⟨g,9,none⟩=some (.int .u64 (m.length:Int)):=(hg.cell 9).trans (stCells_9 _ _ _)
 have hcr:w.cell? ⟨g,8,none⟩=some rv:=(hg.cell 8).trans (stCells_8 _ _ _)
 obtain ⟨A',c',hv',hac',hcm'⟩:=hr.shape
 subst hv'
 go_enter Try.func123,Try.ntmps123
 have hown0:Own (w.alloc (.cells #[.int .u8 128] 5)) w.heap.size 5 1 (.slice (some ⟨w.heap.size,0,none⟩) 1 1) 1 ((128::List.replicate 0 (0:UInt8)).map bv) :=
  ⟨rfl,.inr ⟨w.heap.size,0,1,_,rfl,Nat.le_refl _,heap_alloc_new w _,Nat.le_refl _,by decide,Nat.le_refl _,rfl⟩⟩
 have hx0:Below w.heap.size w (w.alloc (.cells #[.int .u8 128] 5)):=(Below.refl _ _).alloc (Nat.le_refl _) _
 have hgw:=hg.lt
 go_wp2_with (at_builtin;fail)
 go_loopg [4] (Sha.noughts m.length) (fun k v wr=>∃ z,z+k=Sha.noughts m.length/\Own wr w.heap.size 5 1 v (1+z) ((128::List.replicate z (0:UInt8)).map bv)/\Below w.heap.size w wr)
 case atStart=>exact ⟨0,by omega,hown0,hx0⟩
 case round =>
  clear hown0 hx0
  obtain ⟨z,hz,hown,hx⟩:=hrel
  obtain ⟨A1,c1,hv1,hac1,hcm1⟩:=hown.shape
  subst hv1
  have hcr':wr.cell? ⟨g,8,none⟩=some (.slice A' (m.length-64*(m.length / 64)) c'):=(hx.cell (p:=⟨g,8,none⟩) hgw).trans hcr
  have hcn':wr.cell? ⟨g,9,none⟩=some (.int .u64 (m.length:Int)):=(hx.cell (p:=⟨g,9,none⟩) hgw).trans hcn
  have hz64:z<64:=by unfold Sha.noughts at hz;omega
  by_cases hlt:z<Sha.noughts m.length
  · have hneB:(((m.length-64*(m.length / 64):Nat):Int)+(1+(z:Int))) % 64 != 56:=by
     rw [bne_iff_ne];unfold Sha.noughts at hlt;omega
    have hsrc:=SlAt.new wr 5 [.int .u8 0] 1 rfl (by decide)
    have hownA:=hown.alloc (.cells #[.int .u8 0] 5)
    have hxA:=hx.alloc hx.size (.cells #[.int .u8 0] 5)
    go_wp2_with (at_builtin
                 refine wpList_append_Own _ rfl (.tmp 25) (.tmp 26) 22 rfl w.heap.size 5 i0 _ 1 1 Try.underlying22 hi hz0 hz1 hz2 rfl (by omega) _ _ _ rfl hownA _ _ _ _ rfl hsrc (by simp [Value.oneCell']) (by simp only [maxLen];omega) (by omega) (by simp;have:=hx.size;omega) ?_
                 intro v1 w1 hown1 hgr1 hat1
                 have hx2:Below w.heap.size w w1:=hxA.grown hgr1 hxA.size (fun k hk=>(hownA.lt k hk).1))
    go_roundg (gk-1)
    case measure=>omega
    case rel =>
     refine ⟨z+1,by omega,?_,hx2⟩
     rw [List.replicate_succ',<-List.cons_append,List.map_append]
     exact hown1
  · have hneB:((((m.length-64*(m.length / 64):Nat):Int)+(1+(z:Int))) % 64 != 56)=false:=by
     have h0:gk=0:=by omega
     rw [bne_eq_false_iff_eq];unfold Sha.noughts at hz;omega
    have hzn:z=Sha.noughts m.length:=by omega
    have HZ:=Lib.hid hzn
    clear hzn
    go_wp2_with fail
    go_loopg [4,5] 8 (fun k v i wr=>∃ j:Nat,j+k=8/\i = .int .i64 (56-8*(j:Int))/\Own wr w.heap.size 5 1 v (1+z+j) ((128::List.replicate z (0:UInt8)++(Sha.be64 (8*UInt64.ofNat m.length)).take j).map bv)/\Below w.heap.size w wr)
    case atStart=>exact ⟨0,rfl,rfl,by simpa using hown,hx⟩
    case round =>
     clear hown hx hcr' hcn' hneB
     obtain ⟨j,hj,rfl,hown,hx⟩:=hrel
     obtain ⟨A2,c2,hv2,hac2,hcm2⟩:=hown.shape
     subst hv2
     by_cases hlt:j<8
     · have hge:(0:Int)<=56-8*(j:Int):=by omega
       have hb8:(Sha.be64 (8*UInt64.ofNat m.length)).length=8:=rfl
       have hnext:(Sha.be64 (8*UInt64.ofNat m.length)).take (j+1)=(Sha.be64 (8*UInt64.ofNat m.length)).take j++[(Sha.be64 (8*UInt64.ofNat m.length)).getD j 0]:=by
        rw [List.take_succ_eq_append_getElem (by omega),List.getD_eq_getElem?_getD,List.getElem?_eq_getElem (by omega)];rfl
       have hbyte:=be64_at m.length j hlt (by omega)
       generalize Sha.be64 (8*UInt64.ofNat m.length)=be at *
       generalize be.getD j 0=bj at *
       have hsrc:=SlAt.new wr 5 [.int .u8 ((m.length:Int)*8 / 2 ^ (56-8*j) % 256)] 1 rfl (by decide)
       have hownA:=hown.alloc (.cells #[.int .u8 ((m.length:Int)*8 / 2 ^ (56-8*j) % 256)] 5)
       have hxA:=hx.alloc hx.size (.cells #[.int .u8 ((m.length:Int)*8 / 2 ^ (56-8*j) % 256)] 5)
       have HB:=Lib.hid hbyte
       have HNX:=Lib.hid hnext
       have hz64:z<64:=by have:=HZ.out;unfold Sha.noughts at this;omega
       clear hbyte hnext hb8
       go_wp2_with (at_builtin
                    refine wpList_append_Own _ rfl (.tmp 32) (.tmp 37) 22 rfl w.heap.size 5 i0 _ 1 1 Try.underlying22 hi hz0 hz1 hz2 rfl (by omega) _ _ _ rfl hownA _ _ _ _ rfl hsrc (by simp [Value.oneCell']) (by simp only [maxLen];omega) (by omega) (by simp;have:=hx.size;omega) ?_
                    intro v1 w1 hown1 hgr1 hat1
                    have hx2:Below w.heap.size w w1:=hxA.grown hgr1 hxA.size (fun k hk=>(hownA.lt k hk).1))
       go_roundg (gk-1)
       case measure=>omega
       case rel =>
        refine ⟨j+1,by omega,by go_num,?_,hx2⟩
        rw [HNX.out,<-List.append_assoc,List.map_append]
        rw [HB.out] at hown1
        exact hown1
     · have hgeB:decide ((0:Int)<=56-8*(j:Int))=false:=by simp;omega
       have hj8:j=8:=by omega
       subst hj8
       have hpad:(128::List.replicate z (0:UInt8)++(Sha.be64 (8*UInt64.ofNat m.length)).take 8)=Sha.padding m.length:=by
        rw [HZ.out];rfl
       rw [hpad] at hown
       have hpl:(Sha.padding m.length).length=1+z+8:=by rw [Sha.length_padding,HZ.out];omega
       have hbp:Bytes wr (fun k=>w.heap.size<=k) (.slice A2 (1+z+8) c2) (Sha.padding m.length):=by
        have h:=hown.slAt (F:=fun k=>w.heap.size<=k) (fun k hk=>(hown.lt k hk).1)
        unfold Bytes
        rw [hpl]
        exact h
       have hst:StIs wr B g m:=⟨hBg,.slice A' (m.length-64*(m.length / 64)) c',hg.below hx hgw,(hr.keep fun k hk hlt _=>hx.block k hlt)⟩
       clear hpad hown
       have HPL:=Lib.hid hpl
       clear hpl
       have hz64:z<64:=by have:=HZ.out;unfold Sha.noughts at this;omega
       go_wp2_with fail
       refine (write_any wr B g _ m (Sha.padding m.length) _ hst hbp (by omega) (Nat.le_trans hB hx.size) (by rw [HPL.out];omega)).mono ?_
       rintro e w1 ⟨rfl,hst1,hx1⟩
       have hxB:Below B w w1:=(hx.mono hB).trans hx1
       obtain ⟨_,rv1,hg1,_⟩:=hst1
       have hsum:Sha.sha256 m=Sha.out8 (Sha.hAt (m++Sha.padding m.length) ((m++Sha.padding m.length).length / 64)):=rfl
       generalize Sha.hAt (m++Sha.padding m.length) ((m++Sha.padding m.length).length / 64)=hh at *
       generalize ((m++Sha.padding m.length).length:Int)=nn at hg1
       have HSUM:=Lib.hid hsum
       have hs1:=Nat.le_trans hx.size hx1.size
       have h0:w1.cell? ⟨g,0,none⟩=some (.int .u32 hh.a.toNat):=hg1.cell 0
       have h1:w1.cell? ⟨g,1,none⟩=some (.int .u32 hh.b.toNat):=hg1.cell 1
       have h2:w1.cell? ⟨g,2,none⟩=some (.int .u32 hh.c.toNat):=hg1.cell 2
       have h3:w1.cell? ⟨g,3,none⟩=some (.int .u32 hh.d.toNat):=hg1.cell 3
       have h4:w1.cell? ⟨g,4,none⟩=some (.int .u32 hh.e.toNat):=hg1.cell 4
       have h5:w1.cell? ⟨g,5,none⟩=some (.int .u32 hh.f.toNat):=hg1.cell 5
       have h6:w1.cell? ⟨g,6,none⟩=some (.int .u32 hh.g.toNat):=hg1.cell 6
       have h7:w1.cell? ⟨g,7,none⟩=some (.int .u32 hh.h.toNat):=hg1.cell 7
       have hg1w:=hg1.lt
       clear hst hx1 hx hbp hsum
       have hmk:∀ w:World,(Instr.makeSlice 22 (.int .i64 0) (.int .i64 32)).run Try.prog w = .ok (.slice (some ⟨w.heap.size,0,none⟩) 0 32) (w.alloc (.cells (List.replicate 32 (.int .u8 0)).toArray 5)):=fun _=>by kernel_rfl
       go_wp2_with fail
       have hown0:Own (w1.alloc (.cells (List.replicate 32 (.int .u8 0)).toArray 5)) w.heap.size 5 1 (.slice (some ⟨w1.heap.size,0,none⟩) 0 32) 0 (((hh.toList.take 0).flatMap Sha.be32).map bv) :=
        ⟨rfl,.inr ⟨w1.heap.size,0,32,_,rfl,hs1,heap_alloc_new w1 _,Nat.zero_le _,by decide,Nat.le_refl _,rfl⟩⟩
       have hx3:Below B w (w1.alloc (.cells (List.replicate 32 (.int .u8 0)).toArray 5)):=hxB.alloc (Nat.le_trans hB hs1) _
       clear hmk hxB hg1 h0 h1 h2 h3 h4 h5 h6 h7 hg1w
       go_loopg [6,47] 8 (fun k v i wr=>∃ j:Nat,j+k=8/\i = .int .i64 (j:Int)/\Own wr w.heap.size 5 1 v (4*j) (((hh.toList.take j).flatMap Sha.be32).map bv)/\Below B w wr)
       case atStart=>exact ⟨0,rfl,rfl,hown0,hx3⟩
       case round =>
        clear hown0 hx3
        obtain ⟨j,hj,rfl,hown,hx⟩:=hrel
        obtain ⟨A3,c3,hv3,hac3,hcm3⟩:=hown.shape
        subst hv3
        by_cases hlt:j<8
        · have hltB:(j:Int)<8:=by omega
          have hidx:=fun w=>index_any hh.a.toNat hh.b.toNat hh.c.toNat hh.d.toNat hh.e.toNat hh.f.toNat hh.g.toNat hh.h.toNat _ j hlt rfl w
          have hget:([(hh.a.toNat:Int),hh.b.toNat,hh.c.toNat,hh.d.toNat,hh.e.toNat,hh.f.toNat,hh.g.toNat,hh.h.toNat].getD j 0)=((hh.toList.getD j 0).toNat:Int):=by
           rcases j with _ | _ | _ | _ | _ | _ | _ | _ | j<;>first | rfl | omega
          rw [hget] at hidx
          have hnext:=flat_next hh j hlt
          generalize hh.toList.getD j 0=xj at *
          have hsrc:=SlAt.new wr 5 [Value.int .u8 ((xj.toNat:Int) / 16777216 % 256),.int .u8 ((xj.toNat:Int) / 65536 % 256),.int .u8 ((xj.toNat:Int) / 256 % 256),.int .u8 ((xj.toNat:Int) % 256)] 4 rfl (by decide)
          have hownA:=hown.alloc (.cells #[Value.int .u8 ((xj.toNat:Int) / 16777216 % 256),.int .u8 ((xj.toNat:Int) / 65536 % 256),.int .u8 ((xj.toNat:Int) / 256 % 256),.int .u8 ((xj.toNat:Int) % 256)] 5)
          have hxA:=hx.alloc (Nat.le_trans hB hx.size) (.cells #[Value.int .u8 ((xj.toNat:Int) / 16777216 % 256),.int .u8 ((xj.toNat:Int) / 65536 % 256),.int .u8 ((xj.toNat:Int) / 256 % 256),.int .u8 ((xj.toNat:Int) % 256)] 5)
          have HNX:=Lib.hid hnext
          clear hnext hget
          go_wp2_with (at_builtin
                       refine wpList_append_Own _ rfl (.tmp 50) (.tmp 62) 22 rfl w.heap.size 5 i0 _ 1 1 Try.underlying22 hi hz0 hz1 hz2 rfl (by omega) _ _ _ rfl hownA _ _ _ _ rfl hsrc (by simp [Value.oneCell']) (by simp only [maxLen];omega) (by omega) (by simp;have:=hx.size;omega) ?_
                       intro v1 w2 hown1 hgr1 hat1
                       have hx2:Below B w w2:=hxA.grown hgr1 (Nat.le_trans hB hxA.size) (fun k hk=>Nat.le_trans hB (hownA.lt k hk).1))
          go_roundg (gk-1)
          case measure=>omega
          case rel =>
           refine ⟨j+1,by omega,by go_num,?_,hx2⟩
           rw [HNX.out,List.map_append,<-be32_vals]
           exact hown1
        · have hltB:decide ((j:Int)<8)=false:=by simp;omega
          have hj8:j=8:=by omega
          subst hj8
          rw [out8_flat,<-HSUM.out] at hown
          go_wp2_with fail
          go_ret
          exact ⟨_,rfl,hown,hx⟩
end Go.Proofs.Ytfdibjgmbdkbcaa
namespace Go.Proofs.Ytfdibjgmbdkbcaa
open Go.RowKit
def OwnB (w:World) (base:Nat) (v:Value) (l:Bs):Prop:=Own w base 5 1 v l.length (l.map bv)
theorem OwnB.bytes {w:World} {base:Nat} {v:Value} {l:Bs} (h:OwnB w base v l):Bytes w (fun k=>base<=k/\k<w.heap.size) v l:=h.slAt fun k hk=>h.lt k hk
theorem flatten_take_le (ll:List Bs) (j:Nat):((ll.take j).flatten).length<=ll.flatten.length:=by
 conv=>rhs;rw [<-List.take_append_drop j ll,List.flatten_append,List.length_append]
 omega
theorem flatten_take_succ (ll:List Bs) (j:Nat) (b:Bs) (h:ll[j]? = some b):(ll.take (j+1)).flatten=(ll.take j).flatten++b:=by
 obtain ⟨hj,rfl⟩:=List.getElem?_eq_some_iff.1 h
 rw [List.take_succ_eq_append_getElem hj,List.flatten_append]
 simp
theorem BList.at_ {w:World} {F:Nat->Prop} {A:Option Addr} {n c:Nat} {ll:List Bs} (h:BList w F (.slice A n c) ll) {j:Nat} (hj:j<ll.length) :
 ∃ b off u,A=some ⟨b,off,none⟩/\w.cell? ⟨b,off+j,none⟩=some u/\F b/\b<w.heap.size/\Bytes w F u ll[j]:=by
 obtain ⟨vs,⟨A',c',hv,_,_,_,h4⟩,h2⟩:=h
 injection hv with e1 e2 e3
 obtain ⟨b,off,hA,hF,hb,hc⟩:=h4 (by omega)
 obtain ⟨u,hu,hub⟩:=h2 j ll[j] (List.getElem?_eq_getElem hj)
 exact ⟨b,off,u,e1.trans hA,hc j u hu,hF,hb,hub⟩
set_option maxRecDepth 100000 in
set_option maxHeartbeats 1000000 in
theorem parts_any (w:World) (F:Nat->Prop) (v:Value) (ll:List Bs) (hl:BList w F v ll) (hlen:ll.flatten.length<=140737488355200) :
 Calls Try.prog 80 #[v] w fun e w'=>∃ v,e = .returned v/\OwnB w' w.heap.size v (Sha.sha256 ll.flatten)/\Below w.heap.size w w':=by
 obtain ⟨A,c,hv⟩:=hl.form
 subst hv
 have hn63:ll.length<=9223372036854775807:=by
  obtain ⟨vs,⟨A',c',hv,h1,h2,_⟩,_⟩:=hl
  unfold maxLen at h2
  omega
 go_enter Try.func80,Try.ntmps80
 go_wp2_with fail
 refine (begin_any w).mono ?_
 rintro e w1 ⟨rfl,hst,hx⟩
 go_wp2_with fail
 go_loopg [9] ll.length (fun k i wr=>∃ j:Nat,j+k=ll.length/\i = .int .i64 (j:Int)/\StIs wr w.heap.size w.heap.size (ll.take j).flatten/\Below w.heap.size w wr)
 case atStart=>exact ⟨0,by omega,rfl,hst,hx⟩
 case round =>
  clear hst hx
  obtain ⟨j,hj,rfl,hst,hx⟩:=hrel
  by_cases hlt:j<ll.length
  · obtain ⟨b,off,u,hA,hc,_,hb,hub⟩:=hl.at_ hlt
    subst hA
    have hc':=(hx.cell (p:=⟨b,off+j,none⟩) hb).trans hc
    have hltB:(j:Int)<(ll.length:Int):=by omega
    have hub':Bytes wr (fun k=>k<w.heap.size) u ll[j]:=((hub.weak (F':=fun k=>k<w.heap.size) (fun k hk _=>hk))).below_of hx (fun _ h=>h)
    have hs:=flatten_take_succ ll j ll[j] (List.getElem?_eq_getElem hlt)
    have hle:=flatten_take_le ll (j+1)
    rw [hs,List.length_append] at hle
    have HS:=Lib.hid hs
    clear hs
    go_wp2_with fail
    refine (write_any wr w.heap.size w.heap.size _ _ _ _ hst hub' (by omega) hx.size (by omega)).mono ?_
    rintro e w2 ⟨rfl,hst2,hx2⟩
    go_wp2_with fail
    go_roundg (gk-1)
    case measure=>omega
    case rel=>exact ⟨j+1,by omega,by go_num,by rw [HS.out];exact hst2,hx.trans hx2⟩
  · have hltB:decide ((j:Int)<(ll.length:Int))=false:=by simp;omega
    rw [List.take_of_length_le (by omega)] at hst
    go_wp2_with fail
    refine (end_any wr w.heap.size w.heap.size _ hst hx.size hlen).mono ?_
    rintro e w2 ⟨vr,rfl,hown,hx2⟩
    go_wp2_with fail
    go_ret
    exact ⟨_,rfl,hown.mono hx.size,hx.trans hx2⟩
set_option maxHeartbeats 1000000 in
theorem sum_any (w:World) (F:Nat->Prop) (v:Value) (l:Bs) (hl:Bytes w F v l) (hlen:l.length<=140737488355200) :
 Calls Try.prog 14 #[v] w fun e w'=>∃ v,e = .returned v/\OwnB w' w.heap.size v (Sha.sha256 l)/\Below w.heap.size w w':=by
 obtain ⟨A,c,hv⟩:=hl.form
 subst hv
 have hb:BList (w.alloc (.cells #[.slice A l.length c] 22)) (fun _=>True) (.slice (some ⟨w.heap.size,0,none⟩) 1 1) [l] :=
  ⟨_,(SlAt.new w 22 [.slice A l.length c] 1 rfl (by decide)).weak (fun _ _ _=>trivial),fun i b hb=>by
   rcases i with _ | i
   · simp only [List.getElem?_cons_zero,Option.some.injEq] at hb
     subst hb
     exact ⟨_,rfl,(hl.alloc _).weak (fun _ _ _=>trivial)⟩
   · simp at hb⟩
 have hx:Below w.heap.size w (w.alloc (.cells #[.slice A l.length c] 22)):=(Below.refl _ _).alloc (Nat.le_refl _) _
 go_enter Try.func14,Try.ntmps14
 go_wp2_with fail
 refine (parts_any _ _ _ _ hb (by simpa using hlen)).mono ?_
 rintro e w2 ⟨vr,rfl,hown,hx2⟩
 go_wp2_with fail
 go_ret
 refine ⟨_,rfl,?_,hx.trans (hx2.mono hx.size)⟩
 have e1:[l].flatten=l:=by simp
 rw [e1] at hown
 exact hown.mono hx.size
end Go.Proofs.Ytfdibjgmbdkbcaa
