/-
  THE WALK of yearref1.Primes at 64: the first 64 primes. No conditions. THE WALKS of math/bits.Mul64 and Add64, yearref1.turn, above, Root. Conditions: the numbers fit their kinds.
-/
import Derived.Lib.Mul64
import Derived.Laws.Bits64b
import Derived.Laws.Externs
import Derived.Deep.LoopGhost
import Derived.Deep.DeepCutAuto
import Derived.Test.YtfdibjgmbdkbcaaYGb
namespace Go.Proofs.Ytfdibjgmbdkbcaa
open Go.RowKit
def okAll (p:Nat) (l:List Nat):Bool:=l.all fun q=>p % q != 0
def primesTo:Nat->List Nat
 | 0=>[]
 | j+1=>if okAll (2+j) (primesTo j) then primesTo j++[2+j] else primesTo j
def uv64 (n:Nat):Value:=.int .u64 (n:Int)
theorem primesTo_ge (j:Nat):∀ q ∈ primesTo j,2<=q/\q<2+j:=by
 induction j with
 | zero=>intro q hq;cases hq
 | succ j ih =>
   intro q hq
   unfold primesTo at hq
   split at hq
   · rcases List.mem_append.1 hq with h | h
     · have:=ih q h;omega
     · have:q=2+j:=by simpa using h
       omega
   · have:=ih q hq;omega
theorem primesTo_mono (j:Nat):(primesTo j).length<=(primesTo (j+1)).length:=by
 conv=>rhs;unfold primesTo
 split
 · simp
 · exact Nat.le_refl _
theorem primesTo_le (j k:Nat) (h:j<=k):(primesTo j).length<=(primesTo k).length:=by
 induction k with
 | zero=>have:j=0:=by omega
         subst this;exact Nat.le_refl _
 | succ k ih =>
   rcases Nat.lt_or_ge k j with h1 | h1
   · have:j=k+1:=by omega
     subst this;exact Nat.le_refl _
   · exact Nat.le_trans (ih h1) (primesTo_mono k)
theorem primes_309:(primesTo 309).length=63:=by decide +kernel
theorem primes_310:(primesTo 310).length=64:=by decide +kernel
theorem info_u64:(Try.prog.info? 118).map (fun i=>(i.zero,i.size,i.bytes))=some (some (.int .u64 0),1,8):=by kernel_rfl
set_option maxRecDepth 100000 in
set_option maxHeartbeats 1000000 in
theorem primes_any (w:World) :
 Calls Try.prog 81 #[.int .i64 64] w fun e w'=>∃ v,e = .returned v/\Own w' w.heap.size 118 1 v 64 ((primesTo 310).map uv64)/\Below w.heap.size w w':=by
 obtain ⟨i0,hi,hz0,hz1,hz2⟩:=info_parts info_u64
 go_enter Try.func81,Try.ntmps81
 go_wp2_with fail
 go_loopg [3,4] 310 (fun k v p wr=>∃ j:Nat,j+k=310/\p = .int .u64 (2+(j:Int))/\Own wr w.heap.size 118 1 v (primesTo j).length ((primesTo j).map uv64)/\Below w.heap.size w wr)
 case atStart=>exact ⟨0,rfl,rfl,Own.nil_ _ _ _ _,Below.refl _ _⟩
 case round =>
  obtain ⟨j,hj,rfl,hown,hx⟩:=hrel
  generalize gk=gk0 at *
  obtain ⟨A,c,hv,hac,hcm⟩:=hown.shape
  subst hv
  unfold maxLen at hcm
  by_cases hlt:j<310
  · have hl63:(primesTo j).length<64:=by have:=primesTo_le j 309 (by omega);rw [primes_309] at this;omega
    have hge:=primesTo_ge j
    have hlB:decide (((primesTo j).length:Int)<64)=true:=by simp;omega
    have hnx:primesTo (j+1)=if okAll (2+j) (primesTo j) then primesTo j++[2+j] else primesTo j:=rfl
    generalize primesTo j=L at *
    have HGE:=Lib.hid hge
    have HNX:=Lib.hid hnx
    clear hge hnx
    go_wp2_with fail
    go_loopg [5,16] L.length (fun k ok i wr'=>∃ i':Nat,i'+k=L.length/\i = .int .i64 (i':Int)/\ok = .bool (okAll (2+j) (L.take i'))/\wr'=wr)
    case atStart=>exact ⟨0,by omega,rfl,rfl,rfl⟩
    case round =>
     obtain ⟨i,hi',rfl,rfl,rfl⟩:=hrel
     by_cases hil:i<L.length
     · obtain ⟨b,off,cap,hvv,_,_,_,_,hc⟩:=hown.form (by omega)
       injection hvv with e1 e2 e3
       subst e1 e3
       have hci:=hc i (uv64 L[i]) (by rw [List.getElem?_map,List.getElem?_eq_getElem hil];rfl)
       unfold uv64 at hci
       have hq:=HGE.out L[i] (List.getElem_mem hil)
       have hnext:okAll (2+j) (L.take (i+1))=(okAll (2+j) (L.take i)&&((2+j) % L[i] != 0)):=by
        unfold okAll
        rw [List.take_succ_eq_append_getElem hil,List.all_append]
        simp
       generalize L[i]=q at *
       generalize okAll (2+j) (L.take i)=okb at *
       have HNE:=Lib.hid hnext
       have hiB:(i:Int)<(L.length:Int):=by omega
       have hq0:((q:Int)==0)=false:=by rw [beq_eq_false_iff_ne];omega
       have hcast:((2+(j:Int)) % (q:Int) != 0)=((2+j) % q != 0):=by
        rw [Bool.eq_iff_iff,bne_iff_ne,bne_iff_ne]
        have:(2+(j:Int)) % (q:Int)=(((2+j) % q:Nat):Int):=by simp
        omega
       have HCA:=Lib.hid hcast
       clear hnext hc hcast
       cases okb with
       | true =>
         go_wp2_with fail
         go_roundg (gk-1)
         case measure=>omega
         case rel =>
          refine ⟨i+1,by omega,by go_num,?_,rfl⟩
          rw [HNE.out,Bool.true_and,<-HCA.out]
       | false =>
         go_wp2_with fail
         go_roundg (gk-1)
         case measure=>omega
         case rel =>
          refine ⟨i+1,by omega,by go_num,?_,rfl⟩
          rw [HNE.out,Bool.false_and]
     · have hiB:decide ((i:Int)<(L.length:Int))=false:=by simp;omega
       rw [List.take_of_length_le (by omega)]
       have hnx:=HNX.out
       cases hok:okAll (2+j) L with
       | true =>
         rw [hok,if_pos rfl] at hnx
         have hsrc:=SlAt.new wr 118 [.int .u64 (2+(j:Int))] 1 rfl (by decide)
         have hownA:=hown.alloc (.cells #[.int .u64 (2+(j:Int))] 118)
         have hxA:=hx.alloc hx.size (.cells #[.int .u64 (2+(j:Int))] 118)
         have HNX2:=Lib.hid hnx
         clear hnx hok HNX
         go_wp2_with (at_builtin
                      refine wpList_append_Own _ rfl (.tmp 29) (.tmp 31) 115 rfl w.heap.size 118 i0 _ 1 8 Try.underlying115 hi hz0 hz1 hz2 rfl (by omega) _ _ _ rfl hownA _ _ _ _ rfl hsrc (by simp [Value.oneCell']) (by simp only [maxLen];omega) (by omega) (by simp;have:=hx.size;omega) ?_
                      intro v1 w1 hown1 hgr1 hat1
                      have hx2:Below w.heap.size w w1:=hxA.grown hgr1 hxA.size (fun k hk=>(hownA.lt k hk).1))
         go_roundg (gk0-1)
         case measure=>omega
         case rel =>
          refine ⟨j+1,by omega,congrArg (Value.int .u64) (by omega),?_,hx2⟩
          rw [HNX2.out,List.map_append,List.length_append]
          exact hown1
       | false =>
         rw [hok] at hnx
         have HNX2:=Lib.hid hnx
         clear hnx hok HNX
         go_wp2_with fail
         go_roundg (gk0-1)
         case measure=>omega
         case rel =>
          refine ⟨j+1,by omega,congrArg (Value.int .u64) (by omega),?_,hx⟩
          rw [HNX2.out]
          exact hown
  · have hj310:j=310:=by omega
    subst hj310
    rw [primes_310] at hown hac ⊢
    go_wp2_with fail
    go_ret
    exact ⟨_,rfl,hown,hx⟩
end Go.Proofs.Ytfdibjgmbdkbcaa
namespace Go.Proofs.Ytfdibjgmbdkbcaa
open Go.RowKit Go.Lib
namespace Mul64
theorem maskN (a:Nat) (ha:a<18446744073709551616):bits .and .u64 (a:Int) 4294967295=((a % 4294967296:Nat):Int):=by
 have h:=bits_and_u64_nat a 4294967295 ha (by omega)
 have e:a &&& 4294967295=a % 4294967296:=Nat.and_two_pow_sub_one_eq_mod a 32
 rw [e] at h
 exact h
theorem divN (a:Nat):(a:Int) / 4294967296=((a / 4294967296:Nat):Int):=by omega
theorem mulN (a b:Nat):(a:Int)*(b:Int)=((a*b:Nat):Int):=(Int.natCast_mul a b).symm
theorem addN (a b:Nat):(a:Int)+(b:Int)=((a+b:Nat):Int):=(Int.natCast_add a b).symm
theorem wrapN (a:Nat) (ha:a<18446744073709551616):IntKind.u64.wrap (a:Int)=(a:Int):=by rw [IntKind.wrap_u64];omega
theorem wrapM (a:Nat):IntKind.u64.wrap (a:Int)=((a % 18446744073709551616:Nat):Int):=by rw [IntKind.wrap_u64];omega
end Mul64
set_option maxHeartbeats 1000000 in
theorem mul64_any (x y:Nat) (hx:x<18446744073709551616) (hy:y<18446744073709551616) (w:World) :
 Calls Try.prog 139 #[.int .u64 x,.int .u64 y] w fun e w'=>e = .returned (.tuple #[.int .u64 ((x*y / 18446744073709551616:Nat):Int),.int .u64 ((x*y % 18446744073709551616:Nat):Int)])/\w'=w:=by
 obtain ⟨bd,bt,bw,hhi⟩:=Lib.mul64_hi x y hx hy
 have ba:=Lib.half_mul_le (a:=x / 4294967296) (b:=y / 4294967296) (by omega) (by omega)
 have bb:=Lib.half_mul_le (a:=x / 4294967296) (b:=y % 4294967296) (by omega) (by omega)
 have bc:=Lib.half_mul_le (a:=x % 4294967296) (b:=y / 4294967296) (by omega) (by omega)
 have ba':x / 4294967296*(y / 4294967296)<18446744073709551616:=by omega
 have bb':x / 4294967296*(y % 4294967296)<18446744073709551616:=by omega
 have bc':x % 4294967296*(y / 4294967296)<18446744073709551616:=by omega
 have bh1:x / 4294967296*(y / 4294967296)+(x / 4294967296*(y % 4294967296)+x % 4294967296*(y % 4294967296) / 4294967296) / 4294967296<18446744073709551616:=by omega
 have bh:x / 4294967296*(y / 4294967296)+(x / 4294967296*(y % 4294967296)+x % 4294967296*(y % 4294967296) / 4294967296) / 4294967296+((x / 4294967296*(y % 4294967296)+x % 4294967296*(y % 4294967296) / 4294967296) % 4294967296+x % 4294967296*(y / 4294967296)) / 4294967296<18446744073709551616:=by omega
 go_enter Try.func139,Try.ntmps139
 go_wp2
 simp only [Mul64.maskN x hx,Mul64.maskN y hy,Mul64.divN,Mul64.mulN,Mul64.addN,Mul64.wrapN _ bd,Mul64.wrapN _ bb',Mul64.wrapN _ bt,Mul64.maskN _ bt,Mul64.wrapN _ bc',Mul64.wrapN _ bw,Mul64.wrapN _ ba',Mul64.wrapN _ bh1,Mul64.wrapN _ bh,Mul64.wrapM (x*y)]
 rw [hhi]
 go_ret2
 exact ⟨rfl,rfl⟩
theorem add64_any (x y c:Nat) (hc:c<=1) (w:World) :
 (callFunc 140 #[.int .u64 x,.int .u64 y,.int .u64 c]).run Try.prog w =
   .ok (.value (.tuple #[.int .u64 (((x+y+c) % 18446744073709551616:Nat):Int),.int .u64 (((x+y+c) / 18446744073709551616:Nat):Int)])) w:=by
 rw [run_callFunc_extern Try.func140 (by kernel_rfl) (by kernel_rfl) (by kernel_rfl) (e:=add64Entry) (by kernel_rfl),run_add64 x y c (by omega) (by omega) (by omega) (by omega)]
 simp only [Result.andThen]
 congr 5<;>omega
set_option maxHeartbeats 400000 in
theorem turn_any (w:World) (x:UInt32) (s:Nat) (h1:1<=s) (h2:s<=31) :
 Calls Try.prog 83 #[.int .u32 x.toNat,.int .i64 (s:Int)] w fun e w'=>e = .returned (.int .u32 (Sha.rotr x (UInt32.ofNat s)).toNat)/\∃ n,w'=w.drewN n:=by
 have h0:(0:Int)<=(s:Int):=by omega
 have h3:(0:Int)<=32-(s:Int):=by omega
 have w3:IntKind.i64.wrap (32-(s:Int))=32-(s:Int):=IntWalk.i64_in _ (by omega)
 go_enter Try.func83,Try.ntmps83
 go_wp2_with fail
 go_quiet (fail)
 go_wp2_with fail
 go_ret
 refine ⟨?_,nq,rfl⟩
 show Ending.returned (Value.int IntKind.u32 (bits BinOp.or IntKind.u32 ((x.toNat:Int) / 2 ^ s) ((x.toNat:Int)*2 ^ (32-s) % 4294967296)))=_
 have e1:(UInt32.ofNat s).toNat=s:=by rw [UInt32.toNat_ofNat'];omega
 have e2:(32-UInt32.ofNat s).toNat=32-s:=by
  rw [UInt32.toNat_sub_of_le _ _ (by rw [UInt32.le_iff_toNat_le,e1];show s<=32;omega),e1]
  rfl
 have g1:=shl32 x (32-UInt32.ofNat s) (by rw [e2];omega)
 have g2:=shr32 x (UInt32.ofNat s) (by rw [e1];omega)
 rw [e2] at g1
 rw [e1] at g2
 rw [g1,g2,or32,UInt32.or_comm]
 rfl
def aboveS (x p:Nat) (two:Bool):Bool :=
 let h:=x*x / 18446744073709551616
 let l:=x*x % 18446744073709551616
 if two then decide (p<h)||(h==p&&decide (0<l))
 else
  let a:=l*x / 18446744073709551616
  let b:=l*x % 18446744073709551616
  let c:=h*x / 18446744073709551616
  let d:=h*x % 18446744073709551616
  let mid:=(a+d) % 18446744073709551616
  let top:=(c+(a+d) / 18446744073709551616) % 18446744073709551616
  let wt:=p / 4294967296
  let wm:=p*4294967296 % 18446744073709551616
  decide (wt<top)||(top==wt&&(decide (wm<mid)||(mid==wm&&decide (0<b))))
theorem add64_zero (x y:Nat) (w:World) :
 (callFunc 140 #[.int .u64 x,.int .u64 y,.int .u64 0]).run Try.prog w =
   .ok (.value (.tuple #[.int .u64 (((x+y) % 18446744073709551616:Nat):Int),.int .u64 (((x+y) / 18446744073709551616:Nat):Int)])) w :=
 add64_any x y 0 (by omega) w
set_option maxHeartbeats 1000000 in
theorem above_two (x p:Nat) (hx:x<18446744073709551616) (w:World) :
 Calls Try.prog 124 #[.int .u64 x,.int .u64 p,.bool true] w fun e w'=>e = .returned (.bool (aboveS x p true))/\w'=w:=by
 have hm:=mul64_any x x hx hx w
 have hres:aboveS x p true=(decide (p<x*x / 18446744073709551616)||(x*x / 18446744073709551616==p&&decide (0<x*x % 18446744073709551616))):=rfl
 generalize x*x / 18446744073709551616=h at *
 generalize x*x % 18446744073709551616=l at *
 have HM:=Lib.hid hm
 have HR:=Lib.hid hres
 clear hm hres
 rcases Nat.lt_trichotomy p h with hc | hc | hc
 · go_enter Try.func124,Try.ntmps124
   go_wp2_with fail
   refine HM.out.mono ?_
   rintro e w' ⟨rfl,rfl⟩
   go_wp2_with fail
   go_ret
   exact ⟨by rw [HR.out];simp [hc],rfl⟩
 · subst hc
   have hB:decide ((p:Int)<(p:Int))=false:=by simp
   have hE:((p:Int)==(p:Int))=true:=by simp
   by_cases hl:0<l
   · go_enter Try.func124,Try.ntmps124
     go_wp2_with fail
     refine HM.out.mono ?_
     rintro e w' ⟨rfl,rfl⟩
     go_wp2_with fail
     go_ret
     exact ⟨by rw [HR.out];simp [hl],rfl⟩
   · have hl0:decide ((0:Int)<(l:Int))=false:=by simp;omega
     go_enter Try.func124,Try.ntmps124
     go_wp2_with fail
     refine HM.out.mono ?_
     rintro e w' ⟨rfl,rfl⟩
     go_wp2_with fail
     go_ret
     exact ⟨by rw [HR.out];simp [hl],rfl⟩
 · have hB:decide (p<h)=false:=by simp;omega
   have hE:((h:Int)==(p:Int))=false:=nat_beq_not (by omega)
   go_enter Try.func124,Try.ntmps124
   go_wp2_with fail
   refine HM.out.mono ?_
   rintro e w' ⟨rfl,rfl⟩
   go_wp2_with fail
   go_ret
   have hne:(h==p)=false:=by simp;omega
   exact ⟨by rw [HR.out,hB,hne];simp,rfl⟩
def aboveT (h l x p:Nat):Bool :=
 let a:=l*x / 18446744073709551616
 let b:=l*x % 18446744073709551616
 let c:=h*x / 18446744073709551616
 let d:=h*x % 18446744073709551616
 let mid:=(a+d) % 18446744073709551616
 let top:=(c+(a+d) / 18446744073709551616) % 18446744073709551616
 let wt:=p / 4294967296
 let wm:=p*4294967296 % 18446744073709551616
 decide (wt<top)||(top==wt&&(decide (wm<mid)||(mid==wm&&decide (0<b))))
set_option maxRecDepth 100000 in
set_option maxHeartbeats 2000000 in
theorem above_three (x p:Nat) (hx:x<2199023255552) (hp:p<4294967296) (w:World) :
 Calls Try.prog 124 #[.int .u64 x,.int .u64 p,.bool false] w fun e w'=>e = .returned (.bool (aboveS x p false))/\w'=w:=by
 have hm:=mul64_any x x (by omega) (by omega) w
 have hb1:x*x / 18446744073709551616<2199023255552:=by
  have:x*x<2199023255552*2199023255552:=Nat.mul_lt_mul'' hx hx
  omega
 have hb2:x*x % 18446744073709551616<18446744073709551616:=Nat.mod_lt _ (by decide)
 have hp0:p / 4294967296=0:=by omega
 have hpm:p*4294967296 % 18446744073709551616=p*4294967296:=by omega
 have hres:aboveS x p false=aboveT (x*x / 18446744073709551616) (x*x % 18446744073709551616) x p:=rfl
 generalize x*x / 18446744073709551616=h at *
 generalize x*x % 18446744073709551616=l at *
 have hm2:=mul64_any l x hb2 (by omega) w
 have hres2:aboveT h l x p=(decide (p / 4294967296<(h*x / 18446744073709551616+(l*x / 18446744073709551616+h*x % 18446744073709551616) / 18446744073709551616) % 18446744073709551616) ||
  ((h*x / 18446744073709551616+(l*x / 18446744073709551616+h*x % 18446744073709551616) / 18446744073709551616) % 18446744073709551616==p / 4294967296 &&
    (decide (p*4294967296 % 18446744073709551616<(l*x / 18446744073709551616+h*x % 18446744073709551616) % 18446744073709551616) ||
      ((l*x / 18446744073709551616+h*x % 18446744073709551616) % 18446744073709551616==p*4294967296 % 18446744073709551616&&decide (0<l*x % 18446744073709551616))))):=rfl
 rw [hp0,hpm] at hres2
 have hm3:=mul64_any h x (by omega) (by omega) w
 have hb3:h*x / 18446744073709551616<2199023255552:=by
  have:h*x<2199023255552*2199023255552:=Nat.mul_lt_mul'' hb1 hx
  omega
 have hb4:h*x % 18446744073709551616<18446744073709551616:=Nat.mod_lt _ (by decide)
 have hb5:l*x / 18446744073709551616<18446744073709551616:=by
  have:l*x<18446744073709551616*18446744073709551616:=Nat.mul_lt_mul'' hb2 (by omega)
  exact Nat.div_lt_of_lt_mul this
 generalize h*x / 18446744073709551616=c at *
 generalize h*x % 18446744073709551616=d at *
 generalize l*x / 18446744073709551616=a at *
 generalize l*x % 18446744073709551616=b at *
 have hadd:=add64_zero a d w
 have hb6:(a+d) / 18446744073709551616<2:=by omega
 generalize (a+d) / 18446744073709551616=cy at *
 generalize (a+d) % 18446744073709551616=mid at *
 have HM:=Lib.hid hm
 have hcc:(c+cy) % 18446744073709551616=c+cy:=by omega
 rw [hcc] at hres2
 rw [hres2] at hres
 have HRES:=Lib.hid hres
 clear hres hres2 hcc hp0 hpm
 have hpI:(p:Int) / 4294967296=0:=by omega
 have HM2:=Lib.hid hm2
 have HM3:=Lib.hid hm3
 clear hm hm2 hm3
 go_enter Try.func124,Try.ntmps124
 go_wp2_with fail
 refine HM.out.mono ?_
 rintro e w' ⟨rfl,rfl⟩
 go_wp2_with fail
 refine HM2.out.mono ?_
 rintro e w' ⟨rfl,rfl⟩
 go_wp2_with fail
 refine HM3.out.mono ?_
 rintro e w' ⟨rfl,rfl⟩
 go_upto_region 9 with (fail)
 by_cases hA:0<c+cy
 · go_wp2_with fail
   go_ret
   exact ⟨by rw [HRES.out];simp [hA],rfl⟩
 · have hc0:c=0:=by omega
   have hy0:cy=0:=by omega
   subst hc0 hy0
   clear hA
   rcases Nat.lt_trichotomy (p*4294967296) mid with hc | hc | hc
   · have hlt:(p:Int)*4294967296<(mid:Int):=by omega
     go_wp2_with fail
     go_ret
     exact ⟨by rw [HRES.out];simp [hc],rfl⟩
   · have hE:((mid:Int)==(p:Int)*4294967296)=true:=by rw [beq_iff_eq];omega
     have hB:decide ((p:Int)*4294967296<(mid:Int))=false:=by simp;omega
     by_cases hl:0<b
     · go_wp2_with fail
       go_ret
       exact ⟨by rw [HRES.out];simp [hc,hl],rfl⟩
     · have hl0:decide ((0:Int)<(b:Int))=false:=by simp;omega
       go_wp2_with fail
       go_ret
       exact ⟨by rw [HRES.out];simp [hc,hl],rfl⟩
   · have hE:((mid:Int)==(p:Int)*4294967296)=false:=by rw [beq_eq_false_iff_ne];omega
     have hB:decide ((p:Int)*4294967296<(mid:Int))=false:=by simp;omega
     go_wp2_with fail
     go_ret
     have h1:¬ p*4294967296<mid:=by omega
     have h2:¬ mid=p*4294967296:=by omega
     exact ⟨by rw [HRES.out];simp [h1,h2],rfl⟩
def rootTo (p:Nat) (two:Bool):Nat->Nat
 | 0=>0
 | j+1=>if aboveS (rootTo p two j ||| 2 ^ (40-j)) p two then rootTo p two j else rootTo p two j ||| 2 ^ (40-j)
def rootS (p:Nat) (two:Bool):UInt32:=UInt32.ofNat (rootTo p two 41)
theorem rootTo_lt (p:Nat) (two:Bool) (j:Nat):rootTo p two j<2199023255552:=by
 induction j with
 | zero=>exact (by decide:0<2199023255552)
 | succ j ih =>
   unfold rootTo
   split
   · exact ih
   · exact Nat.or_lt_two_pow (n:=41) ih (Nat.pow_lt_pow_right (by decide) (by omega))
set_option maxHeartbeats 1000000 in
theorem root_any (p:Nat) (two:Bool) (hp:p<4294967296) (w:World) :
 Calls Try.prog 82 #[.int .u64 p,.bool two] w fun e w'=>e = .returned (.int .u32 (rootS p two).toNat)/\w'=w:=by
 have hab:∀ y:Nat,y<2199023255552->Calls Try.prog 124 #[.int .u64 y,.int .u64 p,.bool two] w fun e w'=>e = .returned (.bool (aboveS y p two))/\w'=w:=by
  intro y hy
  cases two with
  | true=>exact above_two y p (by omega) w
  | false=>exact above_three y p hy hp w
 have HAB:=Lib.hid hab
 clear hab
 go_enter Try.func82,Try.ntmps82
 go_wp2_with fail
 go_loopg [5,6] 41 (fun k x i wr=>∃ j:Nat,j+k=41/\i = .int .i64 (40-(j:Int))/\x = .int .u64 (rootTo p two j:Nat)/\wr=w)
 case atStart=>exact ⟨0,rfl,rfl,rfl,rfl⟩
 case round =>
  obtain ⟨j,hj,rfl,rfl,rfl⟩:=hrel
  by_cases hlt:j<41
  · have hge:(0:Int)<=40-(j:Int):=by omega
    have hrt:=rootTo_lt p two j
    have hpw:2 ^ (40-j)<2199023255552:=Nat.pow_lt_pow_right (n:=41) (by decide) (by omega)
    have hor:bits BinOp.or IntKind.u64 ((rootTo p two j:Nat):Int) (IntKind.u64.wrap (2 ^ (40-j)))=((rootTo p two j ||| 2 ^ (40-j):Nat):Int):=by
     have e:IntKind.u64.wrap ((2:Int) ^ (40-j))=((2 ^ (40-j):Nat):Int):=by
      have e0:((2 ^ (40-j):Nat):Int)=(2:Int) ^ (40-j):=by simp
      rw [<-e0,IntKind.wrap_u64]
      clear e0
      generalize (2 ^ (40-j):Nat)=q at *
      omega
     rw [e]
     exact bits_or_u64_nat _ _ (by omega) (by omega)
    have hyl:rootTo p two j ||| 2 ^ (40-j)<2199023255552:=Nat.or_lt_two_pow (n:=41) hrt hpw
    have hnx:rootTo p two (j+1)=if aboveS (rootTo p two j ||| 2 ^ (40-j)) p two then rootTo p two j else rootTo p two j ||| 2 ^ (40-j):=rfl
    generalize rootTo p two j ||| 2 ^ (40-j)=y at *
    generalize rootTo p two j=x at *
    have HNX:=Lib.hid hnx
    clear hnx hpw
    go_wp2_with fail
    refine (HAB.out y hyl).mono ?_
    rintro e w' ⟨rfl,rfl⟩
    cases hay:aboveS y p two with
    | true =>
      have h:=HNX.out
      rw [hay,if_pos rfl] at h
      have HN2:=Lib.hid h
      clear h HNX hay
      go_wp2_with fail
      go_roundg (gk-1)
      case measure=>omega
      case rel=>exact ⟨j+1,by omega,by go_num,by rw [HN2.out],rfl⟩
    | false =>
      have h:=HNX.out
      rw [hay] at h
      have HN2:=Lib.hid h
      clear h HNX hay
      go_wp2_with fail
      go_roundg (gk-1)
      case measure=>omega
      case rel=>exact ⟨j+1,by omega,by go_num,by rw [HN2.out];rfl,rfl⟩
  · have hgeB:decide ((0:Int)<=40-(j:Int))=false:=by simp;omega
    have hj41:j=41:=by omega
    subst hj41
    go_wp2_with fail
    go_ret
    refine ⟨?_,rfl⟩
    show Ending.returned (Value.int IntKind.u32 (((rootTo p two 41:Nat):Int) % 4294967296))=_
    have e:(rootS p two).toNat=rootTo p two 41 % 4294967296:=UInt32.toNat_ofNat'
    rw [e]
    rfl
end Go.Proofs.Ytfdibjgmbdkbcaa
