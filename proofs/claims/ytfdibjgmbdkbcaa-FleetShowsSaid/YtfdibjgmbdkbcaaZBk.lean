/-
  THE WALKS of book.Wrong, put. Conditions: the numbers are small. THE WALKS of book.Bytes, Parse. Conditions: what is read is bytes.
-/
import Derived.Test.YtfdibjgmbdkbcaaZGc
import Derived.Test.YtfdibjgmbdkbcaaZBook
import Derived.Test.YtfdibjgmbdkbcaaZSt
namespace Go.Proofs.Ytfdibjgmbdkbcaa
open Go.RowKit Go.Lib
set_option maxRecDepth 100000 in
set_option maxHeartbeats 1000000 in
theorem wrongR_any (w:World) (sh fr tt sz:Int) (A:Option Addr) (c:Nat) (root:Bs) :
 Calls Try.prog 47 #[.agg #[.int .i64 sh,.int .i64 fr,.int .i64 tt,.int .i64 sz,.slice A root.length c]] w fun e w'=>e = .returned (.int .i64 (Bk.wrongR ⟨sh,fr,tt,sz,root⟩:Nat))/\Below w.heap.size w w':=by
 by_cases h0:sh<0
 · skip
   have HW:Hid (Bk.wrongR ⟨sh,fr,tt,sz,root⟩=3):=Lib.hid (by unfold Bk.wrongR;simp only [];rw [if_pos (by omega)])
   go_enter Try.func47,Try.ntmps47
   go_wp2_with fail
   go_ret
   exact ⟨by rw [HW.out];rfl,(Below.refl _ _).alloc (Nat.le_refl _) _⟩
 · have b0:decide (sh<0)=false:=decide_eq_false h0
   by_cases h1:8<=sh
   · skip
     have HW:Hid (Bk.wrongR ⟨sh,fr,tt,sz,root⟩=3):=Lib.hid (by unfold Bk.wrongR;simp only [];rw [if_pos (by omega)])
     go_enter Try.func47,Try.ntmps47
     go_wp2_with fail
     go_ret
     exact ⟨by rw [HW.out];rfl,(Below.refl _ _).alloc (Nat.le_refl _) _⟩
   · have b1:decide (8<=sh)=false:=decide_eq_false h1
     by_cases h2:fr<0
     · skip
       have HW:Hid (Bk.wrongR ⟨sh,fr,tt,sz,root⟩=3):=Lib.hid (by unfold Bk.wrongR;simp only [];rw [if_pos (by omega)])
       go_enter Try.func47,Try.ntmps47
       go_wp2_with fail
       go_ret
       exact ⟨by rw [HW.out];rfl,(Below.refl _ _).alloc (Nat.le_refl _) _⟩
     · have b2:decide (fr<0)=false:=decide_eq_false h2
       by_cases h3:tt<=fr
       · skip
         have HW:Hid (Bk.wrongR ⟨sh,fr,tt,sz,root⟩=3):=Lib.hid (by unfold Bk.wrongR;simp only [];rw [if_pos (by omega)])
         go_enter Try.func47,Try.ntmps47
         go_wp2_with fail
         go_ret
         exact ⟨by rw [HW.out];rfl,(Below.refl _ _).alloc (Nat.le_refl _) _⟩
       · have b3:decide (tt<=fr)=false:=decide_eq_false h3
         by_cases h4:1000000<tt
         · skip
           have HW:Hid (Bk.wrongR ⟨sh,fr,tt,sz,root⟩=3):=Lib.hid (by unfold Bk.wrongR;simp only [];rw [if_pos (by omega)])
           go_enter Try.func47,Try.ntmps47
           go_wp2_with fail
           go_ret
           exact ⟨by rw [HW.out];rfl,(Below.refl _ _).alloc (Nat.le_refl _) _⟩
         · have b4:decide (1000000<tt)=false:=decide_eq_false h4
           by_cases h5:sz<0
           · skip
             have HW:Hid (Bk.wrongR ⟨sh,fr,tt,sz,root⟩=3):=Lib.hid (by unfold Bk.wrongR;simp only [];rw [if_pos (by omega)])
             go_enter Try.func47,Try.ntmps47
             go_wp2_with fail
             go_ret
             exact ⟨by rw [HW.out];rfl,(Below.refl _ _).alloc (Nat.le_refl _) _⟩
           · have b5:decide (sz<0)=false:=decide_eq_false h5
             by_cases h6:100<sz
             · skip
               have HW:Hid (Bk.wrongR ⟨sh,fr,tt,sz,root⟩=3):=Lib.hid (by unfold Bk.wrongR;simp only [];rw [if_pos (by omega)])
               go_enter Try.func47,Try.ntmps47
               go_wp2_with fail
               go_ret
               exact ⟨by rw [HW.out];rfl,(Below.refl _ _).alloc (Nat.le_refl _) _⟩
             · have b6:decide (100<sz)=false:=decide_eq_false h6
               by_cases h7:root.length=32
               · have b7:((root.length:Int) != 32)=false:=by rw [bne_eq_false_iff_eq];omega
                 have h7':root.length<=32/\32<=root.length:=by omega
                 clear h7
                 have HW:Hid (Bk.wrongR ⟨sh,fr,tt,sz,root⟩=0):=Lib.hid (by unfold Bk.wrongR;simp only [];rw [if_neg (by omega),if_neg (by omega)])
                 go_enter Try.func47,Try.ntmps47
                 go_wp2_with fail
                 go_ret
                 exact ⟨by rw [HW.out];rfl,(Below.refl _ _).alloc (Nat.le_refl _) _⟩
               · have b7:((root.length:Int) != 32)=true:=by rw [bne_iff_ne];omega
                 have HW:Hid (Bk.wrongR ⟨sh,fr,tt,sz,root⟩=2):=Lib.hid (by unfold Bk.wrongR;simp only [];rw [if_neg (by omega),if_pos (by omega)])
                 go_enter Try.func47,Try.ntmps47
                 go_wp2_with fail
                 go_ret
                 exact ⟨by rw [HW.out];rfl,(Below.refl _ _).alloc (Nat.le_refl _) _⟩
theorem append_u8_prep {w:World} {B:Nat} {v:Value} {l:Bs} (c:UInt8) (hown:OwnB w B v l) :
 Own (w.alloc (.cells #[bv c] 5)) B 5 1 v l.length (l.map bv)/\SlAt (w.alloc (.cells #[bv c] 5)) (fun k=>k=w.heap.size) 1 (.slice (some ⟨w.heap.size,0,none⟩) 1 1) 1 [bv c] :=
 ⟨hown.alloc _,SlAt.new w 5 [bv c] 1 rfl (by decide)⟩
theorem be_at (n:Nat):∀ k j,j<k->(Bk.be k n).take (j+1)=(Bk.be k n).take j++[UInt8.ofNat (n / 256 ^ (k-1-j))]
 | 0,j,h=>by omega
 | k+1,0,_=>by simp [Bk.be]
 | k+1,j+1,h=>by
   have:=be_at n k j (by omega)
   simp only [Bk.be,List.take_succ_cons,List.cons_append,this]
   rw [show k+1-1-(j+1)=k-1-j by omega]
theorem be_byte (n k:Nat):((n:Int) / 2 ^ (8*k) % 256)=((UInt8.ofNat (n / 256 ^ k)).toNat:Int):=by
 rw [UInt8.toNat_ofNat',show (256:Nat) ^ k=2 ^ (8*k) by rw [Nat.pow_mul]]
 simp
set_option maxRecDepth 100000 in
set_option maxHeartbeats 1000000 in
theorem put_any (w:World) (B:Nat) (v:Value) (l:Bs) (n k:Nat) (hv:OwnB w B v l) (hB:B<=w.heap.size) (_hn:n<=1000000) (hk:k<=4) (hl:l.length<=1000) :
 Calls Try.prog 104 #[v,.int .i64 (n:Int),.int .i64 (k:Int)] w fun e w'=>∃ v',e = .returned v'/\OwnB w' B v' (l++Bk.be k n)/\Below B w w':=by
 obtain ⟨i0,hi,hz0,hz1,hz2⟩:=info_parts info_u8
 obtain ⟨A1,c1,hv1,hac1,hcm1⟩:=Own.shape hv
 subst hv1
 go_enter Try.func104,Try.ntmps104
 go_wp2_with fail
 go_loopg [0,7] k (fun f v i wr=>∃ j:Nat,j+f=k/\((j<k/\∃ kk:Nat,kk+j+1=k/\i = .int .i64 (kk:Int))\/(j=k/\i = .int .i64 (-1)))/\OwnB wr B v (l++(Bk.be k n).take j)/\Below B w wr)
 case atStart =>
  refine ⟨0,by omega,?_,by simpa using hv,Below.refl _ _⟩
  rcases Nat.eq_zero_or_pos k with h | h
  · subst h;exact .inr ⟨rfl,rfl⟩
  · exact .inl ⟨h,k-1,by omega,by congr 1;omega⟩
 case round =>
  obtain ⟨j,hj,hi',hown,hx⟩:=hrel
  obtain ⟨A2,c2,hv2,hac2,hcm2⟩:=Own.shape hown
  subst hv2
  rcases hi' with ⟨hjk,kk,hkk,rfl⟩ | ⟨hjk,rfl⟩
  · have hll:(l++(Bk.be k n).take j).length=l.length+j:=by rw [List.length_append,List.length_take,Bk.length_be];omega
    have hnx:l++(Bk.be k n).take (j+1)=(l++(Bk.be k n).take j)++[UInt8.ofNat (n / 256 ^ kk)]:=by
     rw [be_at n k j hjk,List.append_assoc,show k-1-j=kk by omega]
    have hby:=be_byte n kk
    generalize l++(Bk.be k n).take j=cur at *
    generalize UInt8.ofNat (n / 256 ^ kk)=x at *
    obtain ⟨hownA,hsrc⟩:=append_u8_prep x hown
    have hxA:=hx.alloc (Nat.le_trans hB hx.size) (.cells #[bv x] 5)
    have hb0:bv x = .int .u8 (x.toNat:Int):=rfl
    rw [hb0,<-hby] at hownA hsrc hxA
    have HN:=Lib.hid hnx
    have HL:=Lib.hid hll
    have HB:=Lib.hid hby
    have hlc:cur.length<=2000:=by omega
    clear hnx hll hby hb0
    go_wp2_with (at_builtin
                 refine wpList_append_Own _ rfl (.tmp 14) (.tmp 20) 22 rfl B 5 i0 _ 1 1 Try.underlying22 hi hz0 hz1 hz2 rfl (by omega) _ _ _ rfl hownA _ _ _ _ rfl hsrc (by simp [Value.oneCell']) (by simp only [maxLen];omega) (by omega) (by simp;have:=hx.size;omega) ?_
                 intro v1 w1 hown1 hgr1 hat1
                 have hx2:Below B w w1:=hxA.grown hgr1 (Nat.le_trans hB hxA.size) (fun k hk=>(hownA.lt k hk).1))
    go_roundg (gk-1)
    case measure=>omega
    case rel =>
     refine ⟨j+1,by omega,?_,?_,hx2⟩
     · rcases Nat.eq_zero_or_pos kk with h | h
       · subst h;exact .inr ⟨by omega,rfl⟩
       · exact .inl ⟨by omega,kk-1,by omega,by congr 1;omega⟩
     · rw [HN.out]
       unfold OwnB
       rw [List.length_append,List.map_append]
       rw [HB.out] at hown1
       exact hown1
  · have hall:(Bk.be k n).take j=Bk.be k n:=List.take_of_length_le (by rw [Bk.length_be];omega)
    rw [hall] at hown hac2
    have HA:=Lib.hid hall
    clear hall
    go_wp2_with fail
    go_ret
    exact ⟨_,rfl,by rw [HA.out] at *;exact hown,hx⟩
end Go.Proofs.Ytfdibjgmbdkbcaa
namespace Go.Proofs.Ytfdibjgmbdkbcaa
open Go.RowKit Go.Lib
attribute [local go_sem ↓] Go.wp_at_zero Go.wp_at_succ
theorem put_any' (w:World) (B:Nat) (v:Value) (l:Bs) (n k:Nat) (zn zk:Int) (hzn:zn=(n:Int)) (hzk:zk=(k:Int)) (hv:OwnB w B v l) (hB:B<=w.heap.size) (hn:n<=1000000) (hk:k<=4) (hl:l.length<=1000) :
 Calls Try.prog 104 #[v,.int .i64 zn,.int .i64 zk] w fun e w'=>∃ v',e = .returned v'/\OwnB w' B v' (l++Bk.be k n)/\Below B w w':=by
 subst hzn hzk
 exact put_any w B v l n k hv hB hn hk hl
set_option maxRecDepth 100000 in
set_option maxHeartbeats 1000000 in
theorem bytesR_bad (w:World) (sh fr tt sz:Int) (A:Option Addr) (c:Nat) (root:Bs) (h:Bk.wrongR ⟨sh,fr,tt,sz,root⟩≠0) :
 Calls Try.prog 49 #[.agg #[.int .i64 sh,.int .i64 fr,.int .i64 tt,.int .i64 sz,.slice A root.length c]] w fun e w'=>e = .returned (.tuple #[.slice none 0 0,.int .i64 (Bk.wrongR ⟨sh,fr,tt,sz,root⟩:Nat)])/\Below w.heap.size w w':=by
 have hx0:=(Below.refl w.heap.size w).alloc (Nat.le_refl _) (.cells #[.int .i64 sh,.int .i64 fr,.int .i64 tt,.int .i64 sz,.slice A root.length c] 61)
 obtain ⟨x,HX⟩:∃ x,Hid (x=Bk.wrongR ⟨sh,fr,tt,sz,root⟩):=⟨_,Lib.hid rfl⟩
 rw [<-HX.out] at h ⊢
 go_enter Try.func49,Try.ntmps49
 go_wp2_with fail
 refine (wrongR_any _ sh fr tt sz A c root).mono ?_
 rw [<-HX.out]
 rintro e w1 ⟨rfl,hx1⟩
 have hxa:=hx0.trans (hx1.mono hx0.size)
 have hb:((x:Int) != 0)=true:=by rw [bne_iff_ne];omega
 clear h
 go_wp2_with fail
 go_ret2
 exact ⟨rfl,hxa⟩
set_option maxRecDepth 100000 in
set_option maxHeartbeats 1000000 in
theorem bytesR_ok (w:World) (F:Nat->Prop) (sh fr tt sz:Int) (A:Option Addr) (c:Nat) (root:Bs) (hr:Bytes w F (.slice A root.length c) root) (h:Bk.wrongR ⟨sh,fr,tt,sz,root⟩=0) :
 Calls Try.prog 49 #[.agg #[.int .i64 sh,.int .i64 fr,.int .i64 tt,.int .i64 sz,.slice A root.length c]] w fun e w'=>∃ v,e = .returned (.tuple #[v,.int .i64 0])/\OwnB w' w.heap.size v (Bk.rowR ⟨sh,fr,tt,sz,root⟩)/\Below w.heap.size w w':=by
 obtain ⟨i0,hi,hz0,hz1,hz2⟩:=info_parts info_u8
 obtain ⟨g1,g2,g3,g4,g5,g6,g7,g8⟩:=Bk.wrongR_ok.1 h
 simp only at g1 g2 g3 g4 g5 g6 g7 g8
 obtain ⟨a,rfl⟩:∃ k:Nat,sh=(k:Int):=⟨sh.toNat,by omega⟩
 obtain ⟨b,rfl⟩:∃ k:Nat,fr=(k:Int):=⟨fr.toNat,by omega⟩
 obtain ⟨d,rfl⟩:∃ k:Nat,tt=(k:Int):=⟨tt.toNat,by omega⟩
 obtain ⟨f,rfl⟩:∃ k:Nat,sz=(k:Int):=⟨sz.toNat,by omega⟩
 have hroot:root.length<=32:=by omega
 have HW:=Lib.hid h
 clear h g8
 have hx0:=(Below.refl w.heap.size w).alloc (Nat.le_refl _) (.cells #[.int .i64 (a:Int),.int .i64 (b:Int),.int .i64 (d:Int),.int .i64 (f:Int),.slice A root.length c] 61)
 have hk0:Blk (w.alloc (.cells #[.int .i64 (a:Int),.int .i64 (b:Int),.int .i64 (d:Int),.int .i64 (f:Int),.slice A root.length c] 61)) w.heap.size 61 #[.int .i64 (a:Int),.int .i64 (b:Int),.int .i64 (d:Int),.int .i64 (f:Int),.slice A root.length c]:=heap_alloc_new w _
 go_enter Try.func49,Try.ntmps49
 go_wp2_with fail
 refine (wrongR_any _ (a:Int) (b:Int) (d:Int) (f:Int) A c root).mono ?_
 rw [HW.out]
 rintro e w1 ⟨rfl,hx1⟩
 have hxa:=hx0.trans (hx1.mono hx0.size)
 have hk1:=hk0.below hx1 hk0.lt
 go_wp2_with fail
 have hkeep:∀ z:World,Below w1.heap.size w1.drew z->z.cell? ⟨w.heap.size,0,none⟩=some (.int .i64 (a:Int))/\z.cell? ⟨w.heap.size,1,none⟩=some (.int .i64 (b:Int))/\z.cell? ⟨w.heap.size,2,none⟩=some (.int .i64 (d:Int))/\z.cell? ⟨w.heap.size,3,none⟩=some (.int .i64 (f:Int))/\z.cell? ⟨w.heap.size,4,none⟩=some (.slice A root.length c)/\Below w.heap.size w z:=fun z hz=>by
  have hk:=Blk.below (w:=w1.drew) hk1 hz hk1.lt
  exact ⟨hk.cell 0,hk.cell 1,hk.cell 2,hk.cell 3,hk.cell 4,hxa.drew.trans (hz.mono hxa.size)⟩
 refine wp_region_held_drew (S:=(fun z:World=>z.cell? ⟨w.heap.size,0,none⟩=some (.int .i64 (a:Int))/\z.cell? ⟨w.heap.size,1,none⟩=some (.int .i64 (b:Int))/\z.cell? ⟨w.heap.size,2,none⟩=some (.int .i64 (d:Int))/\z.cell? ⟨w.heap.size,3,none⟩=some (.int .i64 (f:Int))/\z.cell? ⟨w.heap.size,4,none⟩=some (.slice A root.length c)/\Below w.heap.size w z)) (by kernel_rfl) ?_ (fun hHeld=>?_)
 · exact hkeep _ (Below.refl _ _)
 refine step_take (i:=0) (v:=?_) rfl (by kernel_rfl) (by kernel_rfl) (by kernel_rfl) (fun _ _ _ h=>h) (by rfl) ?yp0 (by assumption) ?_
 case yp0=>(intro w hSw;(try dsimp only at hSw);go_simp;(try with_reducible rfl))
 try simp only [Act.put,List.setIfInBounds_toArray,List.set_cons_zero,List.set_cons_succ]
 refine step_take (i:=1) (v:=?_) rfl (by kernel_rfl) (by kernel_rfl) (by kernel_rfl) (fun _ _ _ h=>h) (by rfl) ?yp1 (by assumption) ?_
 case yp1=>(intro w hSw;(try dsimp only at hSw);go_simp;(try with_reducible rfl))
 try simp only [Act.put,List.setIfInBounds_toArray,List.set_cons_zero,List.set_cons_succ]
 refine step_take (i:=3) (v:=?_) rfl (by kernel_rfl) (by kernel_rfl) (by kernel_rfl) (fun _ _ _ h=>h) (by rfl) ?yp3 (by assumption) ?_
 case yp3=>(intro w hSw;(try dsimp only at hSw);go_simp;(try with_reducible rfl))
 try simp only [Act.put,List.setIfInBounds_toArray,List.set_cons_zero,List.set_cons_succ]
 refine step_take (i:=4) (v:=?_) rfl (by kernel_rfl) (by kernel_rfl) (by kernel_rfl) (fun _ _ _ h=>h) (by rfl) ?yp4 (by assumption) ?_
 case yp4=>(intro w hSw;(try dsimp only at hSw);go_simp;(try with_reducible rfl))
 try simp only [Act.put,List.setIfInBounds_toArray,List.set_cons_zero,List.set_cons_succ]
 refine step_take (i:=6) (v:=?_) rfl (by kernel_rfl) (by kernel_rfl) (by kernel_rfl) (fun _ _ _ h=>h) (by rfl) ?yp6 (by assumption) ?_
 case yp6=>(intro w hSw;(try dsimp only at hSw);go_simp;(try with_reducible rfl))
 try simp only [Act.put,List.setIfInBounds_toArray,List.set_cons_zero,List.set_cons_succ]
 refine step_take (i:=7) (v:=?_) rfl (by kernel_rfl) (by kernel_rfl) (by kernel_rfl) (fun _ _ _ h=>h) (by rfl) ?yp7 (by assumption) ?_
 case yp7=>(intro w hSw;(try dsimp only at hSw);go_simp;(try with_reducible rfl))
 try simp only [Act.put,List.setIfInBounds_toArray,List.set_cons_zero,List.set_cons_succ]
 refine step_take (i:=9) (v:=?_) rfl (by kernel_rfl) (by kernel_rfl) (by kernel_rfl) (fun _ _ _ h=>h) (by rfl) ?yp9 (by assumption) ?_
 case yp9=>(intro w hSw;(try dsimp only at hSw);go_simp;(try with_reducible rfl))
 try simp only [Act.put,List.setIfInBounds_toArray,List.set_cons_zero,List.set_cons_succ]
 refine step_take (i:=10) (v:=?_) rfl (by kernel_rfl) (by kernel_rfl) (by kernel_rfl) (fun _ _ _ h=>h) (by rfl) ?yp10 (by assumption) ?_
 case yp10=>(intro w hSw;(try dsimp only at hSw);go_simp;(try with_reducible rfl))
 try simp only [Act.put,List.setIfInBounds_toArray,List.set_cons_zero,List.set_cons_succ]
 refine step_take (i:=11) (v:=?_) rfl (by kernel_rfl) (by kernel_rfl) (by kernel_rfl) (fun _ _ _ h=>h) (by rfl) ?yp11 (by assumption) ?_
 case yp11=>(intro w hSw;(try dsimp only at hSw);go_simp;(try with_reducible rfl))
 try simp only [Act.put,List.setIfInBounds_toArray,List.set_cons_zero,List.set_cons_succ]
 refine step_alone 2 rfl (by kernel_rfl) (by rfl) (fun K hK=>?_)
 go_simp
 refine (put_any' w1.drew w1.heap.size _ ([]) a 1 (a:Int) 1 rfl rfl (Own.nil_ _ _ _ _) (Nat.le_refl _) (by omega) (by omega) (by simp)).mono ?_
 rintro e w2 ⟨v2,rfl,ho2,hx2⟩
 have hX2:=hx2
 have hs2:=hX2.size
 go_simp
 refine hK.out _ _ ?_ (fun hHeld=>?_)
 · exact hkeep _ hX2
 clear hK K
 try simp only [Act.put,List.setIfInBounds_toArray,List.set_cons_zero,List.set_cons_succ]
 refine step_alone 5 rfl (by kernel_rfl) (by rfl) (fun K hK=>?_)
 go_simp
 refine (put_any' w2 w1.heap.size _ ([]++Bk.be 1 a) b 3 (b:Int) 3 rfl rfl ho2 hs2 (by omega) (by omega) (by simp [Bk.length_be])).mono ?_
 rintro e w3 ⟨v3,rfl,ho3,hx3⟩
 have hX3:=hX2.trans hx3
 have hs3:=hX3.size
 go_simp
 refine hK.out _ _ ?_ (fun hHeld=>?_)
 · exact hkeep _ hX3
 clear hK K
 try simp only [Act.put,List.setIfInBounds_toArray,List.set_cons_zero,List.set_cons_succ]
 refine step_alone 8 rfl (by kernel_rfl) (by rfl) (fun K hK=>?_)
 go_simp
 refine (put_any' w3 w1.heap.size _ (([]++Bk.be 1 a)++Bk.be 3 b) d 3 (d:Int) 3 rfl rfl ho3 hs3 (by omega) (by omega) (by simp [Bk.length_be])).mono ?_
 rintro e w4 ⟨v4,rfl,ho4,hx4⟩
 have hX4:=hX3.trans hx4
 have hs4:=hX4.size
 go_simp
 refine hK.out _ _ ?_ (fun hHeld=>?_)
 · exact hkeep _ hX4
 clear hK K
 try simp only [Act.put,List.setIfInBounds_toArray,List.set_cons_zero,List.set_cons_succ]
 refine step_alone 12 rfl (by kernel_rfl) (by rfl) (fun K hK=>?_)
 go_simp
 refine (put_any' w4 w1.heap.size _ ((([]++Bk.be 1 a)++Bk.be 3 b)++Bk.be 3 d) f 1 (f:Int) 1 rfl rfl ho4 hs4 (by omega) (by omega) (by simp [Bk.length_be])).mono ?_
 rintro e w5 ⟨v5,rfl,ho5,hx5⟩
 have hX5:=hX4.trans hx5
 have hs5:=hX5.size
 go_simp
 refine hK.out _ _ ?_ (fun hHeld=>?_)
 · exact hkeep _ hX5
 clear hK K
 try simp only [Act.put,List.setIfInBounds_toArray,List.set_cons_zero,List.set_cons_succ]
 refine step_take (i:=13) (v:=?_) rfl (by kernel_rfl) (by kernel_rfl) (by kernel_rfl) (fun _ _ _ h=>h) (by rfl) ?yp13 (by assumption) ?_
 case yp13=>(intro w hSw;(try dsimp only at hSw);go_simp;(try with_reducible rfl))
 try simp only [Act.put,List.setIfInBounds_toArray,List.set_cons_zero,List.set_cons_succ]
 refine wpAnyH_done (by kernel_rfl) ?_ _
 have hxf:=hHeld.2.2.2.2.2
 have e4:=hHeld.2.2.2.2.1
 have hr5:=hr.below hxf
 have hcur:[]++Bk.be 1 a++Bk.be 3 b++Bk.be 3 d++Bk.be 1 f++root=Bk.rowR ⟨(a:Int),(b:Int),(d:Int),(f:Int),root⟩:=by simp [Bk.rowR]
 have hlen:([]++Bk.be 1 a++Bk.be 3 b++Bk.be 3 d++Bk.be 1 f).length<=8:=by simp [Bk.length_be]
 have HC:=Lib.hid hcur
 obtain ⟨A5,c5,hv5,hac5,hcm5⟩:=Own.shape ho5
 subst hv5
 generalize []++Bk.be 1 a++Bk.be 3 b++Bk.be 3 d++Bk.be 1 f=cur at *
 have hB5:w1.heap.size<=w5.heap.size:=hs5
 have hw1:=hxa.size
 clear hHeld hkeep hcur ho2 ho3 ho4 hX2 hX3 hX4 hX5 hx2 hx3 hx4 hx5 hs2 hs3 hs4 hk1 hk0 hx0 hx1 hxa
 go_wp2_with (at_builtin
              refine wpList_append_Own _ (by rfl) (.tmp 24) (.tmp 27) 22 (by rfl) w1.heap.size 5 i0 _ 1 1 Try.underlying22 hi hz0 hz1 hz2 rfl (by omega) (.slice A5 cur.length c5) cur.length (cur.map bv) (by rfl) ho5 F (.slice A root.length c) root.length (root.map bv) (by rfl) hr5 (map_oneCell root) (by simp only [maxLen];omega) (by omega) hB5 ?_
              intro v6 w6 hown6 hgr6 hat6
              have hx6:Below w.heap.size w w6:=hxf.grown hgr6 hxf.size (fun k hk=>Nat.le_trans hw1 (Own.lt ho5 k hk).1))
 go_ret2
 refine ⟨_,rfl,?_,hx6⟩
 rw [<-HC.out]
 unfold OwnB
 rw [List.length_append,List.map_append]
 exact Own.mono hown6 hw1
end Go.Proofs.Ytfdibjgmbdkbcaa
