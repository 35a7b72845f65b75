/-
  THE WALKS of yearref5.WrongRecord, Row. Conditions: a record that is right, for Row.
-/
import Derived.Test.YtfdibjgmbdkbcaaZBk
namespace Go.Proofs.Ytfdibjgmbdkbcaa
open Go.RowKit Go.Lib
set_option maxRecDepth 100000 in
set_option maxHeartbeats 1000000 in
theorem rwrongR_any (w:World) (sh fr tt sz:Int) (A:Option Addr) (c:Nat) (root:Bs) :
 Calls Try.prog 48 #[.agg #[.int .i64 sh,.int .i64 fr,.int .i64 tt,.int .i64 sz,.slice A root.length c]] w fun e w'=>e = .returned (.int .i64 (Bk.wrongR ⟨sh,fr,tt,sz,root⟩:Nat))/\Below w.heap.size w w':=by
 by_cases h0:sh<0
 · skip
   have HW:Hid (Bk.wrongR ⟨sh,fr,tt,sz,root⟩=3):=Lib.hid (by unfold Bk.wrongR;simp only [];rw [if_pos (by omega)])
   go_enter Try.func48,Try.ntmps48
   go_wp2_with fail
   go_ret
   exact ⟨by rw [HW.out];rfl,(Below.refl _ _).alloc (Nat.le_refl _) _⟩
 · have b0:decide (sh<0)=false:=decide_eq_false h0
   by_cases h1:7<sh
   · skip
     have HW:Hid (Bk.wrongR ⟨sh,fr,tt,sz,root⟩=3):=Lib.hid (by unfold Bk.wrongR;simp only [];rw [if_pos (by omega)])
     go_enter Try.func48,Try.ntmps48
     go_wp2_with fail
     go_ret
     exact ⟨by rw [HW.out];rfl,(Below.refl _ _).alloc (Nat.le_refl _) _⟩
   · have b1:decide (7<sh)=false:=decide_eq_false h1
     by_cases h2:fr<0
     · skip
       have HW:Hid (Bk.wrongR ⟨sh,fr,tt,sz,root⟩=3):=Lib.hid (by unfold Bk.wrongR;simp only [];rw [if_pos (by omega)])
       go_enter Try.func48,Try.ntmps48
       go_wp2_with fail
       go_ret
       exact ⟨by rw [HW.out];rfl,(Below.refl _ _).alloc (Nat.le_refl _) _⟩
     · have b2:decide (fr<0)=false:=decide_eq_false h2
       by_cases h3:tt<=fr
       · skip
         have HW:Hid (Bk.wrongR ⟨sh,fr,tt,sz,root⟩=3):=Lib.hid (by unfold Bk.wrongR;simp only [];rw [if_pos (by omega)])
         go_enter Try.func48,Try.ntmps48
         go_wp2_with fail
         go_ret
         exact ⟨by rw [HW.out];rfl,(Below.refl _ _).alloc (Nat.le_refl _) _⟩
       · have b3:decide (tt<=fr)=false:=decide_eq_false h3
         by_cases h4:1000000<tt
         · skip
           have HW:Hid (Bk.wrongR ⟨sh,fr,tt,sz,root⟩=3):=Lib.hid (by unfold Bk.wrongR;simp only [];rw [if_pos (by omega)])
           go_enter Try.func48,Try.ntmps48
           go_wp2_with fail
           go_ret
           exact ⟨by rw [HW.out];rfl,(Below.refl _ _).alloc (Nat.le_refl _) _⟩
         · have b4:decide (1000000<tt)=false:=decide_eq_false h4
           by_cases h5:sz<0
           · skip
             have HW:Hid (Bk.wrongR ⟨sh,fr,tt,sz,root⟩=3):=Lib.hid (by unfold Bk.wrongR;simp only [];rw [if_pos (by omega)])
             go_enter Try.func48,Try.ntmps48
             go_wp2_with fail
             go_ret
             exact ⟨by rw [HW.out];rfl,(Below.refl _ _).alloc (Nat.le_refl _) _⟩
           · have b5:decide (sz<0)=false:=decide_eq_false h5
             by_cases h6:100<sz
             · skip
               have HW:Hid (Bk.wrongR ⟨sh,fr,tt,sz,root⟩=3):=Lib.hid (by unfold Bk.wrongR;simp only [];rw [if_pos (by omega)])
               go_enter Try.func48,Try.ntmps48
               go_wp2_with fail
               go_ret
               exact ⟨by rw [HW.out];rfl,(Below.refl _ _).alloc (Nat.le_refl _) _⟩
             · have b6:decide (100<sz)=false:=decide_eq_false h6
               by_cases h7:root.length=32
               · have b7:((root.length:Int) != 32)=false:=by rw [bne_eq_false_iff_eq];omega
                 have h7':root.length<=32/\32<=root.length:=by omega
                 clear h7
                 have HW:Hid (Bk.wrongR ⟨sh,fr,tt,sz,root⟩=0):=Lib.hid (by unfold Bk.wrongR;simp only [];rw [if_neg (by omega),if_neg (by omega)])
                 go_enter Try.func48,Try.ntmps48
                 go_wp2_with fail
                 go_ret
                 exact ⟨by rw [HW.out];rfl,(Below.refl _ _).alloc (Nat.le_refl _) _⟩
               · have b7:((root.length:Int) != 32)=true:=by rw [bne_iff_ne];omega
                 have HW:Hid (Bk.wrongR ⟨sh,fr,tt,sz,root⟩=2):=Lib.hid (by unfold Bk.wrongR;simp only [];rw [if_neg (by omega),if_pos (by omega)])
                 go_enter Try.func48,Try.ntmps48
                 go_wp2_with fail
                 go_ret
                 exact ⟨by rw [HW.out];rfl,(Below.refl _ _).alloc (Nat.le_refl _) _⟩
theorem be1 (n:Nat):Bk.be 1 n=[UInt8.ofNat n]:=by simp [Bk.be]
theorem be3 (n:Nat):Bk.be 3 n=[UInt8.ofNat (n / 65536),UInt8.ofNat (n / 256),UInt8.ofNat n]:=by simp [Bk.be]
def rowTo (a f t:Nat) (q:Nat):Bs:=Bk.be 1 a++([f,t].take q).flatMap (Bk.be 3)
theorem rowTo_next (a f t q:Nat) (h:q<2):rowTo a f t (q+1)=rowTo a f t q++Bk.be 3 ([f,t].getD q 0):=by
 rcases q with _ | _ | q
 · simp [rowTo]
 · simp [rowTo]
 · omega
theorem rowTo_len (a f t q:Nat) (h:q<=2):(rowTo a f t q).length=1+3*q:=by
 rcases q with _ | _ | _ | q
 · rfl
 · rfl
 · rfl
 · omega
theorem rowTo_end (a f t s:Nat) (root:Bs):(rowTo a f t 2++[UInt8.ofNat s])++root=Bk.rowR ⟨a,f,t,s,root⟩:=by
 simp [rowTo,Bk.rowR,be1]
set_option maxRecDepth 100000 in
set_option maxHeartbeats 4000000 in
theorem rrow_any (w:World) (F:Nat->Prop) (sh fr tt sz:Int) (A:Option Addr) (c:Nat) (root:Bs) (hr:Bytes w F (.slice A root.length c) root) (h:Bk.wrongR ⟨sh,fr,tt,sz,root⟩=0) :
 Calls Try.prog 50 #[.agg #[.int .i64 sh,.int .i64 fr,.int .i64 tt,.int .i64 sz,.slice A root.length c]] w fun e w'=>∃ v,e = .returned v/\OwnB w' w.heap.size v (Bk.rowR ⟨sh,fr,tt,sz,root⟩)/\Below w.heap.size w w':=by
 obtain ⟨i0,hi,hz0,hz1,hz2⟩:=info_parts info_u8
 obtain ⟨g1,g2,g3,g4,g5,g6,g7,g8⟩:=Bk.wrongR_ok.1 h
 simp only at g1 g2 g3 g4 g5 g6 g7 g8
 obtain ⟨a,rfl⟩:∃ k:Nat,sh=(k:Int):=⟨sh.toNat,by omega⟩
 obtain ⟨f,rfl⟩:∃ k:Nat,fr=(k:Int):=⟨fr.toNat,by omega⟩
 obtain ⟨t,rfl⟩:∃ k:Nat,tt=(k:Int):=⟨tt.toNat,by omega⟩
 obtain ⟨s,rfl⟩:∃ k:Nat,sz=(k:Int):=⟨sz.toNat,by omega⟩
 have ha7:a<8:=by omega
 have hf6:f<=1000000:=by omega
 have ht6:t<=1000000:=by omega
 have hs1:s<=100:=by omega
 have hrow:=rowTo_end a f t s root
 rw [<-hrow]
 have H8:=Lib.hid g8
 clear g8
 have hbA:Bk.be 1 a=[UInt8.ofNat a]:=be1 a
 have hva:((UInt8.ofNat a).toNat:Int)=(a:Int):=by rw [UInt8.toNat_ofNat'];omega
 obtain ⟨W,hW⟩:∃ W,W=((w.alloc (.cells #[.int .i64 (a:Int),.int .i64 (f:Int),.int .i64 (t:Int),.int .i64 (s:Int),.slice A root.length c] 61)).alloc (.cells #[.int .u8 (a:Int)] 5)).alloc (.cells #[.int .i64 (f:Int),.int .i64 (t:Int)] 3):=⟨_,rfl⟩
 have hx0:Below w.heap.size w W:=by rw [hW];exact (((Below.refl _ _).alloc (Nat.le_refl _) _).alloc (by simp) _).alloc (by simp;omega) _
 have hbr:Blk W w.heap.size 61 #[.int .i64 (a:Int),.int .i64 (f:Int),.int .i64 (t:Int),.int .i64 (s:Int),.slice A root.length c]:=by rw [hW];exact Blk.alloc (Blk.alloc (heap_alloc_new w _) _) _
 have ho0:OwnB W w.heap.size (.slice (some ⟨w.heap.size+1,0,none⟩) 1 1) (rowTo a f t 0):=by
  have h:=Own.new (w.alloc (.cells #[.int .i64 (a:Int),.int .i64 (f:Int),.int .i64 (t:Int),.int .i64 (s:Int),.slice A root.length c] 61)) w.heap.size 5 [.int .u8 (a:Int)] 1 rfl (by decide) (by simp)
  have h2:=h.alloc (.cells #[.int .i64 (f:Int),.int .i64 (t:Int)] 3)
  rw [World.size_alloc] at h2
  rw [hW,show rowTo a f t 0=[UInt8.ofNat a] by simp [rowTo,be1]]
  show Own _ w.heap.size 5 1 _ 1 [.int .u8 ((UInt8.ofNat a).toNat:Int)]
  rw [hva]
  exact h2
 have hbi:Blk W (w.heap.size+1+1) 3 #[.int .i64 (f:Int),.int .i64 (t:Int)]:=by
  rw [hW]
  have h:=heap_alloc_new ((w.alloc (.cells #[.int .i64 (a:Int),.int .i64 (f:Int),.int .i64 (t:Int),.int .i64 (s:Int),.slice A root.length c] 61)).alloc (.cells #[.int .u8 (a:Int)] 5)) (.cells #[.int .i64 (f:Int),.int .i64 (t:Int)] 3)
  simp only [World.size_alloc] at h
  exact h
 have hsW:w.heap.size+2<W.heap.size:=by rw [hW];simp
 have hrW:Bytes W F (.slice A root.length c) root:=SlAt.below hr hx0
 have HW:=Lib.hid hW
 clear hW hrow hbA hva h
 go_enter Try.func50,Try.ntmps50
 go_wp2_with fail
 rw [<-HW.out]
 go_loopg [3,16] 2 (fun k v i wr=>∃ q:Nat,q+k=2/\i = .int .i64 (q:Int)/\OwnB wr w.heap.size v (rowTo a f t q)/\Blk wr w.heap.size 61 #[.int .i64 (a:Int),.int .i64 (f:Int),.int .i64 (t:Int),.int .i64 (s:Int),.slice A root.length c]/\Blk wr (w.heap.size+1+1) 3 #[.int .i64 (f:Int),.int .i64 (t:Int)]/\Below w.heap.size w wr)
 case atStart=>exact ⟨0,rfl,rfl,ho0,hbr,hbi,hx0⟩
 case round =>
  clear ho0 hbr hbi hrW
  obtain ⟨q,hq,rfl,ho,hbr,hbi,hx⟩:=hrel
  have hrl:=rowTo_len a f t q (by omega)
  by_cases hlt:q<2
  · have hltB:(q:Int)<2:=by omega
    have hnx:=rowTo_next a f t q hlt
    have hcq:wr.cell? ⟨w.heap.size+1+1,q,none⟩=some (.int .i64 (([f,t].getD q 0:Nat):Int)):=by
     rw [hbi.cell q]
     rcases q with _ | _ | q
     · rfl
     · rfl
     · omega
    have hn6:[f,t].getD q 0<=1000000:=by
     rcases q with _ | _ | q
     · exact hf6
     · exact ht6
     · omega
    generalize [f,t].getD q 0=n at *
    generalize rowTo a f t q=out at *
    obtain ⟨A1,c1,hv1,_,_⟩:=Own.shape ho
    subst hv1
    have hsrc:=SlAt.new wr 5 [.int .u8 ((n:Int) / 65536),.int .u8 ((n:Int) / 256 % 256),.int .u8 ((n:Int) % 256)] 3 rfl (by decide)
    have hoA:=Own.alloc ho (.cells #[.int .u8 ((n:Int) / 65536),.int .u8 ((n:Int) / 256 % 256),.int .u8 ((n:Int) % 256)] 5)
    have hxA:=hx.alloc hx.size (.cells #[.int .u8 ((n:Int) / 65536),.int .u8 ((n:Int) / 256 % 256),.int .u8 ((n:Int) % 256)] 5)
    have hbrA:=hbr.alloc (.cells #[.int .u8 ((n:Int) / 65536),.int .u8 ((n:Int) / 256 % 256),.int .u8 ((n:Int) % 256)] 5)
    have hbiA:=hbi.alloc (.cells #[.int .u8 ((n:Int) / 65536),.int .u8 ((n:Int) / 256 % 256),.int .u8 ((n:Int) % 256)] 5)
    have hn3:(Bk.be 3 n).map bv=[.int .u8 ((n:Int) / 65536),.int .u8 ((n:Int) / 256 % 256),.int .u8 ((n:Int) % 256)]:=by
     rw [be3]
     have e1:((UInt8.ofNat (n / 65536)).toNat:Int)=(n:Int) / 65536:=by rw [UInt8.toNat_ofNat'];omega
     have e2:((UInt8.ofNat (n / 256)).toNat:Int)=(n:Int) / 256 % 256:=by rw [UInt8.toNat_ofNat'];omega
     have e3:((UInt8.ofNat n).toNat:Int)=(n:Int) % 256:=by rw [UInt8.toNat_ofNat'];omega
     show [Value.int .u8 ((UInt8.ofNat (n / 65536)).toNat:Int),.int .u8 ((UInt8.ofNat (n / 256)).toNat:Int),.int .u8 ((UInt8.ofNat n).toNat:Int)]=_
     rw [e1,e2,e3]
    have hl3:(Bk.be 3 n).length=3:=Bk.length_be 3 n
    have HN3:=Lib.hid hn3
    have HL3:=Lib.hid hl3
    have HNX:=Lib.hid hnx
    have hol:out.length<=7:=by omega
    have hws:=hx.size
    clear hn3 hl3 hnx hrl
    go_wp2_with (at_builtin
                 refine wpList_append_Own _ (by rfl) (.tmp 20) (.tmp 31) 22 (by rfl) w.heap.size 5 i0 _ 1 1 Try.underlying22 hi hz0 hz1 hz2 (by rfl) (by omega) (.slice A1 out.length c1) out.length (out.map bv) (by rfl) hoA _ _ _ _ (by rfl) hsrc (by simp [Value.oneCell']) (by simp only [maxLen];omega) (by omega) (by simp;omega) ?_
                 intro v2 w2 hown2 hgr2 hat2
                 have hx2:Below w.heap.size w w2:=hxA.grown hgr2 hxA.size (fun k hk=>(hoA.lt k hk).1)
                 have hbr2:=hbrA.keep (hgr2.block _ hbrA.lt (fun e=>Own.ne_blk hoA hbrA (by decide) e.symm))
                 have hbi2:=hbiA.keep (hgr2.block _ hbiA.lt (fun e=>Own.ne_blk hoA hbiA (by decide) e.symm)))
    go_roundg (gk-1)
    case measure=>omega
    case rel =>
     refine ⟨q+1,by omega,by go_num,?_,hbr2,hbi2,hx2⟩
     rw [HNX.out]
     unfold OwnB
     rw [List.length_append,List.map_append,HN3.out,HL3.out]
     exact hown2
  · have hq2:q=2:=by omega
    subst hq2
    have hrW:=SlAt.below hr hx
    obtain ⟨out,hout⟩:∃ o,rowTo a f t 2=o:=⟨_,rfl⟩
    rw [hout] at ho hrl
    have HO:=Lib.hid hout
    obtain ⟨A1,c1,hv1,_,_⟩:=Own.shape ho
    subst hv1
    have hvs:((UInt8.ofNat s).toNat:Int)=(s:Int):=by rw [UInt8.toNat_ofNat'];omega
    have c3:wr.cell? ⟨w.heap.size,3,none⟩=some (.int .i64 (s:Int)):=hbr.cell 3
    have c4:wr.cell? ⟨w.heap.size,4,none⟩=some (.slice A root.length c):=hbr.cell 4
    have hsrc:=SlAt.new wr.drew 5 [.int .u8 (s:Int)] 1 rfl (by decide)
    have hoA:=Own.alloc (Own.drew ho) (.cells #[.int .u8 (s:Int)] 5)
    have hxA:=hx.drew.alloc hx.size (.cells #[.int .u8 (s:Int)] 5)
    have hbrA:=Blk.alloc (hbr.drewN 1) (.cells #[.int .u8 (s:Int)] 5)
    have hws:=hx.size
    have hsa:(wr.drew.alloc (.cells #[.int .u8 (s:Int)] 5)).cell? ⟨w.heap.size,3,none⟩=some (.int .i64 (s:Int))/\(wr.drew.alloc (.cells #[.int .u8 (s:Int)] 5)).cell? ⟨w.heap.size,4,none⟩=some (.slice A root.length c)/\Below w.heap.size w (wr.drew.alloc (.cells #[.int .u8 (s:Int)] 5)):=⟨hbrA.cell 3,hbrA.cell 4,hxA⟩
    have hrl7:out.length<=7:=by omega
    have hr32:root.length<=32:=by have:=H8.out;omega
    have HV:=Lib.hid hvs
    have hwrap:IntKind.u8.wrap (s:Int)=(s:Int):=by show (s:Int) % 256=(s:Int);omega
    clear hrl hvs hout
    go_wp2_with fail
    go_region_held3 (fun z:World=>z.cell? ⟨w.heap.size,3,none⟩=some (.int .i64 (s:Int))/\z.cell? ⟨w.heap.size,4,none⟩=some (.slice A root.length c)/\Below w.heap.size w z) (first | assumption | exact ⟨c3,c4,hx.drew⟩ | exact hsa)
     (first
       | (refine step_append_Own _ (by rfl) (.tmp 34) (.tmp 39) 22 (by rfl) w.heap.size 5 i0 _ 1 1 Try.underlying22 hi hz0 hz1 hz2 (by rfl) (by omega) _ _ _ (by rfl) hoA _ _ _ _ (by rfl) hsrc (by simp [Value.oneCell']) (by simp only [maxLen];omega) (by omega) (by simp;omega) ?_
          intro v2 w2 hown2 hgr2 hat2
          have hx2:Below w.heap.size w w2:=hxA.grown hgr2 hxA.size (fun k hk=>(hoA.lt k hk).1)
          have hbr2:=hbrA.keep (hgr2.block _ hbrA.lt (fun e=>Own.ne_blk hoA hbrA (by decide) e.symm))
          have hs2:w2.cell? ⟨w.heap.size,3,none⟩=some (.int .i64 (s:Int))/\w2.cell? ⟨w.heap.size,4,none⟩=some (.slice A root.length c)/\Below w.heap.size w w2:=⟨hbr2.cell 3,hbr2.cell 4,hx2⟩
          have hr2:SlAt w2 F 1 (.slice A root.length c) root.length (root.map bv):=SlAt.below hr hx2)
       | (refine step_append_Own _ (by rfl) (.tmp 40) (.tmp 43) 22 (by rfl) w.heap.size 5 i0 _ 1 1 Try.underlying22 hi hz0 hz1 hz2 (by rfl) (by omega) _ _ _ (by rfl) hown2 _ _ _ _ (by rfl) hr2 (map_oneCell root) (by simp only [maxLen];omega) (by omega) hx2.size ?_
          intro v3 w3 hown3 hgr3 hat3
          have hx3:Below w.heap.size w w3:=hx2.grown hgr3 hx2.size (fun k hk=>(hown2.lt k hk).1)
          have hbr3:=hbr2.keep (hgr3.block _ hbr2.lt (fun e=>Own.ne_blk hown2 hbr2 (by decide) e.symm))
          have hs3:w3.cell? ⟨w.heap.size,3,none⟩=some (.int .i64 (s:Int))/\w3.cell? ⟨w.heap.size,4,none⟩=some (.slice A root.length c)/\Below w.heap.size w w3:=⟨hbr3.cell 3,hbr3.cell 4,hx3⟩))
    go_wp2_with fail
    go_ret
    refine ⟨_,rfl,?_,hx3⟩
    rw [HO.out]
    unfold OwnB
    rw [List.length_append,List.length_append,List.map_append,List.map_append]
    show Own w3 w.heap.size 5 1 v3 (out.length+1+root.length) (out.map bv++[.int .u8 ((UInt8.ofNat s).toNat:Int)]++root.map bv)
    rw [HV.out]
    exact hown3
end Go.Proofs.Ytfdibjgmbdkbcaa
