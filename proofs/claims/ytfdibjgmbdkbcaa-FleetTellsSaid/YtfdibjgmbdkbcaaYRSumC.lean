/-
  THE WALK of yearref1.Sum. Condition: fewer than 2^47 bytes.
-/
import Derived.Test.YtfdibjgmbdkbcaaYGm
import Derived.Test.YtfdibjgmbdkbcaaYSt
import Derived.Test.YtfdibjgmbdkbcaaYRSab
namespace Go.Proofs.Ytfdibjgmbdkbcaa
open Go.RowKit
set_option maxRecDepth 100000 in
set_option maxHeartbeats 40000000 in
theorem refsum_any (w:World) (F:Nat->Prop) (vb:Value) (l:Bs) (hb:Bytes w F vb l) (hlen:l.length<=140737488355200) :
 Calls Try.prog 15 #[vb] w fun e w'=>∃ v,e = .returned v/\OwnB w' w.heap.size v (Sha.sha256 l)/\Below w.heap.size w w':=by
 obtain ⟨i0,hi,hz0,hz1,hz2⟩:=info_parts info_u32
 obtain ⟨i8,hi8,hy0,hy1,hy2⟩:=info_parts info_u8
 obtain ⟨Ab,cb,rfl,hbc,hbm⟩:=hb.form'
 go_enter Try.func15,Try.ntmps15
 go_wp2_with fail
 refine (primes_any w).mono ?_
 rintro e w0 ⟨vp,rfl,hp,hx0⟩
 have hps:=primes_small
 have hpl:(primesTo 310).length=64:=primes_310
 have hrk:=roots_k
 have hrh:=roots_h
 generalize primesTo 310=L at *
 obtain ⟨pb,po,pc,hvp,_,hpw,hpn,hpm,hpc⟩:=hp.form (by decide)
 subst hvp
 unfold maxLen at hpm
 have HPS:=Lib.hid hps
 have HPL:=Lib.hid hpl
 have HRK:=Lib.hid hrk
 have HRH:=Lib.hid hrh
 have HPC:=Lib.hid hpc
 clear hps hpl hrk hrh hpc
 go_wp2_with fail
 have hsz0:=hx0.size
 go_loopg [4,5,41] 64 (fun k vk vh i wr=>∃ j m:Nat,j+k=64/\m=min j 8/\i = .int .i64 (j:Int)/\Own wr w0.heap.size 119 1 vk j (((L.take j).map fun p=>rootS p false).map uv) ∧
  Own wr w0.heap.size 119 1 vh m (((L.take m).map fun p=>rootS p true).map uv)/\Apart vk vh/\Below w0.heap.size w0 wr)
 case atStart=>exact ⟨0,0,rfl,rfl,rfl,Own.nil_ _ _ _ _,Own.nil_ _ _ _ _,(fun k hk=>by simp [Value.ownBlock] at hk),Below.refl _ _⟩
 case round =>
  obtain ⟨j,m,hj,hm,rfl,hk,hh,hap,hx⟩:=hrel
  obtain ⟨Ak,ck,hvk,hkc,hkm⟩:=hk.shape
  obtain ⟨Ah,ch,hvh,hhc,hhm⟩:=hh.shape
  subst hvk hvh
  unfold maxLen at hkm hhm
  by_cases hlt:j<64
  · as_aux_lemma =>
    have hjL:j<L.length:=by have:=HPL.out;omega
    have hcj:wr.cell? ⟨pb,po+j,none⟩=some (.int .u64 (L[j]:Nat)):=(hx.cell (p:=⟨pb,po+j,none⟩) hpw).trans (HPC.out j (uv64 L[j]) (by rw [List.getElem?_map,List.getElem?_eq_getElem hjL];rfl))
    have hsm:=HPS.out L[j] (List.getElem_mem hjL)
    have hn1:(L.take (j+1))=L.take j++[L[j]]:=List.take_succ_eq_append_getElem hjL
    generalize L[j]=p at *
    have hltB:(j:Int)<64:=by omega
    have hjm:j<=64:=by omega
    have HN1:=Lib.hid hn1
    clear hn1 hjL
    go_wp2_with fail
    refine (root_any p false hsm wr).mono ?_
    rintro e w' ⟨rfl,rfl⟩
    have hsrc:=SlAt.new w' 119 [.int .u32 (rootS p false).toNat] 1 rfl (by decide)
    have hkA:=hk.alloc (.cells #[.int .u32 (rootS p false).toNat] 119)
    have hhA:=hh.alloc (.cells #[.int .u32 (rootS p false).toNat] 119)
    have hxA:=hx.alloc hx.size (.cells #[.int .u32 (rootS p false).toNat] 119)
    by_cases h8:j<8
    · have h8B:(j:Int)<8:=by omega
      obtain rfl:m=j:=by omega
      clear hm
      go_wp2_with (at_builtin
                   refine wpList_append_Own _ rfl (.tmp 46) (.tmp 49) 117 rfl w0.heap.size 119 i0 _ 1 4 Try.underlying117 hi hz0 hz1 hz2 rfl (by omega) _ _ _ rfl hkA _ _ _ _ rfl hsrc (by simp [Value.oneCell']) (by simp only [maxLen];omega) (by omega) (by simp;have:=hx.size;omega) ?_
                   intro vk1 w1 hk1 hgr1 hat1
                   have hx1:Below w0.heap.size w0 w1:=hxA.grown hgr1 hxA.size (fun k hk=>(hkA.lt k hk).1)
                   have hh1:=hhA.stay hgr1 hap
                   have hap1:Apart vk1 _:=hap.grown hhA hat1)
      clear hsrc hkA hhA hxA hgr1 hat1 hcj
      refine (root_any p true hsm w1).mono ?_
      rintro e w' ⟨rfl,rfl⟩
      have hsrc:=SlAt.new w' 119 [.int .u32 (rootS p true).toNat] 1 rfl (by decide)
      have hkA:=hk1.alloc (.cells #[.int .u32 (rootS p true).toNat] 119)
      have hhA:=hh1.alloc (.cells #[.int .u32 (rootS p true).toNat] 119)
      have hxA:=hx1.alloc hx1.size (.cells #[.int .u32 (rootS p true).toNat] 119)
      go_wp2_with (at_builtin
                   refine wpList_append_Own _ rfl (.tmp 53) (.tmp 56) 117 rfl w0.heap.size 119 i0 _ 1 4 Try.underlying117 hi hz0 hz1 hz2 rfl (by omega) _ _ _ rfl hhA _ _ _ _ rfl hsrc (by simp [Value.oneCell']) (by simp only [maxLen];omega) (by omega) (by simp;have:=hx1.size;omega) ?_
                   intro vh1 w1 hh2 hgr2 hat2
                   have hx2:Below w0.heap.size w0 w1:=hxA.grown hgr2 hxA.size (fun k hk=>(hhA.lt k hk).1)
                   have hk2:=hkA.stay hgr2 hap1.symm
                   have hap2:Apart vk1 vh1:=(hap1.symm.grown hkA hat2).symm)
      go_roundg (gk-1)
      case measure=>omega
      case rel =>
       refine ⟨m+1,m+1,by omega,by omega,by go_num,?_,?_,hap2,hx2⟩
       · rw [HN1.out,List.map_append,List.map_append];exact hk2
       · rw [HN1.out,List.map_append,List.map_append];exact hh2
    · have h8B:decide ((j:Int)<8)=false:=by simp;omega
      obtain rfl:m=8:=by omega
      clear hm
      go_wp2_with (at_builtin
                   refine wpList_append_Own _ rfl (.tmp 46) (.tmp 49) 117 rfl w0.heap.size 119 i0 _ 1 4 Try.underlying117 hi hz0 hz1 hz2 rfl (by omega) _ _ _ rfl hkA _ _ _ _ rfl hsrc (by simp [Value.oneCell']) (by simp only [maxLen];omega) (by omega) (by simp;have:=hx.size;omega) ?_
                   intro vk1 w1 hk1 hgr1 hat1
                   have hx1:Below w0.heap.size w0 w1:=hxA.grown hgr1 hxA.size (fun k hk=>(hkA.lt k hk).1)
                   have hh1:=hhA.stay hgr1 hap
                   have hap1:Apart vk1 _:=hap.grown hhA hat1)
      go_roundg (gk-1)
      case measure=>omega
      case rel =>
       refine ⟨j+1,8,by omega,by omega,by go_num,?_,hh1,hap1,hx1⟩
       rw [HN1.out,List.map_append,List.map_append];exact hk1
  · have hj64:j=64:=by omega
    subst hj64
    rw [List.take_of_length_le (by rw [HPL.out];omega),HRK.out] at hk
    obtain rfl:m=8:=by omega
    rw [HRH.out] at hh
    clear hm
    have hkh:KH wr w.heap.size _ _ Sha.H0.toList:=⟨hk.mono hsz0,hh.mono hsz0,hap⟩
    have hxw:=hx0.trans (hx.mono hsz0)
    clear HPS HPL HRK HRH HPC hk hh hap hx hx0 hp hsz0
    have hm0:=Own.new wr w.heap.size 5 [] 0 rfl (by decide) hxw.size
    have hxA:=hxw.alloc hxw.size (.cells #[] 5)
    have hkA:=hkh.alloc (.cells #[] 5)
    have hsrc:SlAt (wr.alloc (.cells #[] 5)) F 1 (.slice Ab l.length cb) l.length (l.map bv):=Bytes.below hb hxA
    go_wp2_with (at_builtin
                 first
                 | (refine wpList_append_Own _ rfl (.tmp 59) (.tmp 60) 22 rfl w.heap.size 5 i8 _ 1 1 Try.underlying22 hi8 hy0 hy1 hy2 rfl (by omega) _ _ _ rfl hm0 _ _ _ _ rfl hsrc (map_oneCell l) (by simp only [maxLen];omega) (by omega) (by simp;have:=hxw.size;omega) ?_
                    intro vm1 w1 hm1 hgr1 hat1
                    have hx1:Below w.heap.size w w1:=hxA.grown hgr1 hxA.size (fun k hk=>(hm0.lt k hk).1)
                    have hk1:=hkA.bytes hm0 hgr1
                    have hmA:=hm1.alloc (.cells #[.int .u8 128] 5)
                    have hxB:=hx1.alloc hx1.size (.cells #[.int .u8 128] 5)
                    have hkB:=hk1.alloc (.cells #[.int .u8 128] 5)
                    have hsrc2:=SlAt.new w1 5 [.int .u8 128] 1 rfl (by decide))
                 | (refine wpList_append_Own _ rfl (.tmp 61) (.tmp 62) 22 rfl w.heap.size 5 i8 _ 1 1 Try.underlying22 hi8 hy0 hy1 hy2 rfl (by omega) _ _ _ rfl hmA _ _ _ _ rfl hsrc2 (by simp [Value.oneCell']) (by simp only [maxLen];omega) (by omega) (by simp;have:=hx1.size;omega) ?_
                    intro vm2 w2 hm2 hgr2 hat2
                    have hx2:Below w.heap.size w w2:=hxB.grown hgr2 hxB.size (fun k hk=>(hmA.lt k hk).1)
                    have hk2:=hkB.bytes hmA hgr2))
    have hm3:Own w2 w.heap.size 5 1 vm2 (l.length+1+0) ((l++128::List.replicate 0 (0:UInt8)).map bv):=by
     have h:=hm2
     rw [Nat.zero_add,List.nil_append] at h
     rw [List.map_append]
     exact h
    clear hm0 hxA hkA hsrc hm1 hgr1 hat1 hx1 hk1 hmA hxB hkB hsrc2 hm2 hgr2 hat2 hkh hxw
    go_wp2_with fail
    generalize gk=gk0 at *
    generalize wr=wr0 at *
    go_loopg [8] (Sha.noughts l.length) (fun k v wr=>∃ z,z+k=Sha.noughts l.length/\Own wr w.heap.size 5 1 v (l.length+1+z) ((l++128::List.replicate z (0:UInt8)).map bv)/\KH wr w.heap.size (.slice Ak 64 ck) (.slice Ah 8 ch) Sha.H0.toList/\Below w.heap.size w wr)
    case atStart=>exact ⟨0,by omega,hm3,hk2,hx2⟩
    case round =>
     clear hm3 hk2 hx2
     obtain ⟨z,hz,hm,hkh,hx⟩:=hrel
     obtain ⟨A1,c1,hv1,hac1,hcm1⟩:=hm.shape
     subst hv1
     have hz64:z<64:=by unfold Sha.noughts at hz;omega
     by_cases hlt:z<Sha.noughts l.length
     · as_aux_lemma =>
       have hneB:((l.length:Int)+1+(z:Int)) % 64 != 56:=by
        rw [bne_iff_ne];unfold Sha.noughts at hlt;omega
       have hsrc:=SlAt.new wr 5 [.int .u8 0] 1 rfl (by decide)
       have hmA:=hm.alloc (.cells #[.int .u8 0] 5)
       have hkA:=hkh.alloc (.cells #[.int .u8 0] 5)
       have hxA:=hx.alloc hx.size (.cells #[.int .u8 0] 5)
       go_wp2_with (at_builtin
                    refine wpList_append_Own _ rfl (.tmp 68) (.tmp 69) 22 rfl w.heap.size 5 i8 _ 1 1 Try.underlying22 hi8 hy0 hy1 hy2 rfl (by omega) _ _ _ rfl hmA _ _ _ _ rfl hsrc (by simp [Value.oneCell']) (by simp only [maxLen];omega) (by omega) (by simp;have:=hx.size;omega) ?_
                    intro v1 w1 hm1 hgr1 hat1
                    have hx2:Below w.heap.size w w1:=hxA.grown hgr1 hxA.size (fun k hk=>(hmA.lt k hk).1)
                    have hk1:=hkA.bytes hmA hgr1)
       go_roundg (gk-1)
       case measure=>omega
       case rel =>
        refine ⟨z+1,by omega,?_,hk1,hx2⟩
        rw [List.replicate_succ',<-List.cons_append,<-List.append_assoc,List.map_append]
        exact hm1
     · have hneB:(((l.length:Int)+1+(z:Int)) % 64 != 56)=false:=by
        rw [bne_eq_false_iff_eq];unfold Sha.noughts at hz hlt;omega
       have hzn:z=Sha.noughts l.length:=by omega
       have HZ:=Lib.hid hzn
       clear hzn
       generalize gk=gk1 at *
       generalize wr=wr1 at *
       go_wp2_with fail
       go_loopg [8,10] 8 (fun k v i wr=>∃ j:Nat,j+k=8/\i = .int .i64 (7-(j:Int))/\Own wr w.heap.size 5 1 v (l.length+1+z+j) ((l++128::List.replicate z (0:UInt8)++(Sha.be64 (8*UInt64.ofNat l.length)).take j).map bv)/\KH wr w.heap.size (.slice Ak 64 ck) (.slice Ah 8 ch) Sha.H0.toList/\Below w.heap.size w wr)
       case atStart=>exact ⟨0,rfl,rfl,by simpa using hm,hkh,hx⟩
       case round =>
        clear hm hkh hx hneB
        obtain ⟨j,hj,rfl,hm,hkh,hx⟩:=hrel
        obtain ⟨A2,c2,hv2,hac2,hcm2⟩:=hm.shape
        subst hv2
        by_cases hlt:j<8
        · as_aux_lemma =>
          have hge:(0:Int)<=7-(j:Int):=by omega
          have hg8:(0:Int)<=8*(7-(j:Int)):=by omega
          have ht8:(8*(7-(j:Int))).toNat=56-8*j:=by omega
          have hw8:IntKind.i64.wrap (8*(7-(j:Int)))=8*(7-(j:Int)):=IntWalk.i64_in _ (by omega)
          have hb8:(Sha.be64 (8*UInt64.ofNat l.length)).length=8:=rfl
          have hnext:(Sha.be64 (8*UInt64.ofNat l.length)).take (j+1)=(Sha.be64 (8*UInt64.ofNat l.length)).take j++[(Sha.be64 (8*UInt64.ofNat l.length)).getD j 0]:=by
           rw [List.take_succ_eq_append_getElem (by omega),List.getD_eq_getElem?_getD,List.getElem?_eq_getElem (by omega)];rfl
          have hbyte:=be64_at l.length j hlt (by omega)
          rw [Int.mul_comm] at hbyte
          generalize Sha.be64 (8*UInt64.ofNat l.length)=be at *
          generalize be.getD j 0=bj at *
          have hsrc:=SlAt.new wr 5 [.int .u8 (8*(l.length:Int) / 2 ^ (56-8*j) % 256)] 1 rfl (by decide)
          have hmA:=hm.alloc (.cells #[.int .u8 (8*(l.length:Int) / 2 ^ (56-8*j) % 256)] 5)
          have hkA:=hkh.alloc (.cells #[.int .u8 (8*(l.length:Int) / 2 ^ (56-8*j) % 256)] 5)
          have hxA:=hx.alloc hx.size (.cells #[.int .u8 (8*(l.length:Int) / 2 ^ (56-8*j) % 256)] 5)
          have HB:=Lib.hid hbyte
          have HNX:=Lib.hid hnext
          clear hbyte hnext hb8
          go_wp2_with (at_builtin
                       refine wpList_append_Own _ rfl (.tmp 79) (.tmp 85) 22 rfl w.heap.size 5 i8 _ 1 1 Try.underlying22 hi8 hy0 hy1 hy2 rfl (by omega) _ _ _ rfl hmA _ _ _ _ rfl hsrc (by simp [Value.oneCell']) (by simp only [maxLen];omega) (by omega) (by simp;have:=hx.size;omega) ?_
                       intro v1 w1 hm1 hgr1 hat1
                       have hx2:Below w.heap.size w w1:=hxA.grown hgr1 hxA.size (fun k hk=>(hmA.lt k hk).1)
                       have hk1:=hkA.bytes hmA hgr1)
          go_roundg (gk-1)
          case measure=>omega
          case rel =>
           refine ⟨j+1,by omega,by go_num,?_,hk1,hx2⟩
           rw [HNX.out,<-List.append_assoc,List.map_append]
           rw [HB.out] at hm1
           exact hm1
        · have hgeB:decide ((0:Int)<=7-(j:Int))=false:=by simp;omega
          have hj8:j=8:=by omega
          subst hj8
          have hpad:(l++128::List.replicate z (0:UInt8)++(Sha.be64 (8*UInt64.ofNat l.length)).take 8)=Sha.padded l:=by
           rw [HZ.out,List.append_assoc];rfl
          rw [hpad] at hm
          have hpl:l.length+1+z+8=(Sha.padded l).length:=by
           unfold Sha.padded
           rw [List.length_append,Sha.length_padding,HZ.out];omega
          have hmod:=Sha.length_padded l
          have hsum:Sha.sha256 l=Sha.out8 (Sha.hAt (Sha.padded l) ((Sha.padded l).length / 64)):=rfl
          have hM1:(Sha.padded l).length<=140737488355328:=by rw [<-hpl];omega
          generalize Sha.padded l=m at *
          obtain ⟨n,hn⟩:∃ n,m.length=64*n:=⟨m.length / 64,by omega⟩
          rw [show m.length / 64=n by omega] at hsum
          generalize hM:l.length+1+z+8=M at *
          subst hpl
          have HSUM:=Lib.hid hsum
          have HN:=Lib.hid hn
          clear hpad hmod hsum hM hz HZ hn
          go_wp2_with fail
          generalize gk=gk2 at *
          generalize wr=wr2 at *
          go_loopg [11] n (fun k at' wr=>∃ i p:Nat,i+k=n/\Hid (p=64*i)/\at' = .int .i64 (p:Int)/\Own wr w.heap.size 5 1 (.slice A2 m.length c2) m.length (m.map bv)/\KH wr w.heap.size (.slice Ak 64 ck) (.slice Ah 8 ch) (Sha.hAt m i).toList/\Below w.heap.size w wr)
          case atStart=>exact ⟨0,0,by omega,Lib.hid rfl,rfl,hm,hkh,hx⟩
          case round =>
           clear hm hkh hx
           obtain ⟨i,p,hin,hp,rfl,hm,hkh,hx⟩:=hrel
           by_cases hlt:i<n
           · have hpn:=hp.out
             have hnn:=HN.out
             have hltB:(p:Int)<(m.length:Int):=by omega
             have hn64:n*64<=140737488355328:=by omega
             have hp64:p+64<=m.length:=by omega
             obtain ⟨mb,mo,mc,hmv,_,hmw,hmn,hmm,hmc⟩:=hm.form (by omega)
             injection hmv with e1 e2 e3
             subst e1 e3
             have hcell:∀ q,q<64->wr.cell? ⟨mb,mo+(p+q),none⟩=some (.int .u8 ((Sha.blk m i).getD q 0).toNat):=by
              intro q hq
              have h:=blk_at m i q hq (by omega)
              exact hmc (p+q) (bv ((Sha.blk m i).getD q 0)) (by rw [List.getElem?_map,hpn,h];rfl)
             have HC:=Lib.hid hcell
             have hnext:Sha.hAt m (i+1)=Sha.compress (Sha.hAt m i) (Sha.blk m i):=rfl
             have HNEXT:=Lib.hid hnext
             clear hmc hcell hnext hpn hnn
             generalize Sha.blk m i=b at *
             generalize Sha.hAt m i=hv at *
             have HCM:=Lib.hid hcm2
             unfold maxLen at hcm2
             generalize gk=gk3 at *
             generalize wr=W at *
             go_wp2_with fail
             go_loopg [12,13] 64 (fun k vw i wr=>∃ j,j+k=64/\i = .int .i64 (j:Int)/\Own wr W.heap.size 119 1 vw j ((Sha.sched b j).map uv)/\Below W.heap.size W wr)
             case atStart=>exact ⟨0,rfl,rfl,Own.nil_ _ _ _ _,Below.refl _ _⟩
             case round =>
              obtain ⟨j,hj,rfl,hw,hxx⟩:=hrel
              obtain ⟨Aw,cw,hvw,hwc,hwm⟩:=hw.shape
              subst hvw
              unfold maxLen at hwm
              by_cases hlt:j<64
              · have hltB:(j:Int)<64:=by omega
                by_cases h16:j<16
                · as_aux_lemma =>
                  have h16B:(j:Int)<16:=by omega
                  have s1:(0:Int)<=(p:Int)+4*(j:Int):=by omega
                  have s2:(p:Int)+4*(j:Int)<=(p:Int)+4*(j:Int)+4:=by omega
                  have s3:(p:Int)+4*(j:Int)+4<=(c2:Int):=by omega
                  have t1:((p:Int)+4*(j:Int)).toNat=p+4*j:=by omega
                  have t2:((p:Int)+4*(j:Int)+4).toNat=p+4*j+4:=by omega
                  have t3:p+4*j+4-(p+4*j)=4:=by omega
                  have hjm:j<=16:=by omega
                  have hpm2:p<=140737488355328:=by omega
                  go_wp2_with fail
                  generalize gk=gk4 at *
                  generalize wr=W4 at *
                  go_loopg [14,111] 4 (fun k x i wr=>∃ q,q+k=4/\i = .int .i64 (q:Int)/\x = .int .u32 (wordTo ((four b j).take q)).toNat/\wr=W4)
                  case atStart=>exact ⟨0,rfl,rfl,rfl,rfl⟩
                  case round =>
                   obtain ⟨q,hq,rfl,rfl,rfl⟩:=hrel
                   by_cases hlt4:q<4
                   · have hltB4:(q:Int)<4:=by omega
                     have hcq:wr.cell? ⟨mb,mo+(p+4*j)+q,none⟩=some (.int .u8 (b.getD (4*j+q) 0).toNat):=by
                      have h:=HC.out (4*j+q) (by omega)
                      rw [<-Nat.add_assoc p,<-Nat.add_assoc mo] at h
                      rw [hxx.cell (p:=⟨mb,mo+(p+4*j)+q,none⟩) hmw]
                      exact h
                     have hfn:=four_next b j q hlt4
                     generalize wordTo ((four b j).take q)=x at *
                     generalize b.getD (4*j+q) 0=c at *
                     have HFN:=Lib.hid hfn
                     clear hfn
                     go_wp2_with fail
                     go_roundg (gk-1)
                     case measure=>omega
                     case rel =>
                      refine ⟨q+1,by omega,by go_num,?_,rfl⟩
                      rw [HFN.out,<-byte_in]
                   · have hltB4:decide ((q:Int)<4)=false:=by simp;omega
                     have hq4:q=4:=by omega
                     subst hq4
                     rw [four_all]
                     have hs1:=word_sched b j h16
                     generalize Sha.wordAt b j=x at *
                     generalize Sha.sched b j=S0 at *
                     have HS1:=Lib.hid hs1
                     have hsrc:=SlAt.new wr 119 [.int .u32 x.toNat] 1 rfl (by decide)
                     have hwA:=hw.alloc (.cells #[.int .u32 x.toNat] 119)
                     have hxA:=hxx.alloc hxx.size (.cells #[.int .u32 x.toNat] 119)
                     clear hs1
                     go_wp2_with (at_builtin
                                  refine wpList_append_Own _ rfl (.tmp 121) (.tmp 123) 117 rfl W.heap.size 119 i0 _ 1 4 Try.underlying117 hi hz0 hz1 hz2 rfl (by omega) _ _ _ rfl hwA _ _ _ _ rfl hsrc (by simp [Value.oneCell']) (by simp only [maxLen];omega) (by omega) (by simp;have:=hxx.size;omega) ?_
                                  intro vw1 w1 hw1 hgr1 hat1
                                  have hx1:Below W.heap.size W w1:=hxA.grown hgr1 hxA.size (fun k hk=>(hwA.lt k hk).1))
                     clear hsrc hwA hxA hgr1 hat1
                     generalize gk=gk5 at *
                     go_roundg (gk4-1)
                     case measure=>omega
                     case rel =>
                      refine ⟨j+1,by omega,by go_num,?_,hx1⟩
                      rw [HS1.out,List.map_append]
                      exact hw1
                · as_aux_lemma =>
                  have h16B:decide ((j:Int)<16)=false:=by simp;omega
                  have hl:=Sha.length_sched b j
                  have g16:(Sha.sched b j)[j-16]? = some ((Sha.sched b j).getD (j-16) 0):=by
                   rw [List.getD_eq_getElem?_getD,List.getElem?_eq_getElem (by omega)];rfl
                  have g15:(Sha.sched b j)[j-15]? = some ((Sha.sched b j).getD (j-15) 0):=by
                   rw [List.getD_eq_getElem?_getD,List.getElem?_eq_getElem (by omega)];rfl
                  have g7:(Sha.sched b j)[j-7]? = some ((Sha.sched b j).getD (j-7) 0):=by
                   rw [List.getD_eq_getElem?_getD,List.getElem?_eq_getElem (by omega)];rfl
                  have g2:(Sha.sched b j)[j-2]? = some ((Sha.sched b j).getD (j-2) 0):=by
                   rw [List.getD_eq_getElem?_getD,List.getElem?_eq_getElem (by omega)];rfl
                  have hs1:Sha.sched b (j+1)=Sha.sched b j++[(Sha.sched b j).getD (j-16) 0+(Sha.sched b j).getD (j-7) 0+Sha.sig0 ((Sha.sched b j).getD (j-15) 0)+Sha.sig1 ((Sha.sched b j).getD (j-2) 0)]:=by
                   rw [Sha.sched,Sha.nextW,Sha.length_sched,if_neg h16]
                  generalize (Sha.sched b j).getD (j-16) 0=x16 at *
                  generalize (Sha.sched b j).getD (j-15) 0=x15 at *
                  generalize (Sha.sched b j).getD (j-7) 0=x7 at *
                  generalize (Sha.sched b j).getD (j-2) 0=x2 at *
                  obtain ⟨wb,wo,wc,hwv,_,hww,hwn2,hwm2,hwcell⟩:=hw.form (by omega)
                  injection hwv with e1 e2 e3
                  subst e1 e3
                  have q16:wr.cell? ⟨wb,wo+(j-16),none⟩=some (.int .u32 x16.toNat):=hwcell (j-16) (uv x16) (by rw [List.getElem?_map,g16];rfl)
                  have q15:wr.cell? ⟨wb,wo+(j-15),none⟩=some (.int .u32 x15.toNat):=hwcell (j-15) (uv x15) (by rw [List.getElem?_map,g15];rfl)
                  have q7:wr.cell? ⟨wb,wo+(j-7),none⟩=some (.int .u32 x7.toNat):=hwcell (j-7) (uv x7) (by rw [List.getElem?_map,g7];rfl)
                  have q2:wr.cell? ⟨wb,wo+(j-2),none⟩=some (.int .u32 x2.toNat):=hwcell (j-2) (uv x2) (by rw [List.getElem?_map,g2];rfl)
                  generalize Sha.sched b j=S0 at *
                  have HS1:=Lib.hid hs1
                  clear hs1 hl g15 g2 hwcell
                  have g16v:(S0.map uv)[j-16]? = some (uv x16):=by rw [List.getElem?_map,g16];rfl
                  have g7v:(S0.map uv)[j-7]? = some (uv x7):=by rw [List.getElem?_map,g7];rfl
                  clear g16 g7
                  have r15:((j:Int)-15).toNat=j-15:=by omega
                  have y15:(15:Int)<=(j:Int):=by omega
                  have z15:(0:Int)<=(j:Int)-15:=by omega
                  have l15:(j:Int)-15<(j:Int):=by omega
                  have v15:IntKind.i64.wrap ((j:Int)-15)=(j:Int)-15:=IntWalk.i64_in _ (by omega)
                  have r2:((j:Int)-2).toNat=j-2:=by omega
                  have y2:(2:Int)<=(j:Int):=by omega
                  have z2:(0:Int)<=(j:Int)-2:=by omega
                  have l2:(j:Int)-2<(j:Int):=by omega
                  have v2:IntKind.i64.wrap ((j:Int)-2)=(j:Int)-2:=IntWalk.i64_in _ (by omega)
                  go_wp2_with fail
                  go_quiet (fail)
                  go_wp2_with fail
                  clear r15 y15 z15 l15 v15 r2 y2 z2 l2 v2 q15 q2
                  have r16:((j:Int)-16).toNat=j-16:=by omega
                  have y16:(16:Int)<=(j:Int):=by omega
                  have z16:(0:Int)<=(j:Int)-16:=by omega
                  have l16:(j:Int)-16<(j:Int):=by omega
                  have v16:IntKind.i64.wrap ((j:Int)-16)=(j:Int)-16:=IntWalk.i64_in _ (by omega)
                  have r7:((j:Int)-7).toNat=j-7:=by omega
                  have y7:(7:Int)<=(j:Int):=by omega
                  have z7:(0:Int)<=(j:Int)-7:=by omega
                  have l7:(j:Int)-7<(j:Int):=by omega
                  have v7:IntKind.i64.wrap ((j:Int)-7)=(j:Int)-7:=IntWalk.i64_in _ (by omega)
                  have hwz0:=(hw.drewN nq).drew
                  have hxz0:=(below_drewN hxx nq).drew
                  have q16':(wr.drewN nq).cell? ⟨wb,wo+(j-16),none⟩=some (.int .u32 x16.toNat):=q16
                  have q7':(wr.drewN nq).cell? ⟨wb,wo+(j-7),none⟩=some (.int .u32 x7.toNat):=q7
                  clear q16 q7 hw hxx
                  have q16:=q16'
                  have q7:=q7'
                  clear q16' q7'
                  generalize wr.drewN nq=W6 at *
                  refine wp_region_held_drew (S:=(fun z:World=>z.cell? ⟨wb,wo+(j-16),none⟩=some (.int .u32 x16.toNat)/\z.cell? ⟨wb,wo+(j-7),none⟩=some (.int .u32 x7.toNat))) (by kernel_rfl) ?_ (fun hHeld=>?_)
                  · exact ⟨q16,q7⟩
                  refine step_tk 0 (h:=?_)
                  refine step_tk 1 (h:=?_)
                  refine step_tk 2 (h:=?_)
                  refine step_tk 3 (h:=?_)
                  refine step_tk 4 (h:=?_)
                  refine step_tk 5 (h:=?_)
                  refine step_tk 6 (h:=?_)
                  refine step_tk 8 (h:=?_)
                  refine step_tk 11 (h:=?_)
                  refine step_tk 12 (h:=?_)
                  refine step_tk 15 (h:=?_)
                  refine step_tk 16 (h:=?_)
                  refine step_tk 17 (h:=?_)
                  refine step_tk 18 (h:=?_)
                  refine step_tk 19 (h:=?_)
                  refine step_tk 21 (h:=?_)
                  refine step_tk 23 (h:=?_)
                  refine step_tk 26 (h:=?_)
                  refine step_tk 27 (h:=?_)
                  refine step_alone 7 rfl (by kernel_rfl) (by rfl) (fun K hK=>?_)
                  go_simp
                  refine (turn_any W6.drew x15 7 (by decide) (by decide)).mono ?_
                  rintro e u1 ⟨rfl,n1,hu1⟩
                  have hS1:(u1.cell? ⟨wb,wo+(j-16),none⟩=some (.int .u32 x16.toNat)/\u1.cell? ⟨wb,wo+(j-7),none⟩=some (.int .u32 x7.toNat)):=by (rw [hu1];exact hHeld)
                  have hwz1:Own u1 W.heap.size 119 1 (.slice (some ⟨wb,wo,none⟩) j cw) j (S0.map uv):=by (rw [hu1];exact hwz0.drewN n1)
                  have hxz1:Below W.heap.size W u1:=by (rw [hu1];exact below_drewN hxz0 n1)
                  clear hu1 hHeld hwz0 hxz0
                  go_simp
                  refine hK.out _ _ ?_ (fun hHeld=>?_)
                  · exact hS1
                  clear hK K
                  try simp only [Act.put,List.setIfInBounds_toArray,List.set_cons_zero,List.set_cons_succ]
                  refine step_alone 9 rfl (by kernel_rfl) (by rfl) (fun K hK=>?_)
                  go_simp
                  refine (turn_any u1 x15 18 (by decide) (by decide)).mono ?_
                  rintro e u2 ⟨rfl,n2,hu2⟩
                  have hS2:(u2.cell? ⟨wb,wo+(j-16),none⟩=some (.int .u32 x16.toNat)/\u2.cell? ⟨wb,wo+(j-7),none⟩=some (.int .u32 x7.toNat)):=by (rw [hu2];exact hHeld)
                  have hwz2:Own u2 W.heap.size 119 1 (.slice (some ⟨wb,wo,none⟩) j cw) j (S0.map uv):=by (rw [hu2];exact hwz1.drewN n2)
                  have hxz2:Below W.heap.size W u2:=by (rw [hu2];exact below_drewN hxz1 n2)
                  clear hu2 hHeld hwz1 hxz1
                  go_simp
                  refine hK.out _ _ ?_ (fun hHeld=>?_)
                  · exact hS2
                  clear hK K
                  try simp only [Act.put,List.setIfInBounds_toArray,List.set_cons_zero,List.set_cons_succ]
                  refine step_tk 10 (h:=?_)
                  refine step_tk 13 (h:=?_)
                  refine step_tk 14 (h:=?_)
                  refine step_tk 20 (h:=?_)
                  refine step_alone 22 rfl (by kernel_rfl) (by rfl) (fun K hK=>?_)
                  go_simp
                  refine (turn_any u2 x2 17 (by decide) (by decide)).mono ?_
                  rintro e u3 ⟨rfl,n3,hu3⟩
                  have hS3:(u3.cell? ⟨wb,wo+(j-16),none⟩=some (.int .u32 x16.toNat)/\u3.cell? ⟨wb,wo+(j-7),none⟩=some (.int .u32 x7.toNat)):=by (rw [hu3];exact hHeld)
                  have hwz3:Own u3 W.heap.size 119 1 (.slice (some ⟨wb,wo,none⟩) j cw) j (S0.map uv):=by (rw [hu3];exact hwz2.drewN n3)
                  have hxz3:Below W.heap.size W u3:=by (rw [hu3];exact below_drewN hxz2 n3)
                  clear hu3 hHeld hwz2 hxz2
                  go_simp
                  refine hK.out _ _ ?_ (fun hHeld=>?_)
                  · exact hS3
                  clear hK K
                  try simp only [Act.put,List.setIfInBounds_toArray,List.set_cons_zero,List.set_cons_succ]
                  refine step_alone 24 rfl (by kernel_rfl) (by rfl) (fun K hK=>?_)
                  go_simp
                  refine (turn_any u3 x2 19 (by decide) (by decide)).mono ?_
                  rintro e u4 ⟨rfl,n4,hu4⟩
                  have hS4:(u4.cell? ⟨wb,wo+(j-16),none⟩=some (.int .u32 x16.toNat)/\u4.cell? ⟨wb,wo+(j-7),none⟩=some (.int .u32 x7.toNat)):=by (rw [hu4];exact hHeld)
                  have hwz4:Own u4 W.heap.size 119 1 (.slice (some ⟨wb,wo,none⟩) j cw) j (S0.map uv):=by (rw [hu4];exact hwz3.drewN n4)
                  have hxz4:Below W.heap.size W u4:=by (rw [hu4];exact below_drewN hxz3 n4)
                  clear hu4 hHeld hwz3 hxz3
                  go_simp
                  refine hK.out _ _ ?_ (fun hHeld=>?_)
                  · exact hS4
                  clear hK K
                  try simp only [Act.put,List.setIfInBounds_toArray,List.set_cons_zero,List.set_cons_succ]
                  refine step_tk 25 (h:=?_)
                  refine step_tk 28 (h:=?_)
                  refine step_tk 29 (h:=?_)
                  refine step_alone 30 rfl (by kernel_rfl) (by rfl) (fun K hK=>?_)
                  go_simp
                  rw [rsched_raw]
                  have hsrc:=SlAt.new u4 119 [.int .u32 (x16+x7+Sha.sig0 x15+Sha.sig1 x2).toNat] 1 rfl (by decide)
                  have hwA:=hwz4.alloc (.cells #[.int .u32 (x16+x7+Sha.sig0 x15+Sha.sig1 x2).toNat] 119)
                  have hxA:=hxz4.alloc hxz4.size (.cells #[.int .u32 (x16+x7+Sha.sig0 x15+Sha.sig1 x2).toNat] 119)
                  have hub:=(hwz4.lt wb rfl).2
                  have hSA:((u4.alloc (.cells #[.int .u32 (x16+x7+Sha.sig0 x15+Sha.sig1 x2).toNat] 119)).cell? ⟨wb,wo+(j-16),none⟩=some (.int .u32 x16.toNat)/\(u4.alloc (.cells #[.int .u32 (x16+x7+Sha.sig0 x15+Sha.sig1 x2).toNat] 119)).cell? ⟨wb,wo+(j-7),none⟩=some (.int .u32 x7.toNat)):=⟨(World.cell?_of_block (Below.heap_alloc _ _ _ hub)).trans hS4.1,(World.cell?_of_block (Below.heap_alloc _ _ _ hub)).trans hS4.2⟩
                  refine hK.out _ _ ?_ (fun hHeld=>?_)
                  · exact hSA
                  clear hK K
                  try simp only [Act.put,List.setIfInBounds_toArray,List.set_cons_zero,List.set_cons_succ]
                  refine step_alone 31 rfl (by kernel_rfl) (by rfl) (fun K hK=>?_)
                  refine wp_append_OwnK _ (.tmp 135) (.tmp 165) 117 rfl W.heap.size 119 i0 _ 1 4 Try.underlying117 hi hz0 hz1 hz2 rfl (by omega) _ _ _ rfl hwA _ _ _ _ rfl hsrc (by simp [Value.oneCell']) (by simp only [maxLen];omega) (by omega) (by simp;have:=hxz4.size;omega) ?_
                  intro vw1 w1 hw1 hgr1 hat1 hkp1
                  have hx1:Below W.heap.size W w1:=hxA.grown hgr1 hxA.size (fun k hk=>(hwA.lt k hk).1)
                  refine hK.out _ _ ?_ (fun hHeld=>?_)
                  · exact ⟨hkp1 wb wo cw rfl (j-16) (uv x16) g16v,hkp1 wb wo cw rfl (j-7) (uv x7) g7v⟩
                  clear hK K
                  try simp only [Act.put,List.setIfInBounds_toArray,List.set_cons_zero,List.set_cons_succ]
                  refine step_tk 32 (h:=?_)
                  refine wpAnyH_done (by kernel_rfl) ?_ _
                  clear r16 y16 z16 l16 v16 r7 y7 z7 l7 v7
                  go_wp2_with fail
                  go_roundg (gk-1)
                  case measure=>omega
                  case rel =>
                   refine ⟨j+1,by omega,by go_num,?_,hx1⟩
                   rw [HS1.out,List.map_append]
                   exact hw1
              · skip
                have hj64:j=64:=by omega
                subst hj64
                have hk1:=hkh.below hxx
                have hm1:=hm.below hxx
                have hx1:=hx.trans (hxx.mono hx.size)
                have HN2:Hid (Sha.hAt m (i+1)=hv.plus (Sha.rounds (Sha.sched b 64) hv 64)):=Lib.hid HNEXT.out
                clear hkh hm hx HNEXT hlt HC hmw hmn hmm
                obtain ⟨kb,ko,kc,hkv,_,hkw,hkn,hkmx,hkcell⟩:=hk1.1.form (by decide)
                injection hkv with e1 e2 e3
                subst e1 e3
                obtain ⟨gb,go,gc,hhv,_,hhw,hhn,hhmx,hhcell⟩:=hk1.2.1.form (by decide)
                injection hhv with e1 e2 e3
                subst e1 e3
                obtain ⟨wb,wo,wc,hwv,_,hww,hwn2,hwm2,hwcell⟩:=hw.form (by decide)
                injection hwv with e1 e2 e3
                subst e1 e3
                have HKC:Hid (∀ t,t<64->wr.cell? ⟨kb,ko+t,none⟩=some (.int .u32 (Sha.Kc.getD t 0).toNat)):=Lib.hid (fun t ht=>hkcell t (uv (Sha.Kc.getD t 0)) (by rw [List.getElem?_map,List.getD_eq_getElem?_getD,List.getElem?_eq_getElem (show t<Sha.Kc.length from ht)];rfl))
                have HWC:Hid (∀ t,t<64->wr.cell? ⟨wb,wo+t,none⟩=some (.int .u32 ((Sha.sched b 64).getD t 0).toNat)):=Lib.hid (fun t ht=>hwcell t (uv ((Sha.sched b 64).getD t 0)) (by rw [List.getElem?_map,List.getD_eq_getElem?_getD,List.getElem?_eq_getElem (show t<(Sha.sched b 64).length by rw [Sha.length_sched];exact ht)];rfl))
                have c0:wr.cell? ⟨gb,go,none⟩=some (.int .u32 hv.a.toNat):=hhcell 0 (uv hv.a) rfl
                have c1:wr.cell? ⟨gb,go+1,none⟩=some (.int .u32 hv.b.toNat):=hhcell 1 (uv hv.b) rfl
                have c2_:wr.cell? ⟨gb,go+2,none⟩=some (.int .u32 hv.c.toNat):=hhcell 2 (uv hv.c) rfl
                have c3:wr.cell? ⟨gb,go+3,none⟩=some (.int .u32 hv.d.toNat):=hhcell 3 (uv hv.d) rfl
                have c4:wr.cell? ⟨gb,go+4,none⟩=some (.int .u32 hv.e.toNat):=hhcell 4 (uv hv.e) rfl
                have c5:wr.cell? ⟨gb,go+5,none⟩=some (.int .u32 hv.f.toNat):=hhcell 5 (uv hv.f) rfl
                have c6:wr.cell? ⟨gb,go+6,none⟩=some (.int .u32 hv.g.toNat):=hhcell 6 (uv hv.g) rfl
                have c7:wr.cell? ⟨gb,go+7,none⟩=some (.int .u32 hv.h.toNat):=hhcell 7 (uv hv.h) rfl
                clear hkcell hhcell hwcell hw hxx hkw hhw hww
                generalize gk=gk6 at *
                generalize wr=W7 at *
                go_wp2_with fail
                go_quiet (fail)
                go_wp2_with fail
                go_quiet (fail)
                go_wp2_with fail
                clear c0 c1 c2_ c3 c4 c5 c6 c7
                go_loopg [19,20,21,22,23,24,25,26,27] 64 (fun k a c d f e g i j t wr=>∃ (tn m1:Nat) (v:Sha.V8),tn+k=64/\Hid (v=Sha.rounds (Sha.sched b 64) hv tn)/\a = .int .u32 v.a.toNat/\c = .int .u32 v.b.toNat/\d = .int .u32 v.c.toNat/\f = .int .u32 v.d.toNat ∧
                 e = .int .u32 v.e.toNat/\g = .int .u32 v.f.toNat/\i = .int .u32 v.g.toNat/\j = .int .u32 v.h.toNat/\t = .int .i64 (tn:Int)/\wr=W7.drewN m1)
                case atStart=>exact ⟨0,_,hv,rfl,Lib.hid rfl,rfl,rfl,rfl,rfl,rfl,rfl,rfl,rfl,rfl,World.drewN_drewN _ _ _⟩
                case round =>
                 obtain ⟨tn,m1,v,ht,hr,rfl,rfl,rfl,rfl,rfl,rfl,rfl,rfl,rfl,rfl⟩:=hrel
                 by_cases hlt7:tn<64
                 · as_aux_lemma =>
                   have hltB:(tn:Int)<64:=by omega
                   have ck1:W7.cell? ⟨kb,ko+tn,none⟩=some (.int .u32 (Sha.Kc.getD tn 0).toNat):=HKC.out tn hlt7
                   have cw1:W7.cell? ⟨wb,wo+tn,none⟩=some (.int .u32 ((Sha.sched b 64).getD tn 0).toNat):=HWC.out tn hlt7
                   have hr1:Hid (Sha.round v (Sha.Kc.getD tn 0) ((Sha.sched b 64).getD tn 0)=Sha.rounds (Sha.sched b 64) hv (tn+1)):=Lib.hid (by rw [Sha.rounds,<-hr.out])
                   generalize Sha.Kc.getD tn 0=kj at *
                   generalize (Sha.sched b 64).getD tn 0=wj at *
                   obtain ⟨xa,xb,xc,xd,xe,xf,xg,xh⟩:=v
                   dsimp only
                   go_upto_region 45 with (fail)
                   obtain ⟨c0,HC0⟩:∃ z,Hid (z=((xf &&& xe) ||| (xg &&& ~~~xe))):=⟨_,Lib.hid rfl⟩
                   obtain ⟨m0,HM0⟩:∃ z,Hid (z=((xa &&& xb) ||| (xa &&& xc) ||| (xb &&& xc))):=⟨_,Lib.hid rfl⟩
                   rw [choose_raw xe xf xg,most_raw xa xb xc,<-HC0.out,<-HM0.out]
                   go_cut [30] (fun x w'=>x = .int .u32 (Sha.t1 ⟨xa,xb,xc,xd,xe,xf,xg,xh⟩ kj wj).toNat/\∃ m,w'=W7.drewN m)
                   case first =>
                    refine wp_region_quiet_lit (by kernel_rfl) (by kernel_rfl) ?_
                    iterate 2 (quiet_step (fail))
                    quiet_step (exact quiet_add (turn6_any _ _))
                    quiet_step (fail)
                    quiet_step (exact quiet_add (turn11_any _ _))
                    iterate 2 (quiet_step (fail))
                    quiet_step (exact quiet_add (turn25_any _ _))
                    iterate 15 (quiet_step (fail))
                    refine wpQuiet_nil ?_
                    rintro _ ⟨n2,rfl⟩
                    iterate 2 go_step
                    go_meet
                    exact ⟨congrArg (Value.int .u32) (rt1_hid xa xb xc xd xh kj wj c0 HC0.out),m1+n2,World.drewN_drewN _ _ _⟩
                   case rest =>
                    obtain ⟨rfl,m2,rfl⟩:=hcut
                    go_upto_region 46 with (fail)
                    go_cut [31] (fun t w'=>t = .int .u32 (Sha.t2 ⟨xa,xb,xc,xd,xe,xf,xg,xh⟩).toNat/\∃ m,w'=W7.drewN m)
                    case first =>
                     go_wp2_with fail
                     refine (turn_any _ xa 2 (by decide) (by decide)).mono ?_
                     rintro e u1 ⟨rfl,n1,rfl⟩
                     go_wp2_with fail
                     refine (turn_any _ xa 13 (by decide) (by decide)).mono ?_
                     rintro e u1 ⟨rfl,n2,rfl⟩
                     go_wp2_with fail
                     refine (turn_any _ xa 22 (by decide) (by decide)).mono ?_
                     rintro e u1 ⟨rfl,n3,rfl⟩
                     go_wp2_with fail
                     go_meet
                     exact ⟨congrArg (Value.int .u32) (rt2_mod xd xe xf xg xh m0 HM0.out),m2+n1+n2+n3,rfl⟩
                    case rest =>
                     obtain ⟨rfl,m3,rfl⟩:=hcut
                     have hr2:Hid (Sha.round ⟨xa,xb,xc,xd,xe,xf,xg,xh⟩ kj wj=⟨Sha.t1 ⟨xa,xb,xc,xd,xe,xf,xg,xh⟩ kj wj+Sha.t2 ⟨xa,xb,xc,xd,xe,xf,xg,xh⟩,xa,xb,xc,xd+Sha.t1 ⟨xa,xb,xc,xd,xe,xf,xg,xh⟩ kj wj,xe,xf,xg⟩):=Lib.hid rfl
                     generalize Sha.t1 ⟨xa,xb,xc,xd,xe,xf,xg,xh⟩ kj wj=y1 at *
                     generalize Sha.t2 ⟨xa,xb,xc,xd,xe,xf,xg,xh⟩=y2 at *
                     clear ck1 cw1
                     go_wp2_with fail
                     go_roundg (gk-1)
                     case measure=>omega
                     case rel =>
                      exact ⟨tn+1,m3,⟨y1+y2,xa,xb,xc,xd+y1,xe,xf,xg⟩,by omega,Lib.hid (by rw [<-hr1.out,hr2.out]),congrArg (Value.int .u32) (wmod32 y1 y2),rfl,rfl,rfl,congrArg (Value.int .u32) (wmod32 xd y1),rfl,rfl,rfl,by go_num,rfl⟩
                 · skip
                   have ht64:tn=64:=by omega
                   subst ht64
                   have HN3:Hid (Sha.hAt m (i+1)=hv.plus v):=Lib.hid (by rw [HN2.out,hr.out])
                   have hk2:=hk1.drewN m1
                   have hm2:=hm1.drewN m1
                   have hx2:=below_drewN hx1 m1
                   clear HN2 hr hk1 hm1 hx1 HKC HWC hlt7
                   generalize W7.drewN m1=W8 at *
                   obtain ⟨xa,xb,xc,xd,xe,xf,xg,xh⟩:=v
                   dsimp only
                   have hk3:=hk2.alloc (.cells #[.int .u32 xa.toNat,.int .u32 xb.toNat,.int .u32 xc.toNat,.int .u32 xd.toNat,.int .u32 xe.toNat,.int .u32 xf.toNat,.int .u32 xg.toNat,.int .u32 xh.toNat] 119)
                   have hm3:=hm2.alloc (.cells #[.int .u32 xa.toNat,.int .u32 xb.toNat,.int .u32 xc.toNat,.int .u32 xd.toNat,.int .u32 xe.toNat,.int .u32 xf.toNat,.int .u32 xg.toNat,.int .u32 xh.toNat] 119)
                   have hx3:=hx2.alloc hx2.size (.cells #[.int .u32 xa.toNat,.int .u32 xb.toNat,.int .u32 xc.toNat,.int .u32 xd.toNat,.int .u32 xe.toNat,.int .u32 xf.toNat,.int .u32 xg.toNat,.int .u32 xh.toNat] 119)
                   have hB3:Blk (W8.alloc (.cells #[.int .u32 xa.toNat,.int .u32 xb.toNat,.int .u32 xc.toNat,.int .u32 xd.toNat,.int .u32 xe.toNat,.int .u32 xf.toNat,.int .u32 xg.toNat,.int .u32 xh.toNat] 119)) W8.heap.size 119 (((⟨xa,xb,xc,xd,xe,xf,xg,xh⟩:Sha.V8).toList.map uv).toArray):=heap_alloc_new W8 _
                   have hgab:gb<W8.heap.size:=(hk2.2.1.lt gb rfl).2
                   have hkab:kb<W8.heap.size:=(hk2.1.lt kb rfl).2
                   go_wp2_with fail
                   generalize W8.alloc _=W9 at *
                   generalize W8.heap.size=ab at *
                   generalize gk=gk7 at *
                   go_loopg [267] 8 (fun k c wr=>∃ q:Nat,q+k=8/\c = .int .i64 (q:Int)/\KH wr w.heap.size (.slice (some ⟨kb,ko,none⟩) 64 ck) (.slice (some ⟨gb,go,none⟩) 8 ch) (mixW hv ⟨xa,xb,xc,xd,xe,xf,xg,xh⟩ q) ∧
                    Own wr w.heap.size 5 1 (.slice (some ⟨mb,mo,none⟩) m.length c2) m.length (m.map bv)/\Blk wr ab 119 (((⟨xa,xb,xc,xd,xe,xf,xg,xh⟩:Sha.V8).toList.map uv).toArray)/\Below w.heap.size w wr)
                   case atStart=>exact ⟨0,rfl,rfl,hk3,hm3,hB3,hx3⟩
                   case round =>
                    clear hk3 hm3 hB3 hx3 hk2 hm2 hx2
                    obtain ⟨q,hq,rfl,hk,hm,hB,hx⟩:=hrel
                    by_cases hlt8:q<8
                    · skip
                      have hltB:(q:Int)<8:=by omega
                      have cx:=stMix_v hB hlt8
                      obtain ⟨ch1,fh1⟩:=hk.2.1.at_ (mixW_at hv ⟨xa,xb,xc,xd,xe,xf,xg,xh⟩ q hlt8)
                      have hk4:=hk.set_ q (hv.toList.getD q 0+(⟨xa,xb,xc,xd,xe,xf,xg,xh⟩:Sha.V8).toList.getD q 0)
                      have hB4:=hB.far (p:=⟨gb,go+q,none⟩) (by show ab≠gb;omega) (.int .u32 (hv.toList.getD q 0+(⟨xa,xb,xc,xd,xe,xf,xg,xh⟩:Sha.V8).toList.getD q 0).toNat)
                      have hm4:=hm.setCell (p:=⟨gb,go+q,none⟩) (Own.apart hm hk.2.1 (by decide) |> fun h=>fun e=>h gb (by simpa using e) rfl) (.int .u32 (hv.toList.getD q 0+(⟨xa,xb,xc,xd,xe,xf,xg,xh⟩:Sha.V8).toList.getD q 0).toNat)
                      have hx4:=hx.setCell (p:=⟨gb,go+q,none⟩) ((hk.2.1.lt gb rfl).1) (.int .u32 (hv.toList.getD q 0+(⟨xa,xb,xc,xd,xe,xf,xg,xh⟩:Sha.V8).toList.getD q 0).toNat)
                      rw [mixW_set hv ⟨xa,xb,xc,xd,xe,xf,xg,xh⟩ q hlt8] at hk4
                      have HS:Hid (IntKind.u32.wrap ((hv.toList.getD q 0).toNat+((⟨xa,xb,xc,xd,xe,xf,xg,xh⟩:Sha.V8).toList.getD q 0).toNat)=((hv.toList.getD q 0+(⟨xa,xb,xc,xd,xe,xf,xg,xh⟩:Sha.V8).toList.getD q 0).toNat:Int)):=Lib.hid (wadd32 _ _)
                      generalize hv.toList.getD q 0=vi at *
                      generalize (⟨xa,xb,xc,xd,xe,xf,xg,xh⟩:Sha.V8).toList.getD q 0=xi at *
                      go_wp2_with fail
                      rw [add32]
                      go_roundg (gk-1)
                      case measure=>omega
                      case rel=>exact ⟨q+1,by omega,by go_num,hk4,hm4,hB4,hx4⟩
                    · skip
                      have hq8:q=8:=by omega
                      subst hq8
                      have hk5:KH wr w.heap.size (.slice (some ⟨kb,ko,none⟩) 64 ck) (.slice (some ⟨gb,go,none⟩) 8 ch) (Sha.hAt m (i+1)).toList:=by rw [HN3.out];exact hk
                      have hp1:Hid (p+64=64*(i+1)):=Lib.hid (by rw [hp.out];omega)
                      clear HN3 hk
                      go_wp2_with fail
                      go_roundg (gk3-1)
                      case measure=>omega
                      case rel=>exact ⟨i+1,p+64,by omega,hp1,by go_num,hm,hk5,hx⟩
           · as_aux_lemma =>
             have hin2:i=n:=by omega
             have hpn:=hp.out
             have hnn:=HN.out
             have hpB:decide (p<m.length)=false:=by simp;omega
             have hpC:decide ((p:Int)<(m.length:Int))=false:=by simp;omega
             clear hpn hnn
             subst hin2
             have hsum:=HSUM.out
             generalize Sha.hAt m i=v at *
             have HS2:=Lib.hid hsum
             clear hsum HSUM hlt
             obtain ⟨gb,go,gc,hhv,_,hhw,hhn,hhmx,hhcell⟩:=hkh.2.1.form (by decide)
             injection hhv with e1 e2 e3
             subst e1 e3
             have hu0:=Own.nil_ wr w.heap.size 5 1
             clear hhcell hm
             generalize gk=gk3 at *
             go_wp2_with fail
             generalize wr=wr3 at *
             go_loopg [34,284] 8 (fun k u c wr=>∃ q:Nat,q+k=8/\c = .int .i64 (q:Int)/\Own wr w.heap.size 5 1 u (4*q) (((v.toList.take q).flatMap Sha.be32).map bv)/\KH wr w.heap.size (.slice Ak 64 ck) (.slice (some ⟨gb,go,none⟩) 8 ch) v.toList/\Below w.heap.size w wr)
             case atStart=>exact ⟨0,rfl,rfl,hu0,hkh,hx⟩
             case round =>
              clear hu0 hkh hx
              obtain ⟨q,hq,rfl,hu,hkh,hx⟩:=hrel
              by_cases hlt9:q<8
              · skip
                have hltB:(q:Int)<8:=by omega
                have hq7:q<=7:=by omega
                obtain ⟨ch1,_⟩:=hkh.2.1.at_ (j:=q) (u:=uv (v.toList.getD q 0)) (V8_at v q hlt9)
                have ch2:wr.cell? ⟨gb,go+q,none⟩=some (.int .u32 (v.toList.getD q 0).toNat):=ch1
                have hnx:=flat_next v q hlt9
                have HNX:=Lib.hid hnx
                generalize v.toList.getD q 0=x at *
                clear hnx ch1
                generalize gk=gk8 at *
                go_wp2_with fail
                generalize wr=wr4 at *
                generalize List.flatMap Sha.be32 (List.take q v.toList)=pre at *
                go_loopg [34,37] 4 (fun k u c wr=>∃ j:Nat,j+k=4/\c = .int .i64 (3-(j:Int))/\Own wr w.heap.size 5 1 u (4*q+j) ((pre++(Sha.be32 x).take j).map bv)/\KH wr w.heap.size (.slice Ak 64 ck) (.slice (some ⟨gb,go,none⟩) 8 ch) v.toList/\Below w.heap.size w wr)
                case atStart=>exact ⟨0,rfl,rfl,by simpa using hu,hkh,hx⟩
                case round =>
                 clear hu hkh hx ch2
                 obtain ⟨j,hj,rfl,hm,hkh,hx⟩:=hrel
                 obtain ⟨A2,c2,hv2,hac2,hcm2⟩:=hm.shape
                 subst hv2
                 by_cases hlt:j<4
                 · as_aux_lemma =>
                   have hge:(0:Int)<=3-(j:Int):=by omega
                   have hg8:(0:Int)<=8*(3-(j:Int)):=by omega
                   have ht8:(8*(3-(j:Int))).toNat=24-8*j:=by omega
                   have hw8:IntKind.i64.wrap (8*(3-(j:Int)))=8*(3-(j:Int)):=IntWalk.i64_in _ (by omega)
                   have hb8:(Sha.be32 x).length=4:=rfl
                   have hnext:(Sha.be32 x).take (j+1)=(Sha.be32 x).take j++[(Sha.be32 x).getD j 0]:=by
                    rw [List.take_succ_eq_append_getElem (by omega),List.getD_eq_getElem?_getD,List.getElem?_eq_getElem (by omega)];rfl
                   have hbyte:=be32_at x j hlt
                   generalize Sha.be32 x=be at *
                   generalize be.getD j 0=bj at *
                   have hsrc:=SlAt.new wr 5 [.int .u8 ((x.toNat:Int) / 2 ^ (24-8*j) % 256)] 1 rfl (by decide)
                   have hmA:=hm.alloc (.cells #[.int .u8 ((x.toNat:Int) / 2 ^ (24-8*j) % 256)] 5)
                   have hkA:=hkh.alloc (.cells #[.int .u8 ((x.toNat:Int) / 2 ^ (24-8*j) % 256)] 5)
                   have hxA:=hx.alloc hx.size (.cells #[.int .u8 ((x.toNat:Int) / 2 ^ (24-8*j) % 256)] 5)
                   have HB:=Lib.hid hbyte
                   have HNB:=Lib.hid hnext
                   clear hbyte hnext hb8
                   go_wp2_with (at_builtin
                                refine wpList_append_Own _ rfl (.tmp 292) (.tmp 298) 22 rfl w.heap.size 5 i8 _ 1 1 Try.underlying22 hi8 hy0 hy1 hy2 rfl (by omega) _ _ _ rfl hmA _ _ _ _ rfl hsrc (by simp [Value.oneCell']) (by simp only [maxLen];omega) (by omega) (by simp;have:=hx.size;omega) ?_
                                intro v1 w1 hm1 hgr1 hat1
                                have hx2:Below w.heap.size w w1:=hxA.grown hgr1 hxA.size (fun k hk=>(hmA.lt k hk).1)
                                have hk1:=hkA.bytes hmA hgr1)
                   go_roundg (gk-1)
                   case measure=>omega
                   case rel =>
                    refine ⟨j+1,by omega,by go_num,?_,hk1,hx2⟩
                    rw [HNB.out,<-List.append_assoc,List.map_append]
                    rw [HB.out] at hm1
                    exact hm1
                 · skip
                   have hj4:j=4:=by omega
                   subst hj4
                   have hm5:Own wr w.heap.size 5 1 (.slice A2 (4*q+4) c2) (4*(q+1)) (((v.toList.take (q+1)).flatMap Sha.be32).map bv):=by
                    rw [HNX.out];exact hm
                   clear hm HNX
                   go_wp2_with fail
                   go_roundg (gk8-1)
                   case measure=>omega
                   case rel=>exact ⟨q+1,by omega,by go_num,hm5,hkh,hx⟩
              · skip
                have hq8:q=8:=by omega
                subst hq8
                go_wp2_with fail
                go_ret
                refine ⟨_,rfl,?_,hx⟩
                rw [HS2.out]
                exact hu
end Go.Proofs.Ytfdibjgmbdkbcaa
