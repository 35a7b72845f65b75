/-
  THE WALK of yearref4.Tokens. Conditions: what is read is bytes.
-/
import Derived.Test.YtfdibjgmbdkbcaaYPk5
namespace Go.Proofs.Ytfdibjgmbdkbcaa
open Go.RowKit Go.Lib
def tokC (c:UInt8) (p:Nat × Nat):Pk.Tok:=if p.1<3 then Pk.lit c else Pk.cp p.1 p.2
def tokCells (t:Pk.Tok):Array Value:=#[.int .i64 t.len,.int .i64 t.back,.int .u8 (t.byte.toNat:Int)]
theorem tokC_at (b:Bs) (pos:Nat):Pk.tokAt b pos=tokC (b.getD pos 0) (Pk.longest b pos):=rfl
theorem tokC_len (c:UInt8) (p:Nat × Nat):(tokC c p).len=if p.1<3 then 0 else (p.1:Int):=by
 unfold tokC;split<;>rfl
theorem tokC_short {c:UInt8} {b:Bs} {pos j:Nat} (h:Pk.mlen b pos (j+1)<3):tokC c (Pk.best b pos (j+1))=tokC c (Pk.best b pos j):=by
 rw [Pk.best]
 split
 · unfold tokC
   rw [if_pos h,if_pos (by omega)]
 · rfl
theorem tokC_up {c:UInt8} {b:Bs} {pos j n:Nat} (hn:n=Pk.mlen b pos (j+1)) (h3:3<=n) (h:(tokC c (Pk.best b pos j)).len<(n:Int)):tokC c (Pk.best b pos (j+1))=Pk.cp n (j+1):=by
 subst hn
 rw [tokC_len] at h
 have hlt:(Pk.best b pos j).1<Pk.mlen b pos (j+1):=by
  split at h
  · omega
  · omega
 rw [Pk.best,if_pos hlt]
 unfold tokC
 rw [if_neg (by omega)]
theorem tokC_keep {c:UInt8} {b:Bs} {pos j n:Nat} (hn:n=Pk.mlen b pos (j+1)) (h3:3<=n) (h:¬ (tokC c (Pk.best b pos j)).len<(n:Int)):tokC c (Pk.best b pos (j+1))=tokC c (Pk.best b pos j):=by
 subst hn
 rw [tokC_len] at h
 have hlt:¬ (Pk.best b pos j).1<Pk.mlen b pos (j+1):=by
  split at h
  · omega
  · omega
 rw [Pk.best,if_neg hlt]
set_option maxRecDepth 100000 in
set_option maxHeartbeats 4000000 in
theorem rtokens_any (w:World) (F:Nat->Prop) (v:Value) (b:Bs) (hb:Bytes w F v b) (hlen:b.length<=4000) :
 Calls Try.prog 17 #[v] w fun e w'=>∃ v,e = .returned (.tuple #[v,.int .i64 0])/\OwnT w' w.heap.size v (Pk.toks b)/\Below w.heap.size w w':=by
 obtain ⟨i0,hi,hz0_,hz1_,hz2_⟩:=info_parts info_tok
 obtain ⟨A,c,hv,hac,hcm⟩:=hb.form'
 subst hv
 unfold maxLen at hcm
 have hB:decide ((4000:Int)<(b.length:Int))=false:=by simp;omega
 obtain ⟨K,HK⟩:∃ K,Hid (K=Pk.toks b):=⟨_,Lib.hid rfl⟩
 rw [<-HK.out]
 go_enter Try.func17,Try.ntmps17
 go_wp2_with fail
 go_loopg [4,5] b.length (fun k v i wr=>∃ (pos:Nat) (T:List Pk.Tok),pos+k=b.length/\i = .int .i64 (pos:Int)/\Hid (T++Pk.toksF b b.length pos=K)/\T.length<=pos/\OwnT wr w.heap.size v T/\Below w.heap.size w wr)
 case atStart=>exact ⟨0,[],by omega,rfl,Lib.hid (by rw [HK.out];rfl),by simp,OwnR.nil_ _ _ _ _ _,Below.refl _ _⟩
 case round =>
  obtain ⟨pos,T,hp,rfl,HT,hTl,hown0,hx⟩:=hrel
  obtain ⟨xs,hown,hin⟩:=hown0.open_
  obtain ⟨A1,c1,hv1,hac1,hcm1⟩:=hown0.shape
  subst hv1
  by_cases hlt:pos<b.length
  · have hltB:(pos:Int)<(b.length:Int):=by omega
    have hsp:=Pk.step_in b pos hlt
    have hs1:=Pk.step_pos b pos
    have htk:Pk.toksF b b.length pos=Pk.tokAt b pos::Pk.toksF b b.length (pos+Pk.stepAt b pos):=by
     rw [Pk.toksF_fuel b b.length (b.length+1) pos (by omega) (by omega),Pk.toksF_succ,if_pos hlt]
    have hnx:(T++[Pk.tokAt b pos])++Pk.toksF b b.length (pos+Pk.stepAt b pos)=K:=by rw [List.append_assoc,List.singleton_append,<-htk,HT.out]
    have hLe:=Pk.longest_le b pos
    have hsa:Pk.stepAt b pos=if (Pk.longest b pos).1<3 then 1 else (Pk.longest b pos).1:=rfl
    have hta:=tokC_at b pos
    have htl:=tokC_len (b.getD pos 0) (Pk.longest b pos)
    rw [<-hta] at htl
    obtain ⟨q,off,hA,hq,hcell⟩:∃ q off,A=some ⟨q,off,none⟩/\q<w.heap.size/\∀ i,i<b.length->w.cell? ⟨q,off+i,none⟩=some (.int .u8 ((b.getD i 0).toNat:Int)):=by
     obtain ⟨A',c',hv,_,_,_,h⟩:=hb
     injection hv with e1 e2 e3
     subst e1
     obtain ⟨q,off,h,_,hq,hcc⟩:=h (by omega)
     exact ⟨q,off,h,hq,fun i hi=>hcc i (bv (b.getD i 0)) (by rw [List.getElem?_map,List.getElem?_eq_getElem hi,getD_at hi];rfl)⟩
    subst hA
    have HC:=Lib.hid hcell
    have hc0:=(hx.cell (p:=⟨q,off+pos,none⟩) hq).trans (hcell pos hlt)
    have HSA:=Lib.hid hsa
    have HTA:=Lib.hid hta
    have HTL:=Lib.hid htl
    have HNX:=Lib.hid hnx
    obtain ⟨J,hJe⟩:∃ J,Hid (J=min pos 1024):=⟨_,Lib.hid rfl⟩
    have hJ1:J<=pos:=by rw [hJe.out];omega
    have hJ2:J<=1024:=by rw [hJe.out];omega
    have hJ3:J=pos\/J=1024:=by rw [hJe.out];omega
    have HLO:Hid (Pk.longest b pos=Pk.best b pos J):=Lib.hid (by rw [hJe.out];rfl)
    obtain ⟨ch,hch⟩:∃ x,b.getD pos 0=x:=⟨_,rfl⟩
    rw [hch] at hc0
    have HCH:=Lib.hid hch
    clear hcell hsa hta htl hnx htk hch
    obtain ⟨t0,ht0⟩:∃ t,t=tokC ch (Pk.best b pos 0):=⟨_,rfl⟩
    have hg0:Blk (wr.alloc (.cells #[.int .i64 0,.int .i64 0,.int .u8 (ch.toNat:Int)] 126)) wr.heap.size 126 (tokCells (tokC ch (Pk.best b pos 0))):=heap_alloc_new wr _
    have hx0:=hx.alloc hx.size (.cells #[.int .i64 0,.int .i64 0,.int .u8 (ch.toNat:Int)] 126)
    have ho0:=hown.alloc (.cells #[.int .i64 0,.int .i64 0,.int .u8 (ch.toNat:Int)] 126)
    have hgw:w.heap.size<=wr.heap.size:=hx.size
    have hrow:∀ k,(Value.slice A1 T.length c1).ownBlock=some k->k<wr.heap.size:=fun k hk=>(hown.lt k hk).2
    have hqg:q<wr.heap.size:=by omega
    have hxr:=hx
    clear ht0 t0
    go_wp2_with fail
    generalize wr.alloc _=w1 at *
    generalize wr.heap.size=g at *
    generalize gk=gk0 at *
    generalize wr=wr0 at *
    go_loopg [7] J (fun k f wr=>∃ (j:Nat) (z:Int),j+k=J/\f = .int .i64 z/\Hid (z=(pos:Int)-1-(j:Int))/\Blk wr g 126 (tokCells (tokC ch (Pk.best b pos j)))/\Ch (fun k=>k=g) w1 wr)
    case atStart=>exact ⟨0,_,by omega,rfl,Lib.hid (by omega),hg0,Ch.refl _ _⟩
    case round =>
     obtain ⟨j,z,hj,rfl,HZ,hg,hch⟩:=hrel
     have hzv:=HZ.out
     by_cases hjJ:j<J
     · have z1:(0:Int)<=z:=by omega
       have z2:(pos:Int)-z<=1024:=by omega
       have z3:z<(pos:Int):=by omega
       have hchr:=hch
       generalize gk=gk1 at *
       clear hzv
       go_wp2_with fail
       generalize wr=w2 at *
       go_loopg [8] 66 (fun k x wr=>∃ n m2:Nat,n+k=66/\x = .int .i64 (n:Int)/\Hid (Pk.mgo b pos (j+1) (66-n) n=Pk.mlen b pos (j+1))/\wr=w2.drewN m2)
       case atStart=>exact ⟨0,0,by omega,rfl,Lib.hid rfl,rfl⟩
       case round =>
        obtain ⟨n,m2,hn,rfl,HM,rfl⟩:=hrel
        have hn66:n<=66:=by omega
        have hout:∀ (p:Prop),(p->False)->¬ p:=fun p h=>h
        clear hout
        by_cases c2:pos+n<b.length
        · have c2B:(pos:Int)+(n:Int)<(b.length:Int):=by omega
          by_cases c1:n<66
          · have c1B:(n:Int)<66:=by omega
            have hzv:=HZ.out
            have q1:w2.cell? ⟨q,off+(pos+n),none⟩=some (.int .u8 ((b.getD (pos+n) 0).toNat:Int)) :=
             (World.cell?_of_block (hch.block q (by have:=hx0.size;omega) (by omega))).trans ((hx0.cell (p:=⟨q,off+(pos+n),none⟩) hq).trans (HC.out (pos+n) c2))
            have q2:w2.cell? ⟨q,off+(pos+n-(j+1)),none⟩=some (.int .u8 ((b.getD (pos+n-(j+1)) 0).toNat:Int)) :=
             (World.cell?_of_block (hch.block q (by have:=hx0.size;omega) (by omega))).trans ((hx0.cell (p:=⟨q,off+(pos+n-(j+1)),none⟩) hq).trans (HC.out (pos+n-(j+1)) (by omega)))
            have hst:∀ f,¬ (b.getD (pos+n) 0=b.getD (pos+n-(j+1)) 0)->Pk.mgo b pos (j+1) f n=n:=fun f h=>mgo_stop (fun hh=>h hh.2)
            have hgo:∀ f,b.getD (pos+n) 0=b.getD (pos+n-(j+1)) 0->Pk.mgo b pos (j+1) (f+1) n=Pk.mgo b pos (j+1) f (n+1):=fun f h=>mgo_next ⟨c2,h⟩
            generalize b.getD (pos+n) 0=x1 at *
            generalize b.getD (pos+n-(j+1)) 0=x2 at *
            have HST:=Lib.hid hst
            have HGO:=Lib.hid hgo
            clear hst hgo
            have e3:(0:Int)<=(pos:Int)+(n:Int):=by omega
            have e4:(0:Int)<=z+(n:Int):=by omega
            have e5:z+(n:Int)<(b.length:Int):=by omega
            have e7:(z+(n:Int)).toNat=pos+n-(j+1):=by omega
            have e6:((pos:Int)+(n:Int)).toNat=pos+n:=by omega
            have e1:IntKind.i64.wrap ((pos:Int)+(n:Int))=(pos:Int)+(n:Int):=IntWalk.i64_in _ (by omega)
            have e2:IntKind.i64.wrap (z+(n:Int))=z+(n:Int):=IntWalk.i64_in _ (by omega)
            clear hzv
            by_cases he:x1=x2
            · have heB:((x2.toNat:Int)==(x1.toNat:Int))=true:=u8_beq he.symm
              have hnxt:Hid (Pk.mgo b pos (j+1) (66-(n+1)) (n+1)=Pk.mlen b pos (j+1)):=Lib.hid (by rw [<-HGO.out _ he,show 66-(n+1)+1=66-n by omega,HM.out])
              clear he
              go_wp2_with fail
              go_quiet (fail)
              clear e1 e2 e6 e7
              go_wp2_with fail
              go_roundg (gk-1)
              case measure=>omega
              case rel=>exact ⟨n+1,m2+nq,by omega,by go_num,hnxt,rfl⟩
            · have heB:((x2.toNat:Int)==(x1.toNat:Int))=false:=u8_beq_not (fun h=>he h.symm)
              have HX:Hid (n=Pk.mlen b pos (j+1)):=Lib.hid (by rw [<-HM.out,HST.out _ he])
              clear he
              go_wp2_with fail
              go_quiet (fail)
              clear e1 e2 e6 e7 e3 e4 e5 q1 q2 HST HGO
              try rw [World.drewN_drewN]
              have hgq:=hg.drewN (m2+nq)
              have hchq:=hch.drewN (m2+nq)
              generalize w2.drewN (m2+nq)=wq at *
              have hmB:=HX.out
              by_cases h3:3<=n
              · have h3B:(3:Int)<=(n:Int):=by omega
                by_cases hup:(tokC ch (Pk.best b pos j)).len<(n:Int)
                · have hnew:=tokC_up hmB h3 hup
                  have HNEW:=Lib.hid hnew
                  have hg2:=hgq
                  have hcz:=hchq
                  generalize tokC ch (Pk.best b pos j)=t at *
                  have d0:wq.cell? ⟨g,0,none⟩=some (.int .i64 t.len):=hg2.cell 0
                  have d1:wq.cell? ⟨g,1,none⟩=some (.int .i64 t.back):=hg2.cell 1
                  have d2:wq.cell? ⟨g,2,none⟩=some (.int .u8 (t.byte.toNat:Int)):=hg2.cell 2
                  have f0:=hg2.frozen 0
                  have f1:=hg2.frozen 1
                  have f2:=hg2.frozen 2
                  have hz4:=HZ.out
                  have e9:(pos:Int)-z=(j:Int)+1:=by omega
                  have hgn:=((hg2.set_ 0 (.int .i64 (n:Int))).set_ 1 (.int .i64 ((pos:Int)-z))).set_ 2 (.int .u8 0)
                  have hcn:=((hcz.setCell (p:=⟨g,0,none⟩) (fun _=>rfl) (.int .i64 (n:Int))).setCell (p:=⟨g,1,none⟩) (fun _=>rfl) (.int .i64 ((pos:Int)-z))).setCell (p:=⟨g,2,none⟩) (fun _=>rfl) (.int .u8 0)
                  have E9:=Lib.hid e9
                  clear hmB hz4 e9 hnew
                  go_wp2_with fail
                  go_roundg (gk1-1)
                  case measure=>omega
                  case rel =>
                   refine ⟨j+1,z-1,by omega,by go_num,Lib.hid (by rw [HZ.out];omega),?_,hcn⟩
                   rw [HNEW.out]
                   have h:=hgn
                   rw [show ((((tokCells t).setIfInBounds 0 (.int .i64 (n:Int))).setIfInBounds 1 (.int .i64 ((pos:Int)-z))).setIfInBounds 2 (.int .u8 0))=tokCells (Pk.cp n (j+1)) by rw [E9.out];rfl] at h
                   exact h
                · have hupB:decide ((tokC ch (Pk.best b pos j)).len<(n:Int))=false:=decide_eq_false hup
                  have hnew:=tokC_keep hmB h3 hup
                  have HNEW:=Lib.hid hnew
                  have hg2:=hgq
                  generalize tokC ch (Pk.best b pos j)=t at *
                  have d0:wq.cell? ⟨g,0,none⟩=some (.int .i64 t.len):=hg2.cell 0
                  clear hmB hnew
                  go_wp2_with fail
                  go_roundg (gk1-1)
                  case measure=>omega
                  case rel=>exact ⟨j+1,z-1,by omega,by go_num,Lib.hid (by rw [HZ.out];omega),by rw [HNEW.out];exact hg2,hchq⟩
              · have h3B:decide ((3:Int)<=(n:Int))=false:=decide_eq_false (by omega)
                have hnew:=tokC_short (c:=ch) (b:=b) (pos:=pos) (j:=j) (by omega)
                have HNEW:=Lib.hid hnew
                clear hmB hnew
                go_wp2_with fail
                go_roundg (gk1-1)
                case measure=>omega
                case rel=>exact ⟨j+1,z-1,by omega,by go_num,Lib.hid (by rw [HZ.out];omega),by rw [HNEW.out];exact hgq,hchq⟩
          · have c1B:decide ((n:Int)<66)=false:=by simp;omega
            have HX:Hid (n=Pk.mlen b pos (j+1)):=Lib.hid (by rw [<-HM.out,show 66-n=0 by omega];rfl)
            have e1:IntKind.i64.wrap ((pos:Int)+(n:Int))=(pos:Int)+(n:Int):=IntWalk.i64_in _ (by omega)
            go_wp2_with fail
            go_quiet (fail)
            clear e1
            try rw [World.drewN_drewN]
            have hgq:=hg.drewN (m2+nq)
            have hchq:=hch.drewN (m2+nq)
            generalize w2.drewN (m2+nq)=wq at *
            have hmB:=HX.out
            by_cases h3:3<=n
            · have h3B:(3:Int)<=(n:Int):=by omega
              by_cases hup:(tokC ch (Pk.best b pos j)).len<(n:Int)
              · have hnew:=tokC_up hmB h3 hup
                have HNEW:=Lib.hid hnew
                have hg2:=hgq
                have hcz:=hchq
                generalize tokC ch (Pk.best b pos j)=t at *
                have d0:wq.cell? ⟨g,0,none⟩=some (.int .i64 t.len):=hg2.cell 0
                have d1:wq.cell? ⟨g,1,none⟩=some (.int .i64 t.back):=hg2.cell 1
                have d2:wq.cell? ⟨g,2,none⟩=some (.int .u8 (t.byte.toNat:Int)):=hg2.cell 2
                have f0:=hg2.frozen 0
                have f1:=hg2.frozen 1
                have f2:=hg2.frozen 2
                have hz4:=HZ.out
                have e9:(pos:Int)-z=(j:Int)+1:=by omega
                have hgn:=((hg2.set_ 0 (.int .i64 (n:Int))).set_ 1 (.int .i64 ((pos:Int)-z))).set_ 2 (.int .u8 0)
                have hcn:=((hcz.setCell (p:=⟨g,0,none⟩) (fun _=>rfl) (.int .i64 (n:Int))).setCell (p:=⟨g,1,none⟩) (fun _=>rfl) (.int .i64 ((pos:Int)-z))).setCell (p:=⟨g,2,none⟩) (fun _=>rfl) (.int .u8 0)
                have E9:=Lib.hid e9
                clear hmB hz4 e9 hnew
                go_wp2_with fail
                go_roundg (gk1-1)
                case measure=>omega
                case rel =>
                 refine ⟨j+1,z-1,by omega,by go_num,Lib.hid (by rw [HZ.out];omega),?_,hcn⟩
                 rw [HNEW.out]
                 have h:=hgn
                 rw [show ((((tokCells t).setIfInBounds 0 (.int .i64 (n:Int))).setIfInBounds 1 (.int .i64 ((pos:Int)-z))).setIfInBounds 2 (.int .u8 0))=tokCells (Pk.cp n (j+1)) by rw [E9.out];rfl] at h
                 exact h
              · have hupB:decide ((tokC ch (Pk.best b pos j)).len<(n:Int))=false:=decide_eq_false hup
                have hnew:=tokC_keep hmB h3 hup
                have HNEW:=Lib.hid hnew
                have hg2:=hgq
                generalize tokC ch (Pk.best b pos j)=t at *
                have d0:wq.cell? ⟨g,0,none⟩=some (.int .i64 t.len):=hg2.cell 0
                clear hmB hnew
                go_wp2_with fail
                go_roundg (gk1-1)
                case measure=>omega
                case rel=>exact ⟨j+1,z-1,by omega,by go_num,Lib.hid (by rw [HZ.out];omega),by rw [HNEW.out];exact hg2,hchq⟩
            · have h3B:decide ((3:Int)<=(n:Int))=false:=decide_eq_false (by omega)
              have hnew:=tokC_short (c:=ch) (b:=b) (pos:=pos) (j:=j) (by omega)
              have HNEW:=Lib.hid hnew
              clear hmB hnew
              go_wp2_with fail
              go_roundg (gk1-1)
              case measure=>omega
              case rel=>exact ⟨j+1,z-1,by omega,by go_num,Lib.hid (by rw [HZ.out];omega),by rw [HNEW.out];exact hgq,hchq⟩
        · have c2B:decide ((pos:Int)+(n:Int)<(b.length:Int))=false:=by simp;omega
          have HX:Hid (n=Pk.mlen b pos (j+1)):=Lib.hid (by rw [<-HM.out,mgo_stop (fun hh=>c2 hh.1)])
          have e1:IntKind.i64.wrap ((pos:Int)+(n:Int))=(pos:Int)+(n:Int):=IntWalk.i64_in _ (by omega)
          go_wp2_with fail
          go_quiet (fail)
          clear e1
          try rw [World.drewN_drewN]
          have hgq:=hg.drewN (m2+nq)
          have hchq:=hch.drewN (m2+nq)
          generalize w2.drewN (m2+nq)=wq at *
          have hmB:=HX.out
          by_cases h3:3<=n
          · have h3B:(3:Int)<=(n:Int):=by omega
            by_cases hup:(tokC ch (Pk.best b pos j)).len<(n:Int)
            · have hnew:=tokC_up hmB h3 hup
              have HNEW:=Lib.hid hnew
              have hg2:=hgq
              have hcz:=hchq
              generalize tokC ch (Pk.best b pos j)=t at *
              have d0:wq.cell? ⟨g,0,none⟩=some (.int .i64 t.len):=hg2.cell 0
              have d1:wq.cell? ⟨g,1,none⟩=some (.int .i64 t.back):=hg2.cell 1
              have d2:wq.cell? ⟨g,2,none⟩=some (.int .u8 (t.byte.toNat:Int)):=hg2.cell 2
              have f0:=hg2.frozen 0
              have f1:=hg2.frozen 1
              have f2:=hg2.frozen 2
              have hz4:=HZ.out
              have e9:(pos:Int)-z=(j:Int)+1:=by omega
              have hgn:=((hg2.set_ 0 (.int .i64 (n:Int))).set_ 1 (.int .i64 ((pos:Int)-z))).set_ 2 (.int .u8 0)
              have hcn:=((hcz.setCell (p:=⟨g,0,none⟩) (fun _=>rfl) (.int .i64 (n:Int))).setCell (p:=⟨g,1,none⟩) (fun _=>rfl) (.int .i64 ((pos:Int)-z))).setCell (p:=⟨g,2,none⟩) (fun _=>rfl) (.int .u8 0)
              have E9:=Lib.hid e9
              clear hmB hz4 e9 hnew
              go_wp2_with fail
              go_roundg (gk1-1)
              case measure=>omega
              case rel =>
               refine ⟨j+1,z-1,by omega,by go_num,Lib.hid (by rw [HZ.out];omega),?_,hcn⟩
               rw [HNEW.out]
               have h:=hgn
               rw [show ((((tokCells t).setIfInBounds 0 (.int .i64 (n:Int))).setIfInBounds 1 (.int .i64 ((pos:Int)-z))).setIfInBounds 2 (.int .u8 0))=tokCells (Pk.cp n (j+1)) by rw [E9.out];rfl] at h
               exact h
            · have hupB:decide ((tokC ch (Pk.best b pos j)).len<(n:Int))=false:=decide_eq_false hup
              have hnew:=tokC_keep hmB h3 hup
              have HNEW:=Lib.hid hnew
              have hg2:=hgq
              generalize tokC ch (Pk.best b pos j)=t at *
              have d0:wq.cell? ⟨g,0,none⟩=some (.int .i64 t.len):=hg2.cell 0
              clear hmB hnew
              go_wp2_with fail
              go_roundg (gk1-1)
              case measure=>omega
              case rel=>exact ⟨j+1,z-1,by omega,by go_num,Lib.hid (by rw [HZ.out];omega),by rw [HNEW.out];exact hg2,hchq⟩
          · have h3B:decide ((3:Int)<=(n:Int))=false:=decide_eq_false (by omega)
            have hnew:=tokC_short (c:=ch) (b:=b) (pos:=pos) (j:=j) (by omega)
            have HNEW:=Lib.hid hnew
            clear hmB hnew
            go_wp2_with fail
            go_roundg (gk1-1)
            case measure=>omega
            case rel=>exact ⟨j+1,z-1,by omega,by go_num,Lib.hid (by rw [HZ.out];omega),by rw [HNEW.out];exact hgq,hchq⟩
     · have hjJ2:j=J:=by omega
       have HB2:Hid (tokC ch (Pk.best b pos j)=Pk.tokAt b pos):=Lib.hid (by rw [HTA.out,HLO.out,HCH.out,hjJ2])
       have hend:z<0\/(0<=z/\1024<(pos:Int)-z):=by omega
       have hg2:Blk wr g 126 (tokCells (Pk.tokAt b pos)):=by rw [<-HB2.out];exact hg
       have hlt2:w1.heap.size<=wr.heap.size:=hch.size
       have hown2:=ho0.ch hch (fun k hk _ e=>by have:=hrow k hk;omega)
       have hxx:Below w.heap.size w wr:=hx0.trans (b:=w1) ⟨hch.os,hch.tape,hch.output,hch.size,fun k hk=>hch.block k (by have:=hx0.size;omega) (by omega)⟩
       clear hg hzv hjJ hjJ2
       generalize Pk.tokAt b pos=tk at *
       obtain ⟨tl,tb,tby⟩:=tk
       have htl:=HTL.out
       have hs0:=HSA.out
       by_cases h3:(Pk.longest b pos).1<3
       · rw [if_pos h3] at htl hs0
         have htl':tl=0:=htl
         subst htl'
         have HS0:=Lib.hid hs0
         clear htl hs0 h3
         have d0:wr.cell? ⟨g,0,none⟩=some (.int .i64 0):=hg2.cell 0
         have d1:wr.cell? ⟨g,1,none⟩=some (.int .i64 tb):=hg2.cell 1
         have d2:wr.cell? ⟨g,2,none⟩=some (.int .u8 (tby.toNat:Int)):=hg2.cell 2
         have hsrc3:=SlAt.new3 wr 126 (.int .i64 0) (.int .i64 tb) (.int .u8 (tby.toNat:Int))
         have hownA:=hown2.alloc (.cells #[.int .i64 0,.int .i64 tb,.int .u8 (tby.toNat:Int)] 126)
         have hxA:=hxx.alloc hxx.size (.cells #[.int .i64 0,.int .i64 tb,.int .u8 (tby.toNat:Int)] 126)
         have hgA:=hg2.alloc (.cells #[.int .i64 0,.int .i64 tb,.int .u8 (tby.toNat:Int)] 126)
         have hneA:(Value.slice A1 T.length c1).ownBlock≠some g:=fun e=>by have:=hrow g e;omega
         have hgw2:=hxx.size
         rcases hend with hz0 | ⟨hz0,hz1⟩
         · have zB:decide ((0:Int)<=z)=false:=decide_eq_false (by omega)
           go_wp2_with (at_builtin
                        refine wpList_append_Own _ (by rfl) (.tmp 73) (.tmp 75) 26 (by rfl) w.heap.size 126 i0 _ 3 24 Try.underlying26 hi hz0_ hz1_ hz2_ (by rfl) (by omega) (.slice A1 T.length c1) T.length xs (by rfl) hownA _ _ _ _ (by rfl) hsrc3 (by simp [Value.oneCell']) (by simp only [maxLen];omega) (by omega) (by simp;have:=hxx.size;omega) ?_
                        intro v2 w2 hown3 hgr2 hat2
                        have hx2:Below w.heap.size w w2:=hxA.grown hgr2 hxA.size (fun k hk=>(hownA.lt k hk).1)
                        have hg3:=hgA.keep (hgr2.block _ hgA.lt (fun e=>hneA e.symm))
                        have d3:w2.cell? ⟨g,0,none⟩=some (.int .i64 0):=hg3.cell 0)
           have hT3:=OwnT.snoc ⟨0,tb,tby⟩ hin hown.1 hown3
           go_wp2_with fail
           go_roundg (gk0-1)
           case measure=>omega
           case rel=>exact ⟨pos+1,T++[⟨0,tb,tby⟩],by omega,by go_num,by have h:=HNX.out;rw [HS0.out] at h;exact Lib.hid h,by simp;omega,hT3,hx2⟩
         · have zB:(0:Int)<=z:=hz0
           have zB2:decide ((pos:Int)-z<=1024)=false:=decide_eq_false (by omega)
           go_wp2_with (at_builtin
                        refine wpList_append_Own _ (by rfl) (.tmp 73) (.tmp 75) 26 (by rfl) w.heap.size 126 i0 _ 3 24 Try.underlying26 hi hz0_ hz1_ hz2_ (by rfl) (by omega) (.slice A1 T.length c1) T.length xs (by rfl) hownA _ _ _ _ (by rfl) hsrc3 (by simp [Value.oneCell']) (by simp only [maxLen];omega) (by omega) (by simp;have:=hxx.size;omega) ?_
                        intro v2 w2 hown3 hgr2 hat2
                        have hx2:Below w.heap.size w w2:=hxA.grown hgr2 hxA.size (fun k hk=>(hownA.lt k hk).1)
                        have hg3:=hgA.keep (hgr2.block _ hgA.lt (fun e=>hneA e.symm))
                        have d3:w2.cell? ⟨g,0,none⟩=some (.int .i64 0):=hg3.cell 0)
           have hT3:=OwnT.snoc ⟨0,tb,tby⟩ hin hown.1 hown3
           go_wp2_with fail
           go_roundg (gk0-1)
           case measure=>omega
           case rel=>exact ⟨pos+1,T++[⟨0,tb,tby⟩],by omega,by go_num,by have h:=HNX.out;rw [HS0.out] at h;exact Lib.hid h,by simp;omega,hT3,hx2⟩
       · rw [if_neg h3] at htl hs0
         rw [hs0] at hsp
         generalize (Pk.longest b pos).1=lx at *
         have htl':tl=(lx:Int):=htl
         subst htl'
         have HS0:=Lib.hid hs0
         have hlB:((lx:Int)==0)=false:=by rw [beq_eq_false_iff_ne];omega
         clear htl hs0
         have d0:wr.cell? ⟨g,0,none⟩=some (.int .i64 (lx:Int)):=hg2.cell 0
         have d1:wr.cell? ⟨g,1,none⟩=some (.int .i64 tb):=hg2.cell 1
         have d2:wr.cell? ⟨g,2,none⟩=some (.int .u8 (tby.toNat:Int)):=hg2.cell 2
         have hsrc3:=SlAt.new3 wr 126 (.int .i64 (lx:Int)) (.int .i64 tb) (.int .u8 (tby.toNat:Int))
         have hownA:=hown2.alloc (.cells #[.int .i64 (lx:Int),.int .i64 tb,.int .u8 (tby.toNat:Int)] 126)
         have hxA:=hxx.alloc hxx.size (.cells #[.int .i64 (lx:Int),.int .i64 tb,.int .u8 (tby.toNat:Int)] 126)
         have hgA:=hg2.alloc (.cells #[.int .i64 (lx:Int),.int .i64 tb,.int .u8 (tby.toNat:Int)] 126)
         have hneA:(Value.slice A1 T.length c1).ownBlock≠some g:=fun e=>by have:=hrow g e;omega
         have hgw2:=hxx.size
         rcases hend with hz0 | ⟨hz0,hz1⟩
         · have zB:decide ((0:Int)<=z)=false:=decide_eq_false (by omega)
           go_wp2_with (at_builtin
                        refine wpList_append_Own _ (by rfl) (.tmp 73) (.tmp 75) 26 (by rfl) w.heap.size 126 i0 _ 3 24 Try.underlying26 hi hz0_ hz1_ hz2_ (by rfl) (by omega) (.slice A1 T.length c1) T.length xs (by rfl) hownA _ _ _ _ (by rfl) hsrc3 (by simp [Value.oneCell']) (by simp only [maxLen];omega) (by omega) (by simp;have:=hxx.size;omega) ?_
                        intro v2 w2 hown3 hgr2 hat2
                        have hx2:Below w.heap.size w w2:=hxA.grown hgr2 hxA.size (fun k hk=>(hownA.lt k hk).1)
                        have hg3:=hgA.keep (hgr2.block _ hgA.lt (fun e=>hneA e.symm))
                        have d3:w2.cell? ⟨g,0,none⟩=some (.int .i64 (lx:Int)):=hg3.cell 0)
           have hT3:=OwnT.snoc ⟨(lx:Int),tb,tby⟩ hin hown.1 hown3
           go_wp2_with fail
           go_roundg (gk0-lx)
           case measure=>omega
           case rel=>exact ⟨pos+lx,T++[⟨(lx:Int),tb,tby⟩],by omega,by go_num,by have h:=HNX.out;rw [HS0.out] at h;exact Lib.hid h,by simp;omega,hT3,hx2⟩
         · have zB:(0:Int)<=z:=hz0
           have zB2:decide ((pos:Int)-z<=1024)=false:=decide_eq_false (by omega)
           go_wp2_with (at_builtin
                        refine wpList_append_Own _ (by rfl) (.tmp 73) (.tmp 75) 26 (by rfl) w.heap.size 126 i0 _ 3 24 Try.underlying26 hi hz0_ hz1_ hz2_ (by rfl) (by omega) (.slice A1 T.length c1) T.length xs (by rfl) hownA _ _ _ _ (by rfl) hsrc3 (by simp [Value.oneCell']) (by simp only [maxLen];omega) (by omega) (by simp;have:=hxx.size;omega) ?_
                        intro v2 w2 hown3 hgr2 hat2
                        have hx2:Below w.heap.size w w2:=hxA.grown hgr2 hxA.size (fun k hk=>(hownA.lt k hk).1)
                        have hg3:=hgA.keep (hgr2.block _ hgA.lt (fun e=>hneA e.symm))
                        have d3:w2.cell? ⟨g,0,none⟩=some (.int .i64 (lx:Int)):=hg3.cell 0)
           have hT3:=OwnT.snoc ⟨(lx:Int),tb,tby⟩ hin hown.1 hown3
           go_wp2_with fail
           go_roundg (gk0-lx)
           case measure=>omega
           case rel=>exact ⟨pos+lx,T++[⟨(lx:Int),tb,tby⟩],by omega,by go_num,by have h:=HNX.out;rw [HS0.out] at h;exact Lib.hid h,by simp;omega,hT3,hx2⟩
  · have hltB:decide ((pos:Int)<(b.length:Int))=false:=by simp;omega
    have hT:T=K:=by
     have:=HT.out
     rw [Pk.toksF_fuel b b.length 0 pos (by omega) (by omega)] at this
     simpa [Pk.toksF] using this
    have HTK:=Lib.hid hT
    clear hT
    go_wp2_with fail
    go_ret2
    exact ⟨_,rfl,by rw [<-HTK.out];exact hown0,hx⟩
end Go.Proofs.Ytfdibjgmbdkbcaa
