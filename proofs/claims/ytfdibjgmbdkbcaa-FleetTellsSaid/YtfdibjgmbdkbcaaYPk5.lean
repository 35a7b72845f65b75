/-
  THE WALK of pack.longest. Conditions: what is read is bytes, 4000 of them at most. THE WALK of pack.Tokens. Conditions: what is read is bytes. THE WALK of pack.Text. Conditions: what is read is tokens. THE WALK of (*pack.taker).one. Conditions: the taker's bytes lie elsewhere. THE WALK of pack.Unpack. Conditions: what is read is bytes.
-/
import Derived.WalkLawsBesides
import Derived.Test.YtfdibjgmbdkbcaaYGc
import Derived.Test.YtfdibjgmbdkbcaaYRepr
import Derived.Test.YtfdibjgmbdkbcaaYSt
import Derived.Test.YtfdibjgmbdkbcaaYGe
namespace Go.Proofs.Ytfdibjgmbdkbcaa
open Go.RowKit Go.Lib
attribute [local go_sem ↓] Go.wp_at_zero Go.wp_at_succ
theorem getD_at {b:Bs} {i:Nat} (h:i<b.length):b[i]=b.getD i 0:=by rw [List.getD_eq_getElem?_getD,List.getElem?_eq_getElem h];rfl
theorem mgo_stop {b:Bs} {pos back f n:Nat} (h:¬ (pos+n<b.length/\b.getD (pos+n) 0=b.getD (pos+n-back) 0)):Pk.mgo b pos back f n=n:=by
 cases f with
 | zero=>rfl
 | succ f=>unfold Pk.mgo;rw [if_neg h]
theorem mgo_next {b:Bs} {pos back f n:Nat} (h:pos+n<b.length/\b.getD (pos+n) 0=b.getD (pos+n-back) 0):Pk.mgo b pos back (f+1) n=Pk.mgo b pos back f (n+1):=by
 rw [Pk.mgo,if_pos h]
set_option maxRecDepth 100000 in
set_option maxHeartbeats 2000000 in
theorem longest_any (w:World) (F:Nat->Prop) (v:Value) (b:Bs) (pos:Nat) (hb:Bytes w F v b) (hp:pos<b.length) (hlen:b.length<=4000) :
 Calls Try.prog 84 #[v,.int .i64 (pos:Int)] w fun e w'=>e = .returned (.tuple #[.int .i64 ((Pk.longest b pos).1:Int),.int .i64 ((Pk.longest b pos).2:Int)])/\∃ n,w'=w.drewN n:=by
 obtain ⟨A,c,rfl,hac,hcm,hal,hA⟩:=hb
 obtain ⟨q,off,rfl,_,hq,hcell⟩:=hA (by omega)
 unfold maxLen at hcm
 have hcell':∀ i,i<b.length->w.cell? ⟨q,off+i,none⟩=some (.int .u8 ((b.getD i 0).toNat:Int)):=fun i hi=>hcell i (bv (b.getD i 0)) (by rw [List.getElem?_map,List.getElem?_eq_getElem hi,getD_at hi];rfl)
 have HC:=Lib.hid hcell'
 clear hcell hcell' hA hal
 have hJ:min pos 1024<=1024:=by omega
 obtain ⟨J,hJe⟩:∃ J,Hid (J=min pos 1024):=⟨_,Lib.hid rfl⟩
 have hJ1:J<=pos:=by rw [hJe.out];omega
 have hJ2:J<=1024:=by rw [hJe.out];omega
 have hlo:Hid (Pk.longest b pos=Pk.best b pos J):=Lib.hid (by rw [hJe.out];rfl)
 clear hJ
 go_enter Try.func84,Try.ntmps84
 go_wp2_with fail
 go_loopg [6,7,8] J (fun k x y z wr=>∃ (j m bx by_:Nat),j+k=J/\x = .int .i64 (bx:Int)/\y = .int .i64 (by_:Int)/\z = .int .i64 ((j:Int)+1)/\Hid ((bx,by_)=Pk.best b pos j)/\bx<=66/\wr=w.drewN m)
 case atStart=>exact ⟨0,0,0,0,by omega,rfl,rfl,rfl,Lib.hid rfl,by omega,rfl⟩
 case round =>
  obtain ⟨j,m,bx,by_,hj,rfl,rfl,rfl,HB,hbx,rfl⟩:=hrel
  by_cases hlt:j<J
  · have h1:(j:Int)+1<=(pos:Int):=by omega
    have h2:(j:Int)+1<=1024:=by omega
    have h3:(j:Int)+1<=min (pos:Int) 1024:=by omega
    generalize gk=gk0 at *
    go_wp2_with fail
    generalize hw0:w.drewN m=w0 at *
    go_loopg [9] 66 (fun k x wr=>∃ n m2:Nat,n+k=66/\x = .int .i64 (n:Int)/\Hid (Pk.mgo b pos (j+1) (66-n) n=Pk.mlen b pos (j+1))/\wr=w.drewN m2)
    case atStart=>exact ⟨0,m,by omega,rfl,Lib.hid rfl,hw0.symm⟩
    case round =>
     obtain ⟨n,m2,hn,rfl,HM,rfl⟩:=hrel
     have hn66:n<=66:=by omega
     by_cases c1:n<66
     · have c1B:(n:Int)<66:=by omega
       by_cases c2:pos+n<b.length
       · have c2B:(pos:Int)+(n:Int)<(b.length:Int):=by omega
         have q1:=HC.out (pos+n) c2
         have q2:=HC.out (pos+n-(j+1)) (by omega)
         have q1':(w.drewN m2).cell? ⟨q,off+(pos+n),none⟩=some (.int .u8 ((b.getD (pos+n) 0).toNat:Int)):=q1
         have q2':(w.drewN m2).cell? ⟨q,off+(pos+n-(j+1)),none⟩=some (.int .u8 ((b.getD (pos+n-(j+1)) 0).toNat:Int)):=q2
         have hst:∀ f,¬ (b.getD (pos+n) 0=b.getD (pos+n-(j+1)) 0)->Pk.mgo b pos (j+1) f n=n:=fun f h=>mgo_stop (fun hh=>h hh.2)
         have hgo:∀ f,b.getD (pos+n) 0=b.getD (pos+n-(j+1)) 0->Pk.mgo b pos (j+1) (f+1) n=Pk.mgo b pos (j+1) f (n+1):=fun f h=>mgo_next ⟨c2,h⟩
         generalize b.getD (pos+n) 0=x1 at *
         generalize b.getD (pos+n-(j+1)) 0=x2 at *
         have HST:=Lib.hid hst
         have HGO:=Lib.hid hgo
         clear q1 q2 hst hgo
         have e1:IntKind.i64.wrap ((pos:Int)+(n:Int))=(pos:Int)+(n:Int):=IntWalk.i64_in _ (by omega)
         have e2:IntKind.i64.wrap ((pos:Int)+(n:Int)-((j:Int)+1))=(pos:Int)+(n:Int)-((j:Int)+1):=IntWalk.i64_in _ (by omega)
         have e3:(0:Int)<=(pos:Int)+(n:Int):=by omega
         have e4:(0:Int)<=(pos:Int)+(n:Int)-((j:Int)+1):=by omega
         have e5:(pos:Int)+(n:Int)-((j:Int)+1)<(b.length:Int):=by omega
         have e8:(j:Int)+1<=(pos:Int)+(n:Int):=by omega
         have e6:((pos:Int)+(n:Int)).toNat=pos+n:=by omega
         have e7:((pos:Int)+(n:Int)-((j:Int)+1)).toNat=pos+n-(j+1):=by omega
         by_cases he:x1=x2
         · have heB:((x1.toNat:Int)==(x2.toNat:Int))=true:=u8_beq he
           have hnx:Hid (Pk.mgo b pos (j+1) (66-(n+1)) (n+1)=Pk.mlen b pos (j+1)):=Lib.hid (by rw [<-HGO.out _ he,show 66-(n+1)+1=66-n by omega,HM.out])
           clear he
           go_wp2_with fail
           refine wp_region_held_drew (S:=(fun z:World=>z.cell? ⟨q,off+(pos+n),none⟩=some (.int .u8 (x1.toNat:Int))/\z.cell? ⟨q,off+(pos+n-(j+1)),none⟩=some (.int .u8 (x2.toNat:Int)))) (by kernel_rfl) ?_ (fun hHeld=>?_)
           · exact ⟨q1',q2'⟩
           refine step_tk 0 (h:=?_)
           refine step_tk 1 (h:=?_)
           refine step_tk 2 (h:=?_)
           refine step_tk 3 (h:=?_)
           refine step_tk 4 (h:=?_)
           refine step_tk 5 (h:=?_)
           refine step_tk 6 (h:=?_)
           refine step_tk 7 (h:=?_)
           refine step_tk 8 (h:=?_)
           refine step_tk 9 (h:=?_)
           refine step_tk 10 (h:=?_)
           refine step_tk 11 (h:=?_)
           refine step_tk 12 (h:=?_)
           refine step_tk 13 (h:=?_)
           refine step_tk 14 (h:=?_)
           refine step_tk 15 (h:=?_)
           refine step_tk 16 (h:=?_)
           refine step_tk 17 (h:=?_)
           refine step_tk 18 (h:=?_)
           refine step_tk 19 (h:=?_)
           refine step_tk 20 (h:=?_)
           refine step_tk 21 (h:=?_)
           refine step_tk 22 (h:=?_)
           refine step_tk 23 (h:=?_)
           refine step_tk 24 (h:=?_)
           refine step_tk 25 (h:=?_)
           refine step_tk 26 (h:=?_)
           refine wpAnyH_done (by kernel_rfl) ?_ _
           go_wp2_with fail
           go_roundg (gk-1)
           case measure=>omega
           case rel=>exact ⟨n+1,_,by omega,by go_num,hnx,rfl⟩
         · have heB:((x1.toNat:Int)==(x2.toNat:Int))=false:=u8_beq_not he
           have HX:Hid (n=Pk.mlen b pos (j+1)):=Lib.hid (by rw [<-HM.out,HST.out _ he])
           clear he
           go_wp2_with fail
           refine wp_region_held_drew (S:=(fun z:World=>z.cell? ⟨q,off+(pos+n),none⟩=some (.int .u8 (x1.toNat:Int))/\z.cell? ⟨q,off+(pos+n-(j+1)),none⟩=some (.int .u8 (x2.toNat:Int)))) (by kernel_rfl) ?_ (fun hHeld=>?_)
           · exact ⟨q1',q2'⟩
           refine step_tk 0 (h:=?_)
           refine step_tk 1 (h:=?_)
           refine step_tk 2 (h:=?_)
           refine step_tk 3 (h:=?_)
           refine step_tk 4 (h:=?_)
           refine step_tk 5 (h:=?_)
           refine step_tk 6 (h:=?_)
           refine step_tk 7 (h:=?_)
           refine step_tk 8 (h:=?_)
           refine step_tk 9 (h:=?_)
           refine step_tk 10 (h:=?_)
           refine step_tk 11 (h:=?_)
           refine step_tk 12 (h:=?_)
           refine step_tk 13 (h:=?_)
           refine step_tk 14 (h:=?_)
           refine step_tk 15 (h:=?_)
           refine step_tk 16 (h:=?_)
           refine step_tk 17 (h:=?_)
           refine step_tk 18 (h:=?_)
           refine step_tk 19 (h:=?_)
           refine step_tk 20 (h:=?_)
           refine step_tk 21 (h:=?_)
           refine step_tk 22 (h:=?_)
           refine step_tk 23 (h:=?_)
           refine step_tk 24 (h:=?_)
           refine step_tk 25 (h:=?_)
           refine step_tk 26 (h:=?_)
           refine wpAnyH_done (by kernel_rfl) ?_ _
           clear e1 e2 e3 e4 e5 e6 e7 e8 q1' q2' HST HGO c2B
           by_cases hbn:bx<n
           · have hbnB:(bx:Int)<(n:Int):=by omega
             have hnx:Hid ((n,j+1)=Pk.best b pos (j+1)):=Lib.hid (by rw [Pk.best,<-HB.out,<-HX.out,if_pos hbn])
             go_wp2_with fail
             go_roundg (gk0-1)
             case measure=>omega
             case rel=>exact ⟨j+1,_,n,j+1,by omega,rfl,by go_num,by go_num,hnx,hn66,rfl⟩
           · have hbnB:decide ((bx:Int)<(n:Int))=false:=by simp;omega
             have hnx:Hid ((bx,by_)=Pk.best b pos (j+1)):=Lib.hid (by rw [Pk.best,<-HB.out,<-HX.out,if_neg hbn])
             go_wp2_with fail
             go_roundg (gk0-1)
             case measure=>omega
             case rel=>exact ⟨j+1,_,bx,by_,by omega,rfl,rfl,by go_num,hnx,hbx,rfl⟩
       · have c2B:decide ((pos:Int)+(n:Int)<(b.length:Int))=false:=by simp;omega
         have HX:Hid (n=Pk.mlen b pos (j+1)):=Lib.hid (by rw [<-HM.out,mgo_stop (fun hh=>c2 hh.1)])
         have e1:IntKind.i64.wrap ((pos:Int)+(n:Int))=(pos:Int)+(n:Int):=IntWalk.i64_in _ (by omega)
         go_wp2_with fail
         refine wp_region_held_drew (S:=(fun _:World=>True)) (by kernel_rfl) ?_ (fun hHeld=>?_)
         · trivial
         refine step_tk 0 (h:=?_)
         refine step_tk 1 (h:=?_)
         refine step_tk 2 (h:=?_)
         refine step_tk 3 (h:=?_)
         refine step_tk 4 (h:=?_)
         refine step_tk 5 (h:=?_)
         refine step_tk 6 (h:=?_)
         refine step_tk 7 (h:=?_)
         refine step_tk 8 (h:=?_)
         refine step_tk 9 (h:=?_)
         refine step_tk 10 (h:=?_)
         refine step_sk 11 (h:=?_)
         refine step_sk 12 (h:=?_)
         refine step_sk 13 (h:=?_)
         refine step_sk 14 (h:=?_)
         refine step_sk 15 (h:=?_)
         refine step_sk 16 (h:=?_)
         refine step_sk 17 (h:=?_)
         refine step_sk 18 (h:=?_)
         refine step_sk 19 (h:=?_)
         refine step_sk 20 (h:=?_)
         refine step_sk 21 (h:=?_)
         refine step_sk 22 (h:=?_)
         refine step_sk 23 (h:=?_)
         refine step_sk 24 (h:=?_)
         refine step_sk 25 (h:=?_)
         refine step_tk 26 (h:=?_)
         refine wpAnyH_done (by kernel_rfl) ?_ _
         clear e1
         by_cases hbn:bx<n
         · have hbnB:(bx:Int)<(n:Int):=by omega
           have hnx:Hid ((n,j+1)=Pk.best b pos (j+1)):=Lib.hid (by rw [Pk.best,<-HB.out,<-HX.out,if_pos hbn])
           go_wp2_with fail
           go_roundg (gk0-1)
           case measure=>omega
           case rel=>exact ⟨j+1,_,n,j+1,by omega,rfl,by go_num,by go_num,hnx,hn66,rfl⟩
         · have hbnB:decide ((bx:Int)<(n:Int))=false:=by simp;omega
           have hnx:Hid ((bx,by_)=Pk.best b pos (j+1)):=Lib.hid (by rw [Pk.best,<-HB.out,<-HX.out,if_neg hbn])
           go_wp2_with fail
           go_roundg (gk0-1)
           case measure=>omega
           case rel=>exact ⟨j+1,_,bx,by_,by omega,rfl,rfl,by go_num,hnx,hbx,rfl⟩
     · have c1B:decide ((n:Int)<66)=false:=by simp;omega
       have HX:Hid (n=Pk.mlen b pos (j+1)):=Lib.hid (by rw [<-HM.out,show 66-n=0 by omega];rfl)
       go_wp2_with fail
       refine wp_region_held_drew (S:=(fun _:World=>True)) (by kernel_rfl) ?_ (fun hHeld=>?_)
       · trivial
       refine step_tk 0 (h:=?_)
       refine step_tk 1 (h:=?_)
       refine step_tk 2 (h:=?_)
       refine step_sk 3 (h:=?_)
       refine step_sk 4 (h:=?_)
       refine step_sk 5 (h:=?_)
       refine step_sk 6 (h:=?_)
       refine step_sk 7 (h:=?_)
       refine step_sk 8 (h:=?_)
       refine step_tk 9 (h:=?_)
       refine step_tk 10 (h:=?_)
       refine step_sk 11 (h:=?_)
       refine step_sk 12 (h:=?_)
       refine step_sk 13 (h:=?_)
       refine step_sk 14 (h:=?_)
       refine step_sk 15 (h:=?_)
       refine step_sk 16 (h:=?_)
       refine step_sk 17 (h:=?_)
       refine step_sk 18 (h:=?_)
       refine step_sk 19 (h:=?_)
       refine step_sk 20 (h:=?_)
       refine step_sk 21 (h:=?_)
       refine step_sk 22 (h:=?_)
       refine step_sk 23 (h:=?_)
       refine step_sk 24 (h:=?_)
       refine step_sk 25 (h:=?_)
       refine step_tk 26 (h:=?_)
       refine wpAnyH_done (by kernel_rfl) ?_ _
       by_cases hbn:bx<n
       · have hbnB:(bx:Int)<(n:Int):=by omega
         have hnx:Hid ((n,j+1)=Pk.best b pos (j+1)):=Lib.hid (by rw [Pk.best,<-HB.out,<-HX.out,if_pos hbn])
         go_wp2_with fail
         go_roundg (gk0-1)
         case measure=>omega
         case rel=>exact ⟨j+1,_,n,j+1,by omega,rfl,by go_num,by go_num,hnx,hn66,rfl⟩
       · have hbnB:decide ((bx:Int)<(n:Int))=false:=by simp;omega
         have hnx:Hid ((bx,by_)=Pk.best b pos (j+1)):=Lib.hid (by rw [Pk.best,<-HB.out,<-HX.out,if_neg hbn])
         go_wp2_with fail
         go_roundg (gk0-1)
         case measure=>omega
         case rel=>exact ⟨j+1,_,bx,by_,by omega,rfl,rfl,by go_num,hnx,hbx,rfl⟩
  · have h1:decide ((j:Int)+1<=min (pos:Int) 1024)=false:=by rw [decide_eq_false_iff_not];have:=hJe.out;omega
    go_wp2_with fail
    go_ret2
    have hjj:j=J:=by omega
    exact ⟨by rw [hlo.out,<-hjj,<-HB.out];rfl,m,rfl⟩
end Go.Proofs.Ytfdibjgmbdkbcaa
namespace Go.Proofs.Ytfdibjgmbdkbcaa
open Go.RowKit Go.Lib
instance:Rp Pk.Tok:=Rp.of fun t=>(t.len,t.back,t.byte)
theorem rd_tok {w:World} {F:Nat->Prop} {cs:List Value} {t:Pk.Tok}:Rp.rd w F cs t ↔ cs=[.int .i64 t.len,.int .i64 t.back,.int .u8 (t.byte.toNat:Int)]:=by
 constructor
 · rintro ⟨c1,c1',rfl,h1,c2,c2',rfl,h2,h3⟩
   have e1:c1=[.int .i64 t.len]:=h1
   have e2:c2=[.int .i64 t.back]:=h2
   have e3:c2'=[bv t.byte]:=h3
   subst e1 e2 e3
   rfl
 · rintro rfl
   exact ⟨[_],[_,_],rfl,rfl,[_],[_],rfl,rfl,rfl⟩
theorem info_tok:(Try.prog.info? 126).map (fun i=>(i.zero,i.size,i.bytes))=some (some (.agg #[.int .i64 0,.int .i64 0,.int .u8 0]),3,24):=by kernel_rfl
theorem SlAt.new3 (w:World) (e:TypeId) (a b c:Value):SlAt (w.alloc (.cells #[a,b,c] e)) (fun k=>k=w.heap.size) 3 (.slice (some ⟨w.heap.size,0,none⟩) 1 1) 1 [a,b,c]:=by
 refine ⟨_,1,rfl,Nat.le_refl _,by decide,rfl,fun _=>⟨w.heap.size,0,rfl,rfl,by simp,fun j u hu=>?_⟩⟩
 rw [Nat.zero_add,World.cell?_alloc_new,<-Array.getElem?_toList]
 exact hu
abbrev OwnT (w:World) (B:Nat) (v:Value) (l:List Pk.Tok):Prop:=OwnR w B 126 (fun _=>True) v l
theorem OwnT.snoc {w':World} {B:Nat} {v':Value} {l:List Pk.Tok} {xs:List Value} (t:Pk.Tok) (h2:∀ (i:Nat) (a:Pk.Tok),l[i]? = some a->∃ ecs,ecs=[.int .i64 a.len,.int .i64 a.back,.int .u8 (a.byte.toNat:Int)]/\∀ (j:Nat) (u:Value),ecs[j]? = some u->xs[i*3+j]? = some u)
 (hx:xs.length=l.length*3) (hown:Own w' B 126 3 v' (l.length+1) (xs++[.int .i64 t.len,.int .i64 t.back,.int .u8 (t.byte.toNat:Int)])):OwnT w' B v' (l++[t]) :=
 OwnR.snoc (fun i a ha=>by obtain ⟨ecs,he,hj⟩:=h2 i a ha;exact ⟨ecs,rd_tok.2 he,hj⟩) hx (rd_tok.2 rfl) hown
theorem OwnT.open_ {w:World} {B:Nat} {v:Value} {l:List Pk.Tok} (h:OwnT w B v l):∃ xs:List Value,Own w B 126 3 v l.length xs ∧
 ∀ (i:Nat) (a:Pk.Tok),l[i]? = some a->∃ ecs,ecs=[.int .i64 a.len,.int .i64 a.back,.int .u8 (a.byte.toNat:Int)]/\∀ (j:Nat) (u:Value),ecs[j]? = some u->xs[i*3+j]? = some u:=by
 obtain ⟨xs,h1,h2⟩:=h
 exact ⟨xs,h1,fun i a ha=>by obtain ⟨ecs,he,hj⟩:=h2 i a ha;exact ⟨ecs,rd_tok.1 he,hj⟩⟩
set_option maxRecDepth 100000 in
set_option maxHeartbeats 2000000 in
theorem tokens_any (w:World) (F:Nat->Prop) (v:Value) (b:Bs) (hb:Bytes w F v b) (hlen:b.length<=4000) :
 Calls Try.prog 16 #[v] w fun e w'=>∃ v,e = .returned (.tuple #[v,.int .i64 0])/\OwnT w' w.heap.size v (Pk.toks b)/\Below w.heap.size w w':=by
 obtain ⟨i0,hi,hz0,hz1,hz2⟩:=info_parts info_tok
 obtain ⟨A,c,hv,hac,hcm⟩:=hb.form'
 subst hv
 unfold maxLen at hcm
 have hB:decide ((4000:Int)<(b.length:Int))=false:=by simp;omega
 obtain ⟨K,HK⟩:∃ K,Hid (K=Pk.toks b):=⟨_,Lib.hid rfl⟩
 rw [<-HK.out]
 go_enter Try.func16,Try.ntmps16
 go_wp2_with fail
 go_loopg [4,5] b.length (fun k v i wr=>∃ (pos:Nat) (T:List Pk.Tok),pos+k=b.length/\i = .int .i64 (pos:Int)/\Hid (T++Pk.toksF b b.length pos=K)/\T.length<=pos/\OwnT wr w.heap.size v T/\Below w.heap.size w wr)
 case atStart=>exact ⟨0,[],by omega,rfl,Lib.hid (by rw [HK.out];rfl),by simp,OwnR.nil_ _ _ _ _ _,Below.refl _ _⟩
 case round =>
  obtain ⟨pos,T,hp,rfl,HT,hTl,hown0,hx⟩:=hrel
  obtain ⟨xs,hown,hin⟩:=hown0.open_
  obtain ⟨A1,c1,hv1,hac1,hcm1⟩:=hown0.shape
  subst hv1
  by_cases hlt:pos<b.length
  · have hltB:(pos:Int)<(b.length:Int):=by omega
    have hbw:=hb.below hx
    have hsp:=Pk.step_in b pos hlt
    have hs1:=Pk.step_pos b pos
    have htk:Pk.toksF b b.length pos=Pk.tokAt b pos::Pk.toksF b b.length (pos+Pk.stepAt b pos):=by
     rw [Pk.toksF_fuel b b.length (b.length+1) pos (by omega) (by omega),Pk.toksF_succ,if_pos hlt]
    have hnx:(T++[Pk.tokAt b pos])++Pk.toksF b b.length (pos+Pk.stepAt b pos)=K:=by rw [List.append_assoc,List.singleton_append,<-htk,HT.out]
    have hLe:=Pk.longest_le b pos
    have hta:Pk.tokAt b pos=if (Pk.longest b pos).1<3 then Pk.lit (b.getD pos 0) else Pk.cp (Pk.longest b pos).1 (Pk.longest b pos).2:=rfl
    have hsa:Pk.stepAt b pos=if (Pk.longest b pos).1<3 then 1 else (Pk.longest b pos).1:=rfl
    go_wp2_with fail
    refine (longest_any wr F _ b pos hbw hlt hlen).mono ?_
    generalize (Pk.longest b pos).1=x at *
    generalize (Pk.longest b pos).2=y at *
    generalize Pk.tokAt b pos=tk at *
    generalize Pk.stepAt b pos=st at *
    rintro e w1 ⟨rfl,n1,hw⟩
    have hx1:=below_drewN hx n1
    have hown1:=hown.drewN n1
    have hb1:Bytes (wr.drewN n1) F (.slice A b.length c) b:=hbw
    rw [<-hw] at hx1 hown1 hb1
    clear hw
    by_cases h3:x<3
    · rw [if_pos h3] at hta hsa
      have h3B:(x:Int)<3:=by omega
      obtain ⟨q,off,u,hA,hc,_,hq⟩:∃ q off u,A=some ⟨q,off,none⟩/\w1.cell? ⟨q,off+pos,none⟩=some (.int .u8 ((b.getD pos 0).toNat:Int))/\u=(0:Nat)/\q<w1.heap.size:=by
       obtain ⟨A',c',hv,_,_,_,h⟩:=hb1
       injection hv with e1 e2 e3
       subst e1
       obtain ⟨q,off,h,_,hq,hcc⟩:=h (by omega)
       exact ⟨q,off,0,h,hcc pos (bv (b.getD pos 0)) (by rw [List.getElem?_map,List.getElem?_eq_getElem hlt,getD_at hlt];rfl),rfl,hq⟩
      subst hA
      generalize b.getD pos 0=ch at *
      have hsrc3:SlAt (w1.alloc (.cells #[.int .i64 0,.int .i64 0,.int .u8 (ch.toNat:Int)] 126)) (fun k=>k=w1.heap.size) 3 (.slice (some ⟨w1.heap.size,0,none⟩) 1 1) 1 [.int .i64 0,.int .i64 0,.int .u8 (ch.toNat:Int)]:=SlAt.new3 w1 _ _ _ _
      have hownA:=hown1.alloc (.cells #[.int .i64 0,.int .i64 0,.int .u8 (ch.toNat:Int)] 126)
      have hxA:=hx1.alloc hx1.size (.cells #[.int .i64 0,.int .i64 0,.int .u8 (ch.toNat:Int)] 126)
      have HTA:=Lib.hid hta
      have HSA:=Lib.hid hsa
      have HNX:=Lib.hid hnx
      clear hta hsa hnx htk
      go_wp2_with (at_builtin
                   refine wpList_append_Own _ (by rfl) (.tmp 23) (.tmp 29) 26 (by rfl) w.heap.size 126 i0 _ 3 24 Try.underlying26 hi hz0 hz1 hz2 (by rfl) (by omega) (.slice A1 T.length c1) T.length xs (by rfl) hownA _ _ _ _ (by rfl) hsrc3 (by simp [Value.oneCell']) (by simp only [maxLen];omega) (by omega) (by simp;have:=hx1.size;omega) ?_
                   intro v2 w2 hown2 hgr2 hat2
                   have hx2:Below w.heap.size w w2:=hxA.grown hgr2 hxA.size (fun k hk=>(hownA.lt k hk).1))
      go_roundg (gk-1)
      case measure=>omega
      case rel =>
       refine ⟨pos+1,T++[tk],by omega,by go_num,?_,by simp;omega,?_,hx2⟩
       · rw [HSA.out] at HNX;exact HNX
       · rw [HTA.out];exact OwnT.snoc (Pk.lit ch) hin hown.1 hown2
    · rw [if_neg h3] at hta hsa
      have h3B:decide ((x:Int)<3)=false:=by simp;omega
      have hsrc3:SlAt (w1.alloc (.cells #[.int .i64 (x:Int),.int .i64 (y:Int),.int .u8 0] 126)) (fun k=>k=w1.heap.size) 3 (.slice (some ⟨w1.heap.size,0,none⟩) 1 1) 1 [.int .i64 (x:Int),.int .i64 (y:Int),.int .u8 0]:=SlAt.new3 w1 _ _ _ _
      have hownA:=hown1.alloc (.cells #[.int .i64 (x:Int),.int .i64 (y:Int),.int .u8 0] 126)
      have hxA:=hx1.alloc hx1.size (.cells #[.int .i64 (x:Int),.int .i64 (y:Int),.int .u8 0] 126)
      have HTA:=Lib.hid hta
      have hst:st<=x/\x<=st:=by omega
      have HSA:=Lib.hid hsa
      have HNX:=Lib.hid hnx
      clear hta hsa hnx htk
      go_wp2_with (at_builtin
                   refine wpList_append_Own _ (by rfl) (.tmp 33) (.tmp 37) 26 (by rfl) w.heap.size 126 i0 _ 3 24 Try.underlying26 hi hz0 hz1 hz2 (by rfl) (by omega) (.slice A1 T.length c1) T.length xs (by rfl) hownA _ _ _ _ (by rfl) hsrc3 (by simp [Value.oneCell']) (by simp only [maxLen];omega) (by omega) (by simp;have:=hx1.size;omega) ?_
                   intro v2 w2 hown2 hgr2 hat2
                   have hx2:Below w.heap.size w w2:=hxA.grown hgr2 hxA.size (fun k hk=>(hownA.lt k hk).1))
      go_roundg (gk-x)
      case measure=>omega
      case rel =>
       refine ⟨pos+x,T++[tk],by omega,by go_num,?_,by simp;omega,?_,hx2⟩
       · rw [HSA.out] at HNX;exact HNX
       · rw [HTA.out];exact OwnT.snoc (Pk.cp x y) hin hown.1 hown2
  · have hltB:decide ((pos:Int)<(b.length:Int))=false:=by simp;omega
    have hT:T=K:=by
     have:=HT.out
     rw [Pk.toksF_fuel b b.length 0 pos (by omega) (by omega)] at this
     simpa [Pk.toksF] using this
    have HTK:=Lib.hid hT
    clear hT
    go_wp2_with fail
    go_ret2
    exact ⟨_,rfl,by rw [<-HTK.out];exact hown0,hx⟩
end Go.Proofs.Ytfdibjgmbdkbcaa
namespace Go.Proofs.Ytfdibjgmbdkbcaa
open Go.RowKit Go.Lib
def textV (l:List Pk.Tok):Nat × Nat:=match Pk.text l with | .inl _=>(0,0) | .inr e=>e
def textB (l:List Pk.Tok):Bs:=match Pk.text l with | .inl o=>o | .inr _=>[]
def TextPost (w:World) (l:List Pk.Tok) (e:Ending) (w':World):Prop :=
 ∃ v,e = .returned (.tuple #[v,fv (textV l)])/\OwnB w' w.heap.size v (textB l)/\Below w.heap.size w w'
theorem tok_at {w:World} {F:Nat->Prop} {v:Value} {l:List Pk.Tok} (h:RdL w F v l) {j:Nat} (hj:j<l.length):∃ b off c,v = .slice (some ⟨b,off,none⟩) l.length c/\F b/\b<w.heap.size ∧
 w.cell? ⟨b,off+j*3,none⟩=some (.int .i64 l[j].len)/\w.cell? ⟨b,off+j*3+1,none⟩=some (.int .i64 l[j].back)/\w.cell? ⟨b,off+j*3+2,none⟩=some (.int .u8 (l[j].byte.toNat:Int)):=by
 obtain ⟨b,off,c,hv,hF,hb,ecs,hr,hc⟩:=h.at_ hj
 have he:=rd_tok.1 hr
 subst he
 exact ⟨b,off,c,hv,hF,hb,hc 0 _ rfl,hc 1 _ rfl,hc 2 _ rfl⟩
theorem length_copy (out:Bs) (back:Nat):∀ k,(Pk.copyN out back k).length=out.length+k
 | 0=>rfl
 | k+1=>by unfold Pk.copyN;rw [List.length_append,length_copy out back k];simp;omega
set_option maxRecDepth 100000 in
set_option maxHeartbeats 4000000 in
theorem text_any (w:World) (F:Nat->Prop) (v:Value) (l:List Pk.Tok) (hl:RdL w F v l) :
 Calls Try.prog 19 #[v] w (TextPost w l):=by
 obtain ⟨i0,hi,hz0,hz1,hz2⟩:=info_parts info_u8
 obtain ⟨A,c,hv,hlc,hcm⟩:=hl.form
 subst hv
 unfold maxLen at hcm
 have hx0:=(Below.refl w.heap.size w).alloc (Nat.le_refl _) (.cells #[.int .i64 0,.int .i64 0] 32)
 have hk0:Blk (w.alloc (.cells #[.int .i64 0,.int .i64 0] 32)) w.heap.size 32 #[.int .i64 0,.int .i64 0]:=heap_alloc_new w _
 go_enter Try.func19,Try.ntmps19
 go_wp2_with fail
 generalize w.alloc (.cells #[.int .i64 0,.int .i64 0] 32)=w0 at *
 go_loopg [4,10] l.length (fun k v i wr=>∃ (j:Nat) (out:Bs),j+k=l.length/\i = .int .i64 (j:Int)/\Hid (Pk.textF (l.drop j) j out=Pk.text l)/\out.length<=4000/\OwnB wr w.heap.size v out/\Blk wr w.heap.size 32 #[.int .i64 0,.int .i64 0]/\Below w.heap.size w wr)
 case atStart=>exact ⟨0,[],by omega,rfl,Lib.hid (by simp [Pk.text]),by simp,Own.nil_ _ _ _ _,hk0,hx0⟩
 case round =>
  obtain ⟨j,out,hj,rfl,HT,hol,hown,hk,hx⟩:=hrel
  obtain ⟨A1,c1,hv1,hac1,hcm1⟩:=Own.shape hown
  subst hv1
  by_cases hlt:j<l.length
  · obtain ⟨b,off,c',hA,_,hb,q0,q1,q2⟩:=tok_at hl hlt
    injection hA with hA _ hA'
    subst hA hA'
    have hltB:(j:Int)<(l.length:Int):=by omega
    have p0:=(hx.cell (p:=⟨b,off+j*3,none⟩) hb).trans q0
    have p1:=(hx.cell (p:=⟨b,off+j*3+1,none⟩) hb).trans q1
    have p2:=(hx.cell (p:=⟨b,off+j*3+2,none⟩) hb).trans q2
    have hnx:l.drop j=l[j]::l.drop (j+1):=List.drop_eq_getElem_cons hlt
    generalize l[j]=t at *
    obtain ⟨len,back,byte⟩:=t
    simp only at q0 q1 q2 p0 p1 p2
    have HN:=Lib.hid hnx
    clear hnx q0 q1 q2
    have hxA:=hx.alloc hx.size (.cells #[.int .i64 len,.int .i64 back,.int .u8 (byte.toNat:Int)] 126)
    have hkA:=hk.alloc (.cells #[.int .i64 len,.int .i64 back,.int .u8 (byte.toNat:Int)] 126)
    have hoA:=hown.alloc (.cells #[.int .i64 len,.int .i64 back,.int .u8 (byte.toNat:Int)] 126)
    have hgA:Blk (wr.alloc (.cells #[.int .i64 len,.int .i64 back,.int .u8 (byte.toNat:Int)] 126)) wr.heap.size 126 #[.int .i64 len,.int .i64 back,.int .u8 (byte.toNat:Int)]:=heap_alloc_new wr _
    have hk1:=hk.lt
    go_upto_region 6 with (fail)
    generalize (wr.alloc (.cells #[.int .i64 len,.int .i64 back,.int .u8 (byte.toNat:Int)] 126))=w1 at *
    generalize wr.heap.size=g at *
    have e0:w1.cell? ⟨g,0,none⟩=some (.int .i64 len):=hgA.cell 0
    have e1:w1.cell? ⟨g,1,none⟩=some (.int .i64 back):=hgA.cell 1
    have e2:w1.cell? ⟨g,2,none⟩=some (.int .u8 (byte.toNat:Int)):=hgA.cell 2
    have f0:w1.cell? ⟨w.heap.size,0,none⟩=some (.int .i64 0):=hkA.cell 0
    have f1:w1.cell? ⟨w.heap.size,1,none⟩=some (.int .i64 0):=hkA.cell 1
    have k0:=hkA.frozen 0
    have k1:=hkA.frozen 1
    clear p0 p1 p2
    by_cases hl0:len=0
    · subst hl0
      by_cases hmuch:4000<out.length+1
      · have hbad:Pk.bad ⟨0,back,byte⟩ out.length=4:=by unfold Pk.bad;simp only;rw [if_neg (by omega),if_neg (by omega),if_pos (by omega)]
        have hmB:(4000:Int)<(out.length:Int)+1:=by omega
        have HF:Hid (Pk.text l = .inr (4,j)):=Lib.hid (by rw [<-HT.out,HN.out,Pk.textF_cons,if_neg (by rw [hbad];decide),hbad])
        go_wp2_with fail
        have hk6:=hkA.set2 (.int .i64 4) (.int .i64 (j:Int))
        have hx6:=below_set2 (g:=w.heap.size) hxA (Nat.le_refl _) (.int .i64 4) (.int .i64 (j:Int))
        generalize ((w1.setCell ⟨w.heap.size,0,none⟩ (.int .i64 4)).setCell ⟨w.heap.size,1,none⟩ (.int .i64 (j:Int)))=w6 at *
        have d0:w6.cell? ⟨w.heap.size,0,none⟩=some (.int .i64 4):=hk6.cell 0
        have d1:w6.cell? ⟨w.heap.size,1,none⟩=some (.int .i64 (j:Int)):=hk6.cell 1
        exact bodyPost_ret (v:=.tuple #[.slice none 0 0,.agg #[.int .i64 4,.int .i64 (j:Int)]]) (by simp [results,Try.results19,go_sem,d0,d1]) rfl ⟨.slice none 0 0,by unfold textV;rw [HF.out];rfl,by unfold textB;rw [HF.out];exact Own.nil_ _ _ _ _,hx6⟩
      · have hbad:Pk.bad ⟨0,back,byte⟩ out.length=0:=by unfold Pk.bad;simp only;rw [if_neg (by omega),if_neg (by omega),if_neg (by omega)]
        have hmB:decide ((4000:Int)<(out.length:Int)+1)=false:=by simp;omega
        have HF:Hid (Pk.textF (l.drop (j+1)) (j+1) (out++[byte])=Pk.text l):=Lib.hid (by rw [<-HT.out,HN.out,Pk.textF_cons,if_pos hbad];rfl)
        obtain ⟨hownB,hsrc⟩:=byte_prep byte hoA
        have hb0:bv byte = .int .u8 (byte.toNat:Int):=rfl
        have hxB:=hxA.alloc hxA.size (.cells #[bv byte] 5)
        have hkB:=hkA.alloc (.cells #[bv byte] 5)
        have hgB:=hgA.alloc (.cells #[bv byte] 5)
        rw [hb0] at hownB hsrc hxB hkB hgB
        have hlo:out.length<=3999:=by omega
        clear hbad hb0 hmuch
        go_wp2_with (at_builtin
                     refine wpList_append_Own _ (by rfl) (.tmp 68) (.tmp 71) 22 (by rfl) w.heap.size 5 i0 _ 1 1 Try.underlying22 hi hz0 hz1 hz2 (by rfl) (by omega) (.slice A1 out.length c1) out.length (out.map bv) (by rfl) hownB _ _ _ _ (by rfl) hsrc (by simp [Value.oneCell']) (by simp only [maxLen];omega) (by omega) (by simp;have:=hxA.size;omega) ?_
                     intro v2 w2 hown2 hgr2 hat2
                     have hx2:Below w.heap.size w w2:=hxB.grown hgr2 hxB.size (fun k hk=>(hownB.lt k hk).1)
                     have hk2:Blk w2 w.heap.size 32 #[.int .i64 0,.int .i64 0]:=hkB.keep (hgr2.block _ hkB.lt (fun e=>Own.ne_blk hownB hkB (by decide) e.symm))
                     have hg2:Blk w2 g 126 #[.int .i64 0,.int .i64 back,.int .u8 (byte.toNat:Int)]:=hgB.keep (hgr2.block _ hgB.lt (fun e=>Own.ne_blk hownB hgB (by decide) e.symm))
                     have u0:w2.cell? ⟨g,0,none⟩=some (.int .i64 0):=hg2.cell 0)
        generalize gk=gk0 at *
        go_loopg [4,75] 0 (fun k v i wq=>v=v2/\i = .int .i64 0/\wq=w2)
        case atStart=>exact ⟨rfl,rfl,rfl⟩
        case round =>
         obtain ⟨rfl,rfl,rfl⟩:=hrel
         go_wp2_with fail
         go_roundg (gk0-1)
         case measure=>omega
         case rel =>
          refine ⟨j+1,out++[byte],by omega,by go_num,HF,by simp;omega,?_,hk2,hx2⟩
          unfold OwnB
          rw [List.length_append,List.map_append]
          exact hown2
    · have hl0B:(len != 0)=true:=by rw [bne_iff_ne];exact hl0
      have hl0C:(len==0)=false:=by rw [beq_eq_false_iff_ne];exact hl0
      by_cases c3:len<3
      · have hbad:Pk.bad ⟨len,back,byte⟩ out.length=3:=by unfold Pk.bad;simp only;rw [if_pos ⟨hl0,.inl c3⟩]
        clear hl0
        have HF:Hid (Pk.text l = .inr (3,j)):=Lib.hid (by rw [<-HT.out,HN.out,Pk.textF_cons,if_neg (by rw [hbad];decide),hbad])
        go_wp2_with fail
        have hk6:=hkA.set2 (.int .i64 3) (.int .i64 (j:Int))
        have hx6:=below_set2 (g:=w.heap.size) hxA (Nat.le_refl _) (.int .i64 3) (.int .i64 (j:Int))
        generalize ((w1.setCell ⟨w.heap.size,0,none⟩ (.int .i64 3)).setCell ⟨w.heap.size,1,none⟩ (.int .i64 (j:Int)))=w6 at *
        have d0:w6.cell? ⟨w.heap.size,0,none⟩=some (.int .i64 3):=hk6.cell 0
        have d1:w6.cell? ⟨w.heap.size,1,none⟩=some (.int .i64 (j:Int)):=hk6.cell 1
        exact bodyPost_ret (v:=.tuple #[.slice none 0 0,.agg #[.int .i64 3,.int .i64 (j:Int)]]) (by simp [results,Try.results19,go_sem,d0,d1]) rfl ⟨.slice none 0 0,by unfold textV;rw [HF.out];rfl,by unfold textB;rw [HF.out];exact Own.nil_ _ _ _ _,hx6⟩
      have b3:decide (len<3)=false:=decide_eq_false c3
      by_cases c66:66<len
      · have hbad:Pk.bad ⟨len,back,byte⟩ out.length=3:=by unfold Pk.bad;simp only;rw [if_pos ⟨hl0,.inr (.inl c66)⟩]
        clear hl0
        have HF:Hid (Pk.text l = .inr (3,j)):=Lib.hid (by rw [<-HT.out,HN.out,Pk.textF_cons,if_neg (by rw [hbad];decide),hbad])
        go_wp2_with fail
        have hk6:=hkA.set2 (.int .i64 3) (.int .i64 (j:Int))
        have hx6:=below_set2 (g:=w.heap.size) hxA (Nat.le_refl _) (.int .i64 3) (.int .i64 (j:Int))
        generalize ((w1.setCell ⟨w.heap.size,0,none⟩ (.int .i64 3)).setCell ⟨w.heap.size,1,none⟩ (.int .i64 (j:Int)))=w6 at *
        have d0:w6.cell? ⟨w.heap.size,0,none⟩=some (.int .i64 3):=hk6.cell 0
        have d1:w6.cell? ⟨w.heap.size,1,none⟩=some (.int .i64 (j:Int)):=hk6.cell 1
        exact bodyPost_ret (v:=.tuple #[.slice none 0 0,.agg #[.int .i64 3,.int .i64 (j:Int)]]) (by simp [results,Try.results19,go_sem,d0,d1]) rfl ⟨.slice none 0 0,by unfold textV;rw [HF.out];rfl,by unfold textB;rw [HF.out];exact Own.nil_ _ _ _ _,hx6⟩
      have b66:decide (66<len)=false:=decide_eq_false c66
      by_cases cb1:back<1
      · have hbad:Pk.bad ⟨len,back,byte⟩ out.length=3:=by unfold Pk.bad;simp only;rw [if_pos ⟨hl0,.inr (.inr (.inl cb1))⟩]
        clear hl0
        have HF:Hid (Pk.text l = .inr (3,j)):=Lib.hid (by rw [<-HT.out,HN.out,Pk.textF_cons,if_neg (by rw [hbad];decide),hbad])
        go_wp2_with fail
        have hk6:=hkA.set2 (.int .i64 3) (.int .i64 (j:Int))
        have hx6:=below_set2 (g:=w.heap.size) hxA (Nat.le_refl _) (.int .i64 3) (.int .i64 (j:Int))
        generalize ((w1.setCell ⟨w.heap.size,0,none⟩ (.int .i64 3)).setCell ⟨w.heap.size,1,none⟩ (.int .i64 (j:Int)))=w6 at *
        have d0:w6.cell? ⟨w.heap.size,0,none⟩=some (.int .i64 3):=hk6.cell 0
        have d1:w6.cell? ⟨w.heap.size,1,none⟩=some (.int .i64 (j:Int)):=hk6.cell 1
        exact bodyPost_ret (v:=.tuple #[.slice none 0 0,.agg #[.int .i64 3,.int .i64 (j:Int)]]) (by simp [results,Try.results19,go_sem,d0,d1]) rfl ⟨.slice none 0 0,by unfold textV;rw [HF.out];rfl,by unfold textB;rw [HF.out];exact Own.nil_ _ _ _ _,hx6⟩
      have bb1:decide (back<1)=false:=decide_eq_false cb1
      by_cases cb2:1024<back
      · have hbad:Pk.bad ⟨len,back,byte⟩ out.length=3:=by unfold Pk.bad;simp only;rw [if_pos ⟨hl0,.inr (.inr (.inr cb2))⟩]
        clear hl0
        have HF:Hid (Pk.text l = .inr (3,j)):=Lib.hid (by rw [<-HT.out,HN.out,Pk.textF_cons,if_neg (by rw [hbad];decide),hbad])
        go_wp2_with fail
        have hk6:=hkA.set2 (.int .i64 3) (.int .i64 (j:Int))
        have hx6:=below_set2 (g:=w.heap.size) hxA (Nat.le_refl _) (.int .i64 3) (.int .i64 (j:Int))
        generalize ((w1.setCell ⟨w.heap.size,0,none⟩ (.int .i64 3)).setCell ⟨w.heap.size,1,none⟩ (.int .i64 (j:Int)))=w6 at *
        have d0:w6.cell? ⟨w.heap.size,0,none⟩=some (.int .i64 3):=hk6.cell 0
        have d1:w6.cell? ⟨w.heap.size,1,none⟩=some (.int .i64 (j:Int)):=hk6.cell 1
        exact bodyPost_ret (v:=.tuple #[.slice none 0 0,.agg #[.int .i64 3,.int .i64 (j:Int)]]) (by simp [results,Try.results19,go_sem,d0,d1]) rfl ⟨.slice none 0 0,by unfold textV;rw [HF.out];rfl,by unfold textB;rw [HF.out];exact Own.nil_ _ _ _ _,hx6⟩
      have bb2:decide (1024<back)=false:=decide_eq_false cb2
      obtain ⟨n,rfl⟩:∃ k:Nat,len=(k:Int):=⟨len.toNat,by omega⟩
      obtain ⟨m,rfl⟩:∃ k:Nat,back=(k:Int):=⟨back.toNat,by omega⟩
      by_cases cf:out.length<m
      · have hbad:Pk.bad ⟨(n:Int),(m:Int),byte⟩ out.length=7:=by unfold Pk.bad;simp only;rw [if_neg (by omega),if_pos (by omega)]
        have cfB:(out.length:Int)<(m:Int):=by omega
        clear hl0
        have HF:Hid (Pk.text l = .inr (7,j)):=Lib.hid (by rw [<-HT.out,HN.out,Pk.textF_cons,if_neg (by rw [hbad];decide),hbad])
        go_wp2_with fail
        have hk6:=hkA.set2 (.int .i64 7) (.int .i64 (j:Int))
        have hx6:=below_set2 (g:=w.heap.size) hxA (Nat.le_refl _) (.int .i64 7) (.int .i64 (j:Int))
        generalize ((w1.setCell ⟨w.heap.size,0,none⟩ (.int .i64 7)).setCell ⟨w.heap.size,1,none⟩ (.int .i64 (j:Int)))=w6 at *
        have d0:w6.cell? ⟨w.heap.size,0,none⟩=some (.int .i64 7):=hk6.cell 0
        have d1:w6.cell? ⟨w.heap.size,1,none⟩=some (.int .i64 (j:Int)):=hk6.cell 1
        exact bodyPost_ret (v:=.tuple #[.slice none 0 0,.agg #[.int .i64 7,.int .i64 (j:Int)]]) (by simp [results,Try.results19,go_sem,d0,d1]) rfl ⟨.slice none 0 0,by unfold textV;rw [HF.out];rfl,by unfold textB;rw [HF.out];exact Own.nil_ _ _ _ _,hx6⟩
      have bf:decide ((out.length:Int)<(m:Int))=false:=by simp;omega
      have hmx:max (n:Int) 1=(n:Int):=by omega
      by_cases cm:4000<out.length+n
      · have hbad:Pk.bad ⟨(n:Int),(m:Int),byte⟩ out.length=4:=by unfold Pk.bad;simp only;rw [if_neg (by omega),if_neg (by omega),if_pos (by omega)]
        have cmB:(4000:Int)<(out.length:Int)+(n:Int):=by omega
        clear hl0
        have HF:Hid (Pk.text l = .inr (4,j)):=Lib.hid (by rw [<-HT.out,HN.out,Pk.textF_cons,if_neg (by rw [hbad];decide),hbad])
        go_wp2_with fail
        have hk6:=hkA.set2 (.int .i64 4) (.int .i64 (j:Int))
        have hx6:=below_set2 (g:=w.heap.size) hxA (Nat.le_refl _) (.int .i64 4) (.int .i64 (j:Int))
        generalize ((w1.setCell ⟨w.heap.size,0,none⟩ (.int .i64 4)).setCell ⟨w.heap.size,1,none⟩ (.int .i64 (j:Int)))=w6 at *
        have d0:w6.cell? ⟨w.heap.size,0,none⟩=some (.int .i64 4):=hk6.cell 0
        have d1:w6.cell? ⟨w.heap.size,1,none⟩=some (.int .i64 (j:Int)):=hk6.cell 1
        exact bodyPost_ret (v:=.tuple #[.slice none 0 0,.agg #[.int .i64 4,.int .i64 (j:Int)]]) (by simp [results,Try.results19,go_sem,d0,d1]) rfl ⟨.slice none 0 0,by unfold textV;rw [HF.out];rfl,by unfold textB;rw [HF.out];exact Own.nil_ _ _ _ _,hx6⟩
      have cmB:decide ((4000:Int)<(out.length:Int)+(n:Int))=false:=by simp;omega
      have hbad:Pk.bad ⟨(n:Int),(m:Int),byte⟩ out.length=0:=by unfold Pk.bad;simp only;rw [if_neg (by omega),if_neg (by omega),if_neg (by omega)]
      have HF:Hid (Pk.textF (l.drop (j+1)) (j+1) (Pk.copyN out m n)=Pk.text l):=Lib.hid (by rw [<-HT.out,HN.out,Pk.textF_cons,if_pos hbad,Pk.more,if_neg hl0];rfl)
      have hm1:1<=m:=by omega
      have hmo:m<=out.length:=by omega
      have hn66:n<=66:=by omega
      have hno:out.length+n<=4000:=by omega
      clear hbad hl0 cm cf f0 f1 e2
      go_wp2_with fail
      generalize gk=gk0 at *
      clear e0 e1
      go_loopg [4,75] n (fun k v i wq=>∃ r:Nat,r+k=n/\i = .int .i64 (r:Int)/\OwnB wq w.heap.size v (Pk.copyN out m r)/\Blk wq g 126 #[.int .i64 (n:Int),.int .i64 (m:Int),.int .u8 (byte.toNat:Int)]/\Blk wq w.heap.size 32 #[.int .i64 0,.int .i64 0]/\Below w.heap.size w wq)
      case atStart=>exact ⟨0,by omega,rfl,hoA,hgA,hkA,hxA⟩
      case round =>
       clear hoA hgA hkA hxA hown hk hx
       obtain ⟨r,hr,rfl,ho,hg,hk,hx⟩:=hrel
       have hcl:=length_copy out m r
       by_cases hrn:r<n
       · have hnx:Pk.copyN out m (r+1)=Pk.copyN out m r++[(Pk.copyN out m r).getD ((Pk.copyN out m r).length-m) 0]:=rfl
         generalize Pk.copyN out m r=cur at *
         obtain ⟨A2,c2,hv2,hac2,_⟩:=Own.shape ho
         subst hv2
         have hrnB:(r:Int)<(n:Int):=by omega
         have hcm1:cur.length<=4000:=by omega
         have hmc:m<=cur.length:=by omega
         obtain ⟨q,off2,rfl,hq,hcq⟩:∃ q off,A2=some ⟨q,off,none⟩/\q<wr.heap.size/\wr.cell? ⟨q,off+(cur.length-m),none⟩=some (.int .u8 ((cur.getD (cur.length-m) 0).toNat:Int)):=by
          obtain ⟨A',c',hv,_,_,_,h⟩:=OwnB.bytes ho
          injection hv with z1 z2 z3
          subst z1
          obtain ⟨q,off,h,_,hq,hcc⟩:=h (by omega)
          exact ⟨q,off,h,hq,hcc (cur.length-m) (bv (cur.getD (cur.length-m) 0)) (by rw [List.getElem?_map,List.getElem?_eq_getElem (by omega),getD_at (by omega)];rfl)⟩
         generalize cur.getD (cur.length-m) 0=x at *
         obtain ⟨hownB,hsrc⟩:=byte_prep x ho
         have hb0:bv x = .int .u8 (x.toNat:Int):=rfl
         have hxB:=hx.alloc hx.size (.cells #[bv x] 5)
         have hkB:=hk.alloc (.cells #[bv x] 5)
         have hgB:=hg.alloc (.cells #[bv x] 5)
         rw [hb0] at hownB hsrc hxB hkB hgB
         have u1:wr.cell? ⟨g,1,none⟩=some (.int .i64 (m:Int)):=hg.cell 1
         have z1:(0:Int)<=(cur.length:Int)-(m:Int):=by omega
         have z2:(cur.length:Int)-(m:Int)<(cur.length:Int):=by omega
         have z3:(m:Int)<=(cur.length:Int):=by omega
         have HN2:=Lib.hid hnx
         have HCL:=Lib.hid hcl
         clear hnx hcl hb0
         go_wp2_with (at_builtin
                      refine wpList_append_Own _ (by rfl) (.tmp 77) (.tmp 86) 22 (by rfl) w.heap.size 5 i0 _ 1 1 Try.underlying22 hi hz0 hz1 hz2 (by rfl) (by omega) (.slice (some ⟨q,off2,none⟩) cur.length c2) cur.length (cur.map bv) (by rfl) hownB _ _ _ _ (by rfl) hsrc (by simp [Value.oneCell']) (by simp only [maxLen];omega) (by omega) (by simp;have:=hx.size;omega) ?_
                      intro v3 w3 hown3 hgr3 hat3
                      have hx3:Below w.heap.size w w3:=hxB.grown hgr3 hxB.size (fun k hk=>(hownB.lt k hk).1)
                      have hk3:Blk w3 w.heap.size 32 #[.int .i64 0,.int .i64 0]:=hkB.keep (hgr3.block _ hkB.lt (fun e=>Own.ne_blk hownB hkB (by decide) e.symm))
                      have hg3:Blk w3 g 126 #[.int .i64 (n:Int),.int .i64 (m:Int),.int .u8 (byte.toNat:Int)]:=hgB.keep (hgr3.block _ hgB.lt (fun e=>Own.ne_blk hownB hgB (by decide) e.symm)))
         go_roundg (gk-1)
         case measure=>omega
         case rel=>exact ⟨r+1,by omega,by go_num,by rw [HN2.out];exact OwnB.snoc_ hown3,hg3,hk3,hx3⟩
       · have hrnB:decide ((r:Int)<(n:Int))=false:=by simp;omega
         have hrr:r=n:=by omega
         have HF2:Hid (Pk.textF (l.drop (j+1)) (j+1) (Pk.copyN out m r)=Pk.text l):=by rw [hrr];exact HF
         clear hrr
         generalize Pk.copyN out m r=cur at *
         obtain ⟨A2,c2,hv2,hac2,_⟩:=Own.shape ho
         subst hv2
         have hcl4:cur.length<=4000:=by omega
         clear hcl
         go_wp2_with fail
         go_roundg (gk0-1)
         case measure=>omega
         case rel=>exact ⟨j+1,cur,by omega,by go_num,HF2,hcl4,ho,hk,hx⟩
  · have hltB:decide ((j:Int)<(l.length:Int))=false:=by simp;omega
    have HF:Hid (Pk.text l = .inl out):=Lib.hid (by rw [<-HT.out,List.drop_of_length_le (by omega)];rfl)
    have f0:wr.cell? ⟨w.heap.size,0,none⟩=some (.int .i64 0):=hk.cell 0
    have f1:wr.cell? ⟨w.heap.size,1,none⟩=some (.int .i64 0):=hk.cell 1
    have k0:=hk.frozen 0
    have k1:=hk.frozen 1
    have hnb:=Own.ne_blk hown hk (by decide)
    go_wp2_with fail
    have hk6:=hk.set2 (.int .i64 0) (.int .i64 0)
    have hx6:=below_set2 (g:=w.heap.size) hx (Nat.le_refl _) (.int .i64 0) (.int .i64 0)
    have ho6:OwnB _ _ (.slice A1 out.length c1) out:=Own.set2 hown hnb (.int .i64 0) (.int .i64 0)
    generalize ((wr.setCell ⟨w.heap.size,0,none⟩ (.int .i64 0)).setCell ⟨w.heap.size,1,none⟩ (.int .i64 0))=w6 at *
    have d0:w6.cell? ⟨w.heap.size,0,none⟩=some (.int .i64 0):=hk6.cell 0
    have d1:w6.cell? ⟨w.heap.size,1,none⟩=some (.int .i64 0):=hk6.cell 1
    exact bodyPost_ret (v:=.tuple #[.slice A1 out.length c1,.agg #[.int .i64 0,.int .i64 0]]) (by simp [results,Try.results19,go_sem,d0,d1]) rfl ⟨.slice A1 out.length c1,by unfold textV;rw [HF.out];rfl,by unfold textB;rw [HF.out];exact ho6,hx6⟩
end Go.Proofs.Ytfdibjgmbdkbcaa
namespace Go.Proofs.Ytfdibjgmbdkbcaa
open Go.RowKit Go.Lib
attribute [local go_sem ↓] Go.wp_at_zero Go.wp_at_succ
theorem one_nil (ok:Bool):Pk.one [] ok=(0,[],false):=rfl
theorem one_cons (c:UInt8) (bs:Bs) (ok:Bool):Pk.one (c::bs) ok=(c.toNat,bs,ok):=rfl
theorem Bytes.keepB {w:World} {F:Nat->Prop} {v:Value} {l:Bs} (h:Bytes w F v l) (o:Obj):Bytes (w.alloc o) (fun k=>k<w.heap.size) v l:=by
 have h':Bytes w (fun k=>k<w.heap.size) v l:=h.weak (fun k hk _=>hk)
 exact h'.alloc o
def Taker (w:World) (B g:Nat) (bs:Bs) (ok:Bool):Prop:=∃ v,Blk w g 134 #[v,.bool ok]/\Bytes w (fun k=>k<B) v bs/\B<=g
set_option maxRecDepth 100000 in
set_option maxHeartbeats 1000000 in
theorem takeOne_any (w:World) (B g:Nat) (bs:Bs) (ok:Bool) (h:Taker w B g bs ok) :
 Calls Try.prog 88 #[.pointer (some ⟨g,0,none⟩)] w fun e w'=>e = .returned (.int .i64 ((Pk.one bs ok).1:Int))/\Taker w' B g (Pk.one bs ok).2.1 (Pk.one bs ok).2.2/\Ch (fun k=>k=g) w w':=by
 obtain ⟨v,hk,hb,hBg⟩:=h
 obtain ⟨A,c,rfl,hac,hcm,hal,hA⟩:=hb
 unfold maxLen at hcm
 have e0:w.cell? ⟨g,0,none⟩=some (.slice A bs.length c):=hk.cell 0
 have e1:w.cell? ⟨g,1,none⟩=some (.bool ok):=hk.cell 1
 have f0:=hk.frozen 0
 have f1:=hk.frozen 1
 cases bs with
 | nil =>
   simp only [List.length_nil] at e0 hk
   simp only [one_nil]
   have hkS:=hk.set_ 1 (.bool false)
   have hS:Ch (fun k=>k=g) w (w.setCell ⟨g,1,none⟩ (.bool false)):=(Ch.refl (fun k=>k=g) w).setCell (p:=⟨g,1,none⟩) (fun _=>rfl) _
   go_enter Try.func88,Try.ntmps88
   go_wp2_with fail
   go_ret
   exact ⟨rfl,⟨_,hkS,⟨A,c,rfl,by simp,hcm,rfl,fun h=>absurd h (by simp)⟩,hBg⟩,hS⟩
 | cons x bs =>
   obtain ⟨q,off,rfl,hqB,hq,hc⟩:=hA (by simp)
   have hcx:w.cell? ⟨q,off,none⟩=some (.int .u8 (x.toNat:Int)):=hc 0 (bv x) rfl
   have hqg:q≠g:=by omega
   have hlen:(x::bs).length=bs.length+1:=rfl
   rw [hlen] at e0 hac hk
   have hS:∀ u:Value,Ch (fun k=>k=g) w (w.setCell ⟨g,0,none⟩ u):=fun u=>(Ch.refl (fun k=>k=g) w).setCell (p:=⟨g,0,none⟩) (fun _=>rfl) _
   have hcell:∀ (u:Value) (j:Nat) (y:Value),(bs.map bv)[j]? = some y->(w.setCell ⟨g,0,none⟩ u).cell? ⟨q,off+1+j,none⟩=some y:=fun u j y hy=>by
    rw [World.cell?_setCell_far _ _ _ _ (by show g≠q;exact hqg.symm)]
    have:=hc (j+1) y (by simpa using hy)
    rwa [show off+(j+1)=off+1+j by omega] at this
   have HCC:=Lib.hid hcell
   have hc1:(1:Int)<=(c:Int):=by omega
   have hc2:1<=c:=by omega
   have hl1:(1:Int)<=(bs.length:Int)+1:=by omega
   clear hcell hc
   simp only [one_cons]
   by_cases hcap:c=1
   · have hb0:bs=[]:=List.eq_nil_of_length_eq_zero (by omega)
     subst hb0
     subst hcap
     go_enter Try.func88,Try.ntmps88
     go_wp2_with fail
     go_ret
     refine ⟨congrArg (fun z=>Ending.returned (.int .i64 z)) (wrap64_nat_small _ (by have:=x.toNat_lt;omega)),⟨_,hk.set_ 0 _,⟨_,_,rfl,Nat.le_refl _,by simp [maxLen],rfl,fun h=>absurd h (by simp)⟩,hBg⟩,hS _⟩
   · have k1:((c:Int)==1)=false:=by rw [beq_eq_false_iff_ne];omega
     go_enter Try.func88,Try.ntmps88
     go_wp2_with fail
     go_ret
     refine ⟨congrArg (fun z=>Ending.returned (.int .i64 z)) (wrap64_nat_small _ (by have:=x.toNat_lt;omega)),⟨_,hk.set_ 0 _,⟨_,_,rfl,by omega,by unfold maxLen;omega,by simp,fun _=>⟨q,off+1,rfl,hqB,by simpa using hq,fun j y hy=>HCC.out _ j y hy⟩⟩,hBg⟩,hS _⟩
end Go.Proofs.Ytfdibjgmbdkbcaa
namespace Go.Proofs.Ytfdibjgmbdkbcaa
open Go.RowKit Go.Lib
attribute [local go_sem ↓] Go.wp_at_zero Go.wp_at_succ
theorem Ch.toBelow {B g:Nat} {w w':World} (h:Ch (fun k=>k=g) w w') (hB:B<=w.heap.size) (hg:B<=g):Below B w w' :=
 ⟨h.os,h.tape,h.output,h.size,fun k hk=>h.block k (by omega) (by omega)⟩
theorem one_byte (bs:Bs) (ok:Bool):∃ x:UInt8,(Pk.one bs ok).1=x.toNat:=⟨UInt8.ofNat (Pk.one bs ok).1,by rw [UInt8.toNat_ofNat'];have:=Pk.one_fst bs ok;omega⟩
def UnpackPost (w:World) (l:Bs) (e:Ending) (w':World):Prop :=
 ∃ v,e = .returned (.tuple #[v,.int .i64 ((Pk.unpack l).1:Int)])/\OwnB w' w.heap.size v (Pk.unpack l).2/\Below w.heap.size w w'
theorem OwnT.ch {w w':World} {B:Nat} {v:Value} {l:List Pk.Tok} {S:Nat->Prop} (h:OwnT w B v l) (hc:Ch S w w') (hS:∀ k,v.ownBlock=some k->¬ S k):OwnT w' B v l:=by
 obtain ⟨xs,h1,h2⟩:=h
 exact ⟨xs,h1.ch hc (fun k hk _=>hS k hk),fun i a ha=>by obtain ⟨ecs,he,hj⟩:=h2 i a ha;exact ⟨ecs,rd_tok.2 (rd_tok.1 he),hj⟩⟩
theorem OwnT.ne_taker {w:World} {B g:Nat} {v:Value} {l:List Pk.Tok} {cs:Array Value} (h:OwnT w B v l) (hk:Blk w g 134 cs):v.ownBlock≠some g:=by
 obtain ⟨xs,h1,h2⟩:=h
 exact h1.ne_blk hk (by decide)
theorem Taker.blk {w:World} {B g:Nat} {bs:Bs} {ok:Bool} (h:Taker w B g bs ok):B<=g/\Blk w g 134 #[Classical.choose h,.bool ok]:=⟨(Classical.choose_spec h).2.2,(Classical.choose_spec h).1⟩
theorem Taker.alloc {w:World} {B g:Nat} {bs:Bs} {ok:Bool} (h:Taker w B g bs ok) (o:Obj):Taker (w.alloc o) B g bs ok:=by
 obtain ⟨v,h1,h2,h3⟩:=h
 exact ⟨v,h1.alloc o,h2.alloc o,h3⟩
theorem Taker.ch {w w':World} {B g:Nat} {bs:Bs} {ok:Bool} {S:Nat->Prop} (h:Taker w B g bs ok) (hc:Ch S w w') (hg:¬ S g) (hB:∀ k,k<B->¬ S k):Taker w' B g bs ok:=by
 obtain ⟨v,h1,h2,h3⟩:=h
 exact ⟨v,h1.ch hc hg,SlAt.ch h2 hc hB,h3⟩
theorem Taker.grown {w w':World} {B g:Nat} {bs:Bs} {ok:Bool} {row:Option Nat} (h:Taker w B g bs ok) (hg:w.grownBy w' row) (hr:∀ k,row=some k->B<=k/\k≠g):Taker w' B g bs ok:=by
 obtain ⟨v,h1,h2,h3⟩:=h
 refine ⟨v,h1.keep (hg.block _ h1.lt (fun e=>(hr g e.symm).2 rfl)),SlAt.keep h2 hg.size (fun k hk hkB=>hg.block k hk (fun e=>?_)),h3⟩
 have:=(hr k e.symm).1
 omega
set_option maxRecDepth 100000 in
set_option maxHeartbeats 4000000 in
theorem unpack_any (w:World) (F:Nat->Prop) (v:Value) (l:Bs) (hl:Bytes w F v l) :
 Calls Try.prog 23 #[v] w (UnpackPost w l):=by
 obtain ⟨i0,hi,hz0,hz1,hz2⟩:=info_parts info_tok
 obtain ⟨A,c,hv⟩:=hl.form
 subst hv
 have hk0:Blk (w.alloc (.cells #[.slice A l.length c,.bool true] 134)) w.heap.size 134 #[.slice A l.length c,.bool true]:=heap_alloc_new w _
 have hx0:=(Below.refl w.heap.size w).alloc (Nat.le_refl _) (.cells #[.slice A l.length c,.bool true] 134)
 have hT0:Taker (w.alloc (.cells #[.slice A l.length c,.bool true] 134)) w.heap.size w.heap.size l true:=⟨_,hk0,hl.keepB _,Nat.le_refl _⟩
 have hsz:Pk.sizeOf l=(Pk.one l true).1*256+(Pk.one (Pk.one l true).2.1 (Pk.one l true).2.2).1:=rfl
 have hst:Pk.start l=⟨(Pk.one (Pk.one l true).2.1 (Pk.one l true).2.2).2.1,(Pk.one (Pk.one l true).2.1 (Pk.one l true).2.2).2.2,[],0⟩:=rfl
 have HSZ:=Lib.hid hsz
 have HST:=Lib.hid hst
 have hc1:=Pk.one_fst l true
 have hc2:=Pk.one_fst (Pk.one l true).2.1 (Pk.one l true).2.2
 clear hsz hst hk0
 go_enter Try.func23,Try.ntmps23
 go_wp2_with fail
 generalize w.alloc (.cells #[.slice A l.length c,.bool true] 134)=w0 at *
 refine (takeOne_any w0 _ _ _ _ hT0).mono ?_
 rintro e w1 ⟨rfl,hT1,hch1⟩
 have hx1:=hx0.trans (hch1.toBelow hx0.size (Nat.le_refl _))
 generalize (Pk.one l true).1=n1 at *
 generalize (Pk.one l true).2.1=bs1 at *
 generalize (Pk.one l true).2.2=ok1 at *
 go_wp2_with fail
 refine (takeOne_any w1 _ _ _ _ hT1).mono ?_
 rintro e w2 ⟨rfl,hT2,hch2⟩
 have hx2:=hx1.trans (hch2.toBelow hx1.size (Nat.le_refl _))
 generalize (Pk.one bs1 ok1).1=n2 at *
 generalize (Pk.one bs1 ok1).2.1=bs2 at *
 generalize (Pk.one bs1 ok1).2.2=ok2 at *
 have hor:=or_i64_ n1 n2 (by omega) hc2
 have HOR:=Lib.hid hor
 obtain ⟨vt,hkt,hbt,hgt⟩:=hT2
 have e1:w2.cell? ⟨w.heap.size,1,none⟩=some (.bool ok2):=hkt.cell 1
 rw [<-HSZ.out] at HOR hor
 clear hT0 hT1 hch1 hch2 hx0 hx1 HOR
 cases ok2 with
 | false =>
   have hU:Hid (Pk.unpack l=(2,[])):=Lib.hid (by unfold Pk.unpack;rw [HST.out,if_pos rfl])
   clear hor
   go_wp2_with fail
   go_ret2
   exact ⟨_,by rw [hU.out];rfl,by rw [hU.out];exact Own.nil_ _ _ _ _,hx2⟩
 | true =>
   obtain ⟨size,HS⟩:∃ s,Hid (s=Pk.sizeOf l):=⟨_,Lib.hid rfl⟩
   rw [<-HS.out] at hor
   by_cases hbig:4000<size
   · have hU:Hid (Pk.unpack l=(4,[])):=Lib.hid (by unfold Pk.unpack;rw [HST.out,if_neg (by simp),if_pos (by rw [<-HS.out];exact hbig)])
     have hB:(4000:Int)<(size:Int):=by omega
     go_wp2_with fail
     go_ret2
     exact ⟨_,by rw [hU.out];rfl,by rw [hU.out];exact Own.nil_ _ _ _ _,hx2⟩
   · have hB:decide ((4000:Int)<(size:Int))=false:=by simp;omega
     go_wp2_with fail
     clear hor
     --LOOP
     have hsz4:size<=4000:=by omega
     have hT2:Taker w2 w.heap.size w.heap.size bs2 true:=⟨vt,hkt,hbt,hgt⟩
     obtain ⟨FIN,HFIN⟩:∃ f,Hid (f=Pk.unR size size ⟨bs2,true,[],0⟩):=⟨_,Lib.hid rfl⟩
     clear e1 hkt hbt hgt
     go_loopg [6,7] size (fun k v i wr=>∃ st:Pk.St,size<=st.n+k/\i = .int .i64 (st.n:Int)/\Hid (Pk.unR size k st=FIN)/\st.n<=4100/\st.l.length<=st.n/\Taker wr w.heap.size w.heap.size st.bs st.ok/\OwnT wr w.heap.size v st.l/\Below w.heap.size w wr)
     case atStart=>exact ⟨⟨bs2,true,[],0⟩,by simp,rfl,Lib.hid HFIN.out.symm,by simp,by simp,hT2,OwnR.nil_ _ _ _ _ _,hx2⟩
     case round =>
      clear hT2 hx2
      obtain ⟨⟨bs,ok,ls,nn⟩,hsk,rfl,HU,hn41,hln,hT,hown,hx⟩:=hrel
      simp only at hsk hn41 hln hT hown ⊢
      obtain ⟨A1,c1,hv1,_,_⟩:=hown.shape
      subst hv1
      by_cases hgo:nn<size/\ok=true
      · obtain ⟨hlt,hok⟩:=hgo
        subst hok
        have hnk:1<=gk:=by omega
        have hu1:Pk.unR size (gk-1) (Pk.grpR size 8 (Pk.one bs true).1 ⟨(Pk.one bs true).2.1,(Pk.one bs true).2.2,ls,nn⟩)=FIN:=by
         rw [<-HU.out]
         conv=>rhs;rw [show gk=gk-1+1 by omega]
         exact (Pk.unR_go (s:=⟨bs,true,ls,nn⟩) ⟨hlt,rfl⟩).symm
        have hgn:=Pk.grpR_n1 size 7 (Pk.one bs true).1 ⟨(Pk.one bs true).2.1,(Pk.one bs true).2.2,ls,nn⟩ hlt
        have hfl:=Pk.one_fst bs true
        have hltB:(nn:Int)<(size:Int):=by omega
        have e1:wr.cell? ⟨w.heap.size,1,none⟩=some (.bool true):=(Taker.blk hT).2.cell 1
        go_wp2_with fail
        refine (takeOne_any wr _ _ _ _ hT).mono ?_
        generalize (Pk.one bs true).1=fl at *
        generalize (Pk.one bs true).2.1=b3 at *
        generalize (Pk.one bs true).2.2=o3 at *
        obtain ⟨G,HG⟩:∃ G,Hid (Pk.grpR size 8 fl ⟨b3,o3,ls,nn⟩=G):=⟨_,Lib.hid rfl⟩
        rw [HG.out] at hu1 hgn
        have HU1:=Lib.hid hu1
        have hgn:nn+1<=G.n:=hgn
        rintro e w3 ⟨rfl,hT3,hch3⟩
        have hown3:OwnT w3 w.heap.size (.slice A1 ls.length c1) ls:=OwnT.ch hown hch3 (fun k hk hk2=>OwnT.ne_taker hown (Taker.blk hT).2 (by rw [<-hk2];exact hk))
        have hx3:=hx.trans (hch3.toBelow hx.size (Nat.le_refl _))
        clear hT hown hx hch3 hu1 e1 HU
        go_wp2_with fail
        generalize gk=gk0 at *
        go_loopg [6,7,41] 8 (fun k v i y wr=>∃ (j:Nat) (st2:Pk.St),j+k=8/\y = .int .i64 (j:Int)/\i = .int .i64 (st2.n:Int)/\Hid (Pk.grpR size k (fl / 2 ^ j) st2=G)/\st2.n<=4100/\st2.l.length<=st2.n/\Taker wr w.heap.size w.heap.size st2.bs st2.ok/\OwnT wr w.heap.size v st2.l/\Below w.heap.size w wr)
        case atStart=>exact ⟨0,⟨b3,o3,ls,nn⟩,by omega,rfl,rfl,Lib.hid (by rw [Nat.pow_zero,Nat.div_one];exact HG.out),hn41,hln,hT3,hown3,hx3⟩
        case round =>
         clear hT3 hown3 hx3 hln
         obtain ⟨j,st2,hj,rfl,rfl,HG2,hn41,hln,hT,hown,hx⟩:=hrel
         obtain ⟨A2,c2,hv2,_,_⟩:=hown.shape
         subst hv2
         by_cases h8:j<8
         · have h8B:(j:Int)<8:=by omega
           obtain ⟨k',hk'⟩:∃ k,gk=k+1:=⟨gk-1,by omega⟩
           subst hk'
           by_cases hstop:size<=st2.n
           · have hstB:(size:Int)<=(st2.n:Int):=by omega
             have hst:=HG2.out
             rw [Pk.grpR_stop hstop] at hst
             have HST2:=Lib.hid hst
             clear hst
             obtain ⟨vt,hkt,hbt,hgt⟩:=hT
             have e1:wr.cell? ⟨w.heap.size,1,none⟩=some (.bool st2.ok):=hkt.cell 1
             have f1:=hkt.frozen 1
             have hdv:(fl:Int) / 2 ^ j=((fl / 2 ^ j:Nat):Int):=by simp
             have hG:=HST2.out
             generalize fl / 2 ^ j=fj at *
             have HDV:=Lib.hid hdv
             have hkS:=hkt.set_ 1 (.bool (st2.ok&&fj==0))
             have hxS:=hx.setCell (p:=⟨w.heap.size,1,none⟩) (Nat.le_refl _) (.bool (st2.ok&&fj==0))
             have hoS:OwnT (wr.setCell ⟨w.heap.size,1,none⟩ (.bool (st2.ok&&fj==0))) w.heap.size (.slice A2 st2.l.length c2) st2.l :=
              OwnT.ch hown ((Ch.refl (fun k=>k=w.heap.size) wr).setCell (p:=⟨w.heap.size,1,none⟩) (fun _=>rfl) _) (fun k hk hk2=>OwnT.ne_taker hown hkt (by rw [<-hk2];exact hk))
             have hbS:Bytes (wr.setCell ⟨w.heap.size,1,none⟩ (.bool (st2.ok&&fj==0))) (fun k=>k<w.heap.size) vt st2.bs:=SlAt.setCell hbt (p:=⟨w.heap.size,1,none⟩) (by show ¬ w.heap.size<w.heap.size;omega) _
             obtain ⟨sbs,sok,sl,sn⟩:=st2
             simp only at hstop hln hn41 hown e1 hkS hxS hoS hbS hG ⊢ hstB hbt hkt
             have HGG:=Lib.hid hG
             clear hdv hG
             cases sok with
             | false =>
               simp only [Bool.false_and] at hkS hxS hoS hbS
               go_wp2_with fail
               go_roundg (gk0-1)
               case measure=>omega
               case rel=>exact ⟨G,by omega,by rw [<-HGG.out],HU1,by rw [<-HGG.out];exact hn41,by rw [<-HGG.out];exact hln,by rw [<-HGG.out];exact ⟨vt,hkS,hbS,hgt⟩,by rw [<-HGG.out];exact hoS,hxS⟩
             | true =>
               simp only [Bool.true_and] at hkS hxS hoS hbS
               have hz:Hid (((fl:Int) / 2 ^ j==0)=(fj==0)):=Lib.hid (by rw [HDV.out];cases fj<;>rfl)
               obtain ⟨bz,hbz⟩:∃ b,(fj==0)=b:=⟨_,rfl⟩
               rw [hbz] at hkS hxS hoS hbS
               have hz2:((fl:Int) / 2 ^ j==0)=bz:=hz.out.trans hbz
               have HBZ:=Lib.hid hbz
               clear hbz
               go_wp2_with fail
               go_roundg (gk0-1)
               case measure=>omega
               case rel =>
                have hGe:(⟨sbs,bz,sl,sn⟩:Pk.St)=G:=by rw [<-HGG.out,HBZ.out];rfl
                exact ⟨G,by omega,by rw [<-hGe],HU1,by rw [<-hGe];exact hn41,by rw [<-hGe];exact hln,by rw [<-hGe];exact ⟨vt,hkS,hbS,hgt⟩,by rw [<-hGe];exact hoS,hxS⟩
           · have hstB:decide ((size:Int)<=(st2.n:Int))=false:=by simp;omega
             obtain ⟨sbs,sok,sl,sn⟩:=st2
             simp only at hstop hln hn41 hown hT hstB ⊢
             have hst:=HG2.out
             rw [Pk.grpR_go hstop] at hst
             have hdd:fl / 2 ^ j / 2=fl / 2 ^ (j+1):=by rw [Nat.div_div_eq_div_mul,Nat.pow_succ]
             rw [hdd] at hst
             obtain ⟨x,hx0⟩:=one_byte sbs sok
             have hfj:fl / 2 ^ j<256:=Nat.lt_of_le_of_lt (Nat.div_le_self _ _) hfl
             have hand:=and_one_ (fl / 2 ^ j) (by omega)
             have hcast:((fl / 2 ^ j:Nat):Int)=(fl:Int) / 2 ^ j:=by simp
             rw [hcast] at hand
             have hcl:=Pk.readT_lit ⟨sbs,sok,sl,sn⟩
             have hcc:=Pk.readT_cp ⟨sbs,sok,sl,sn⟩
             simp only at hcl hcc
             rw [hx0] at hcl hcc
             have hTO:=takeOne_any wr _ _ _ _ hT
             rw [hx0] at hTO
             generalize (Pk.one sbs sok).2.1=b4 at *
             generalize (Pk.one sbs sok).2.2=o4 at *
             have hx256:=x.toNat_lt
             have hxm:(x.toNat:Int) % 256=(x.toNat:Int):=by omega
             go_upto_region 16 with (fail)
             go_wp2_with fail
             refine hTO.mono ?_
             rintro e w4 ⟨rfl,hT4,hch4⟩
             have hown4:OwnT w4 w.heap.size (.slice A2 sl.length c2) sl:=OwnT.ch hown hch4 (fun k hk hk2=>OwnT.ne_taker hown (Taker.blk hT).2 (by rw [<-hk2];exact hk))
             have hx4:=hx.trans (hch4.toBelow hx.size (Nat.le_refl _))
             have hT5:=hT4.alloc (.cells #[.int .i64 0,.int .i64 0,.int .u8 (x.toNat:Int)] 126)
             have hx5:=hx4.alloc hx4.size (.cells #[.int .i64 0,.int .i64 0,.int .u8 (x.toNat:Int)] 126)
             have hown5:=hown4.alloc (.cells #[.int .i64 0,.int .i64 0,.int .u8 (x.toNat:Int)] 126)
             have hg5:Blk (w4.alloc (.cells #[.int .i64 0,.int .i64 0,.int .u8 (x.toNat:Int)] 126)) w4.heap.size 126 #[.int .i64 0,.int .i64 0,.int .u8 (x.toNat:Int)]:=heap_alloc_new w4 _
             have hgw:w.heap.size<w4.heap.size:=(Taker.blk hT4).2.lt
             have hgN:(Value.slice A2 sl.length c2).ownBlock≠some w4.heap.size:=fun e=>by
              have h1:=OwnR.lt hown4 w4.heap.size e
              omega
             by_cases hbit:fl / 2 ^ j % 2=1
             · have hbB:(fl / 2 ^ j % 2==1)=true:=by rw [hbit];rfl
               rw [hbB,hcc] at hst
               have hB2:((fl / 2 ^ j % 2:Nat):Int)=1:=by omega
               rw [hB2] at hand
               have HSTT:=Lib.hid hst
               clear hst hbB hbit hcl hcc hTO hcast hdd hB2 HG2 hT hown
               go_upto_region 18 with (fail)
               generalize w4.alloc (.cells #[.int .i64 0,.int .i64 0,.int .u8 (x.toNat:Int)] 126)=w5 at *
               generalize w4.heap.size=g at *
               obtain ⟨xs,hownX,hin⟩:=OwnT.open_ hown5
               have ex2:w5.cell? ⟨g,2,none⟩=some (.int .u8 (x.toNat:Int)):=hg5.cell 2
               have hT5d:Taker w5.drew w.heap.size w.heap.size b4 o4:=hT5
               have hg5':g<w5.drew.heap.size:=hg5.lt
               refine wp_region_held_drew (S:=(fun z:World=>z.cell? ⟨g,2,none⟩=some (.int .u8 (x.toNat:Int)))) (by kernel_rfl) ?_ (fun hHeld=>?_)
               · exact ex2
               refine step_tk 0 (h:=?_)
               refine step_tk 1 (h:=?_)
               refine step_tk 2 (h:=?_)
               refine step_tk 3 (h:=?_)
               refine step_tk 4 (h:=?_)
               refine step_alone 5 rfl (by kernel_rfl) (by rfl) (fun K hK=>?_)
               go_simp
               refine (takeOne_any w5.drew w.heap.size w.heap.size _ _ hT5d).mono ?_
               rintro e w6 ⟨rfl,hT6,hch6⟩
               have ex6:w6.cell? ⟨g,2,none⟩=some (.int .u8 (x.toNat:Int)):=(hch6.cell (p:=⟨g,2,none⟩) hg5' (by show g≠w.heap.size;omega)).trans ex2
               go_simp
               refine hK.out _ _ ?_ (fun hHeld=>?_)
               · exact ex6
               clear hK K
               try simp only [Act.put,List.setIfInBounds_toArray,List.set_cons_zero,List.set_cons_succ]
               refine step_tk 6 (h:=?_)
               refine step_tk 7 (h:=?_)
               refine wpAnyH_done (by kernel_rfl) ?_ _
               have ex6:=hHeld
               have hx6:=hx5.drew.trans (hch6.toBelow hx5.size (Nat.le_refl _))
               clear hHeld
               have hd0:=Pk.one_fst b4 o4
               obtain ⟨vv,hvd⟩:∃ v,v=x.toNat * 256+(Pk.one b4 o4).1:=⟨_,rfl⟩
               have hvl:vv<65536:=by omega
               have hvv:bits .or .i64 (IntKind.i64.wrap (IntKind.i64.wrap (x.toNat:Int)*256)) ((Pk.one b4 o4).1:Int)=(vv:Int):=by
                have z1:IntKind.i64.wrap (x.toNat:Int)=(x.toNat:Int):=IntWalk.i64_in _ (by omega)
                have z2:IntKind.i64.wrap ((x.toNat:Int)*256)=(x.toNat:Int)*256:=IntWalk.i64_in _ (by omega)
                rw [z1,z2,or_i64_ _ _ (by omega) hd0,hvd]
               have HST3:=HSTT.out
               rw [<-hvd] at HST3
               have HST4:=Lib.hid HST3
               rw [hvv]
               have hand2:=and_1023_ vv (by omega)
               have hdiv:(vv:Int) / 1024=((vv / 1024:Nat):Int):=by omega
               have hq1:vv / 1024<=63:=by omega
               have hq2:vv % 1024<=1023:=by omega
               generalize hqa:vv / 1024=qa at *
               generalize hqb:vv % 1024=qb at *
               generalize (Pk.one b4 o4).2.1=b6 at *
               generalize (Pk.one b4 o4).2.2=o6 at *
               have htok:Pk.tokOf vv=⟨(qa:Int)+3,(qb:Int)+1,0⟩:=by unfold Pk.tokOf Pk.cp;rw [hqa,hqb];simp
               have HTOK:=Lib.hid htok
               clear hvd hvv HST3 hqa hqb htok hd0 hand
               have hg6:Blk w6 g 126 #[.int .i64 0,.int .i64 0,.int .u8 (x.toNat:Int)]:=Blk.ch (w:=w5.drew) hg5 hch6 (by show ¬ g=w.heap.size;omega)
               have hown6:OwnT w6 w.heap.size (.slice A2 sl.length c2) sl:=OwnT.ch (w:=w5.drew) hown5 hch6 (fun k hk hk2=>OwnT.ne_taker hown5 (Taker.blk hT5).2 (by rw [<-hk2];exact hk))
               have c0:w6.cell? ⟨g,0,none⟩=some (.int .i64 0):=hg6.cell 0
               have c1:w6.cell? ⟨g,1,none⟩=some (.int .i64 0):=hg6.cell 1
               have c2':w6.cell? ⟨g,2,none⟩=some (.int .u8 (x.toNat:Int)):=hg6.cell 2
               have f0:=hg6.frozen 0
               have f1:=hg6.frozen 1
               have f2:=hg6.frozen 2
               go_upto_region 20 with (fail)
               have hchW:Ch (fun k=>k=g) w6 (((w6.setCell ⟨g,0,none⟩ (.int .i64 ((qa:Int)+3))).setCell ⟨g,1,none⟩ (.int .i64 ((qb:Int)+1))).setCell ⟨g,2,none⟩ (.int .u8 0)):=(((Ch.refl (fun k=>k=g) w6).setCell (p:=⟨g,0,none⟩) (fun _=>rfl) _).setCell (p:=⟨g,1,none⟩) (fun _=>rfl) _).setCell (p:=⟨g,2,none⟩) (fun _=>rfl) _
               have hgW:Blk (((w6.setCell ⟨g,0,none⟩ (.int .i64 ((qa:Int)+3))).setCell ⟨g,1,none⟩ (.int .i64 ((qb:Int)+1))).setCell ⟨g,2,none⟩ (.int .u8 0)) g 126 #[.int .i64 ((qa:Int)+3),.int .i64 ((qb:Int)+1),.int .u8 0]:=((hg6.set_ 0 _).set_ 1 _).set_ 2 _
               generalize hWe:((w6.setCell ⟨g,0,none⟩ (.int .i64 ((qa:Int)+3))).setCell ⟨g,1,none⟩ (.int .i64 ((qb:Int)+1))).setCell ⟨g,2,none⟩ (.int .u8 0)=w7 at *
               have hownW:OwnT w7 w.heap.size (.slice A2 sl.length c2) sl:=OwnT.ch hown6 hchW (fun k hk hk2=>hgN (by rw [<-hk2];exact hk))
               have hxW:=hx6.trans (hchW.toBelow hx6.size (by omega))
               have hTW:=hT6.ch hchW (by omega) (fun k hk=>by omega)
               clear hWe c0 c1 c2' f0 f1 f2 hT6 hx6 hown6 hch6 hchW hg6 hT5d hT5 hx5 hown5 hg5 ex2 ex6 hownX hin hand2 hdiv hT4 hx4 hown4 hch4
               obtain ⟨xs,hownX,hin⟩:=OwnT.open_ hownW
               have hownA:=hownX.alloc (.cells #[.int .i64 ((qa:Int)+3),.int .i64 ((qb:Int)+1),.int .u8 0] 126)
               have hTA:=hTW.alloc (.cells #[.int .i64 ((qa:Int)+3),.int .i64 ((qb:Int)+1),.int .u8 0] 126)
               have hxA:=hxW.alloc hxW.size (.cells #[.int .i64 ((qa:Int)+3),.int .i64 ((qb:Int)+1),.int .u8 0] 126)
               have hgA:=hgW.alloc (.cells #[.int .i64 ((qa:Int)+3),.int .i64 ((qb:Int)+1),.int .u8 0] 126)
               have hsrc:=SlAt.new3 w7 126 (.int .i64 ((qa:Int)+3)) (.int .i64 ((qb:Int)+1)) (.int .u8 0)
               have ex0:w7.cell? ⟨g,0,none⟩=some (.int .i64 ((qa:Int)+3)):=hgW.cell 0
               have ex1:w7.cell? ⟨g,1,none⟩=some (.int .i64 ((qb:Int)+1)):=hgW.cell 1
               have ex2:w7.cell? ⟨g,2,none⟩=some (.int .u8 0):=hgW.cell 2
               have HTA:=Lib.hid hTA
               have HSRC:=Lib.hid hsrc
               clear hTA hsrc
               go_wp2_with (at_builtin
                            refine wpList_append_Own _ (by rfl) (.tmp 83) (.tmp 85) 26 (by rfl) w.heap.size 126 i0 _ 3 24 Try.underlying26 hi hz0 hz1 hz2 (by rfl) (by omega) (.slice A2 sl.length c2) sl.length xs (by rfl) hownA _ _ _ _ (by rfl) HSRC.out (by simp [Value.oneCell']) (by simp only [maxLen];omega) (by omega) (by simp;have:=hxW.size;omega) ?_
                            intro v8 w8 hown8 hgr8 hat8
                            have hx8:Below w.heap.size w w8:=hxA.grown hgr8 hxA.size (fun k hk=>(hownA.lt k hk).1)
                            have hT8:=HTA.out.grown hgr8 (fun k e=>⟨(hownA.lt k e).1,fun e2=>hownA.ne_blk (Taker.blk HTA.out).2 (by decide) (by rw [<-e2];exact e)⟩)
                            have hX8:w8.cell? ⟨g,0,none⟩=some (.int .i64 ((qa:Int)+3)):=(hgA.keep (hgr8.block g hgA.lt (fun e=>hgN e.symm))).cell 0)
               go_roundg k'
               case measure=>omega
               case rel=>exact ⟨j+1,⟨b6,o6,sl++[⟨(qa:Int)+3,(qb:Int)+1,0⟩],sn+(qa+3)⟩,by omega,by go_num,by go_num,by rw [<-HTOK.out];exact HST4,by simp;omega,by simp;omega,hT8,OwnT.snoc (⟨(qa:Int)+3,(qb:Int)+1,0⟩) hin hownX.1 hown8,hx8⟩
             · have hb0:fl / 2 ^ j % 2=0:=by omega
               have hbB:(fl / 2 ^ j % 2==1)=false:=by rw [hb0];rfl
               rw [hbB,hcl] at hst
               have hB2:((fl / 2 ^ j % 2:Nat):Int)=0:=by omega
               rw [hB2] at hand
               have hxx:UInt8.ofNat x.toNat=x:=by apply UInt8.toNat_inj.1;rw [UInt8.toNat_ofNat'];omega
               rw [hxx] at hst
               have HSTT:=Lib.hid hst
               clear hst hbB hbit hb0 hcl hcc hTO hcast hdd hB2 HG2 hT hown hxx
               go_upto_region 20 with (fail)
               generalize w4.alloc (.cells #[.int .i64 0,.int .i64 0,.int .u8 (x.toNat:Int)] 126)=w5 at *
               generalize w4.heap.size=g at *
               obtain ⟨xs,hownX,hin⟩:=OwnT.open_ hown5
               have hownA:=hownX.alloc (.cells #[.int .i64 0,.int .i64 0,.int .u8 (x.toNat:Int)] 126)
               have hTA:=hT5.alloc (.cells #[.int .i64 0,.int .i64 0,.int .u8 (x.toNat:Int)] 126)
               have hxA:=hx5.alloc hx5.size (.cells #[.int .i64 0,.int .i64 0,.int .u8 (x.toNat:Int)] 126)
               have hgA:=hg5.alloc (.cells #[.int .i64 0,.int .i64 0,.int .u8 (x.toNat:Int)] 126)
               have hsrc:=SlAt.new3 w5 126 (.int .i64 0) (.int .i64 0) (.int .u8 (x.toNat:Int))
               have ex0:w5.cell? ⟨g,0,none⟩=some (.int .i64 0):=hg5.cell 0
               have ex1:w5.cell? ⟨g,1,none⟩=some (.int .i64 0):=hg5.cell 1
               have ex2:w5.cell? ⟨g,2,none⟩=some (.int .u8 (x.toNat:Int)):=hg5.cell 2
               have HTA:=Lib.hid hTA
               have HSRC:=Lib.hid hsrc
               clear hTA hsrc
               go_wp2_with (at_builtin
                            refine wpList_append_Own _ (by rfl) (.tmp 83) (.tmp 85) 26 (by rfl) w.heap.size 126 i0 _ 3 24 Try.underlying26 hi hz0 hz1 hz2 (by rfl) (by omega) (.slice A2 sl.length c2) sl.length xs (by rfl) hownA _ _ _ _ (by rfl) HSRC.out (by simp [Value.oneCell']) (by simp only [maxLen];omega) (by omega) (by simp;have:=hx5.size;omega) ?_
                            intro v8 w8 hown8 hgr8 hat8
                            have hx8:Below w.heap.size w w8:=hxA.grown hgr8 hxA.size (fun k hk=>(hownA.lt k hk).1)
                            have hT8:=HTA.out.grown hgr8 (fun k e=>⟨(hownA.lt k e).1,fun e2=>hownA.ne_blk (Taker.blk HTA.out).2 (by decide) (by rw [<-e2];exact e)⟩)
                            have hX8:w8.cell? ⟨g,0,none⟩=some (.int .i64 0):=(hgA.keep (hgr8.block g hgA.lt (fun e=>hgN e.symm))).cell 0)
               go_roundg k'
               case measure=>omega
               case rel=>exact ⟨j+1,⟨b4,o4,sl++[Pk.lit x],sn+1⟩,by omega,by go_num,by go_num,HSTT,by simp;omega,by simp;omega,hT8,OwnT.snoc (Pk.lit x) hin hownX.1 hown8,hx8⟩
         · have h8B:decide ((j:Int)<8)=false:=by simp;omega
           have hk0:gk=0:=by omega
           subst hk0
           have hst:st2=G:=HG2.out
           have HST2:=Lib.hid hst
           clear hst
           go_wp2_with fail
           go_roundg (gk0-1)
           case measure=>omega
           case rel=>exact ⟨st2,by have:=HST2.out;subst this;omega,rfl,by rw [HST2.out];exact HU1,hn41,hln,hT,hown,hx⟩
      · have hst:=HU.out
        rw [Pk.unR_stop (by simpa using hgo)] at hst
        have hUP:Pk.unpack l=if ok=false\/bs≠[] then (2,[]) else match Pk.text ls with | .inl out=>if out.length=size then (0,out) else (2,[]) | .inr _=>(2,[]):=by
         unfold Pk.unpack
         rw [HST.out,if_neg (by simp),<-HS.out,if_neg hbig,<-HFIN.out,<-hst]
         rfl
        have HUP:=Lib.hid hUP
        obtain ⟨vt,hkt,hbt,hgt⟩:=hT
        obtain ⟨A3,c3,hv3⟩:=Bytes.form hbt
        subst hv3
        have e0:wr.cell? ⟨w.heap.size,0,none⟩=some (.slice A3 bs.length c3):=hkt.cell 0
        have e1:wr.cell? ⟨w.heap.size,1,none⟩=some (.bool ok):=hkt.cell 1
        have hcond:decide (nn<size)=false\/(decide (nn<size)=true/\ok=false):=by
         by_cases h:nn<size
         · refine .inr ⟨by simp;omega,?_⟩
           cases ok with
           | false=>rfl
           | true=>exact absurd ⟨h,rfl⟩ hgo
         · exact .inl (by simp;omega)
        clear hst hUP HU hsk hgo
        cases ok with
        | false =>
          have hU:Hid (Pk.unpack l=(2,[])):=Lib.hid (by rw [HUP.out,if_pos (.inl rfl)])
          rcases hcond with hc | ⟨hc,_⟩
          · go_wp2_with fail
            go_ret2
            exact ⟨_,by rw [hU.out];rfl,by rw [hU.out];exact Own.nil_ _ _ _ _,hx⟩
          · have hc':(nn:Int)<(size:Int):=by have:=of_decide_eq_true hc;omega
            clear hc
            go_wp2_with fail
            go_ret2
            exact ⟨_,by rw [hU.out];rfl,by rw [hU.out];exact Own.nil_ _ _ _ _,hx⟩
        | true =>
          have hc:decide (nn<size)=false:=by
           rcases hcond with hc | ⟨_,h⟩
           · exact hc
           · cases h
          clear hcond
          cases bs with
          | cons b0 bs0 =>
            have hU:Hid (Pk.unpack l=(2,[])):=Lib.hid (by rw [HUP.out,if_pos (.inr (by simp))])
            have hb0:(0:Int)<((b0::bs0).length:Int):=by simp only [List.length_cons];omega
            have hb1:0<(b0::bs0).length:=by simp
            generalize (b0::bs0).length=nb at *
            go_wp2_with fail
            go_ret2
            exact ⟨_,by rw [hU.out];rfl,by rw [hU.out];exact Own.nil_ _ _ _ _,hx⟩
          | nil =>
            have hU:Hid (Pk.unpack l=match Pk.text ls with | .inl out=>if out.length=size then (0,out) else (2,[]) | .inr _=>(2,[])):=Lib.hid (by rw [HUP.out,if_neg (by simp)])
            clear HUP
            simp only [List.length_nil] at e0 hkt
            have hrd:RdL wr (fun _=>True) (.slice A1 ls.length c1) ls:=(OwnR.rd hown (fun _ _=>trivial))
            go_wp2_with fail
            refine (text_any wr _ _ ls hrd).mono ?_
            rintro e w5 ⟨v5,rfl,ho5,hx5⟩
            have hx6:=hx.trans (hx5.mono hx.size)
            have ho6:=OwnB.mono ho5 hx.size
            cases hte:Pk.text ls with
            | inl out =>
              have htv:textV ls=(0,0):=by unfold textV;rw [hte]
              have htb:textB ls=out:=by unfold textB;rw [hte]
              rw [htv]
              rw [htb] at ho6
              have hfv:fv (0,0) = .agg #[.int .i64 0,.int .i64 0]:=rfl
              rw [hfv]
              have hx7:=hx6.alloc hx6.size (.cells #[.int .i64 0,.int .i64 0] 32)
              have ho7:=OwnB.alloc ho6 (.cells #[.int .i64 0,.int .i64 0] 32)
              obtain ⟨A5,c5,hv5,_,_⟩:=Own.shape ho6
              subst hv5
              by_cases hls:out.length=size
              · have hU2:Hid (Pk.unpack l=(0,out)):=Lib.hid (by rw [hU.out,hte];simp only;rw [if_pos hls])
                have hlB:((out.length:Int) != (size:Int))=false:=by rw [bne_eq_false_iff_eq];omega
                clear hls hte htv htb hfv ho5
                go_wp2_with fail
                go_ret2
                exact ⟨_,by rw [hU2.out];rfl,by rw [hU2.out];exact ho7,hx7⟩
              · have hU2:Hid (Pk.unpack l=(2,[])):=Lib.hid (by rw [hU.out,hte];simp only;rw [if_neg hls])
                have hlB:((out.length:Int) != (size:Int))=true:=by rw [bne_iff_ne];omega
                clear hls hte htv htb hfv ho5
                go_wp2_with fail
                go_ret2
                exact ⟨_,by rw [hU2.out];rfl,by rw [hU2.out];exact Own.nil_ _ _ _ _,hx7⟩
            | inr ee =>
              obtain ⟨a,b⟩:=ee
              have htv:textV ls=(a,b):=by unfold textV;rw [hte]
              have ha:a≠0:=(Pk.textF_at ls 0 [] (a,b) hte).2
              rw [htv]
              have hfv:fv (a,b) = .agg #[.int .i64 (a:Int),.int .i64 (b:Int)]:=rfl
              rw [hfv]
              have hx7:=hx6.alloc hx6.size (.cells #[.int .i64 (a:Int),.int .i64 (b:Int)] 32)
              have hU2:Hid (Pk.unpack l=(2,[])):=Lib.hid (by rw [hU.out,hte])
              have haB:((a:Int) != 0)=true:=by rw [bne_iff_ne];omega
              clear hte htv hfv ha ho5 ho6
              go_wp2_with fail
              go_ret2
              exact ⟨_,by rw [hU2.out];rfl,by rw [hU2.out];exact Own.nil_ _ _ _ _,hx7⟩
end Go.Proofs.Ytfdibjgmbdkbcaa
