/-
  THE WALKS of yearref2.Up, Two. Conditions: digests of 32 bytes, a hundred leaves at most. THE WALKS of yearref2.Stands, Grew. Conditions: what comes in is read as bytes and lists of bytes.
-/
import Derived.Deep.DeepCutAuto
import Derived.Laws.BitsAllLaws
import Derived.Laws.BitsLemmas
import Derived.Test.YtfdibjgmbdkbcaaZGf
import Derived.Test.YtfdibjgmbdkbcaaZGv
import Derived.Test.YtfdibjgmbdkbcaaZR2B
namespace Go.Proofs.Ytfdibjgmbdkbcaa
open Go.RowKit Go.Lib
def UpPost (w:World) (d:Bs) (i n:Nat) (p:List Bs) (e:Ending) (w':World):Prop :=
 ∃ (v:Value) (ok:Bool) (x:Bs),e = .returned (.tuple #[v,.bool ok])/\Bytes w' (fun _=>True) v x/\x.length<=32/\Tr.up d i n p=(if ok=true then some x else none)/\Below w.heap.size w w'
theorem last_split {p:List Bs} (h:1<=p.length):p=p.take (p.length-1)++[p[p.length-1]]:=by
 rw [<-List.take_succ_eq_append_getElem (by omega),List.take_of_length_le (by omega)]
theorem pair_le2 {a b:Bs} (ha:a.length<=32) (hb:b.length=32):(1::(a++b)).length<=140737488355200:=by simp;omega
theorem pair_le3 {a b:Bs} (ha:a.length=32) (hb:b.length<=32):(1::(a++b)).length<=140737488355200:=by simp;omega
set_option maxRecDepth 100000 in
set_option maxHeartbeats 2000000 in
theorem rup_any (n:Nat):∀ (w:World) (F F':Nat->Prop) (vd vp:Value) (d:Bs) (i:Nat) (zi zn:Int) (p:List Bs),Bytes w F vd d->BList w F' vp p->d.length<=32->(∀ x ∈ p,x.length=32)->1<=n->n<=100->i<=100->zi=(i:Int)->zn=(n:Int) →
 Calls Try.prog 93 #[vd,.int .i64 zi,.int .i64 zn,vp] w (UpPost w d i n p):=by
 induction n using Nat.strongRecOn with
 | ind n ih =>
   intro w F F' vd vp d i zi zn p hd hp hd32 hp32 hn1 hn100 hi100 hzi hzn
   subst hzi hzn
   obtain ⟨A,c,hv,hpc,hcm,hA⟩:=hp.shape
   subst hv
   obtain ⟨Ad,cd,hvd,_,hcd⟩:=hd.form'
   subst hvd
   unfold maxLen at hcm hcd
   by_cases h1:n=1
   · subst h1
     by_cases hp0:p=[]
     · subst hp0
       have hU:Hid (Tr.up d i 1 []=some d):=Lib.hid Tr.upG_one
       clear hA ih hp hp32
       simp only [List.length_nil] at *
       go_enter Try.func93,Try.ntmps93
       go_wp2_with fail
       go_ret2
       exact ⟨_,true,d,rfl,hd.weak (fun _ _ _=>trivial),hd32,hU.out,Below.refl _ _⟩
     · have hU:Hid (Tr.up d i 1 p=none):=Lib.hid (by unfold Tr.up;rw [Tr.upG_one,if_neg hp0])
       have hl0:p.length≠0:=fun h=>hp0 (List.eq_nil_of_length_eq_zero h)
       have hB:((p.length:Int)==0)=false:=by rw [beq_eq_false_iff_ne];omega
       clear hA ih hp32 hp0 hl0
       go_enter Try.func93,Try.ntmps93
       go_wp2_with fail
       go_ret2
       exact ⟨_,false,d,rfl,hd.weak (fun _ _ _=>trivial),hd32,hU.out,Below.refl _ _⟩
   · have h2:2<=n:=by omega
     have hnB:((n:Int)==1)=false:=by rw [beq_eq_false_iff_ne];omega
     by_cases hp0:p=[]
     · subst hp0
       have hU:Hid (Tr.up d i n []=none):=Lib.hid (Tr.upG_nil h2)
       clear hA ih hp hp32 h1
       simp only [List.length_nil] at *
       go_enter Try.func93,Try.ntmps93
       go_wp2_with fail
       go_ret2
       exact ⟨_,false,[],rfl,SlAt.nil_ _ _ _,by simp,hU.out,Below.refl _ _⟩
     · skip
       have hm1:1<=p.length:=by
        rcases Nat.eq_zero_or_pos p.length with h | h
        · exact absurd (List.eq_nil_of_length_eq_zero h) hp0
        · exact h
       obtain ⟨b,off,u,hA2,hc,hF,hb,hub⟩:=hp.at_ (j:=p.length-1) (by omega)
       subst hA2
       have hq:=hp.first (p.length-1) (by omega)
       have hpq:=last_split hm1
       have htop:=hp32 _ (List.getElem_mem (show p.length-1<p.length by omega))
       have hq32:∀ x ∈ p.take (p.length-1),x.length=32:=fun x hx=>hp32 x (List.mem_of_mem_take hx)
       generalize p.take (p.length-1)=q at *
       generalize p[p.length-1]=top at *
       obtain ⟨At,ct,hvt,_,hct⟩:=hub.form'
       subst hvt
       rw [htop] at hub hc
       have hL:i<Tr.split n->Tr.up d i n p=(Tr.up d i (Tr.split n) q).map (Tr.nodeL · top):=fun h=>by
        conv=>lhs;rw [hpq]
        exact Tr.upG_left h2 top h
       have hR:¬ i<Tr.split n->Tr.up d i n p=(Tr.up d (i-Tr.split n) (n-Tr.split n) q).map (Tr.nodeR · top):=fun h=>by
        conv=>lhs;rw [hpq]
        exact Tr.upG_right h2 top h
       have hk1:=Tr.split_lt h2
       have hk0:=Tr.split_pos n
       have hS:=Split_any n w h2 (by omega)
       have ih1:=ih (Tr.split n) hk1
       have ih2:=ih (n-Tr.split n) (by omega)
       generalize p.length=l at *
       generalize Tr.split n=k at *
       have HL:=Lib.hid hL
       have HR:=Lib.hid hR
       have HI1:=Lib.hid ih1
       have HI2:=Lib.hid ih2
       have HS:=Lib.hid hS
       have HT:=Lib.hid htop
       clear hL hR ih1 ih2 ih hS htop hpq hp32 hp0 hp hA
       have lB:((l:Int)==0)=false:=by rw [beq_eq_false_iff_ne];omega
       have w1:IntKind.i64.wrap ((l:Int)-1)=(l:Int)-1:=IntWalk.i64_in _ (by omega)
       have g0:(0:Int)<=(l:Int)-1:=by omega
       have g1:(l:Int)-1<=(c:Int):=by omega
       have g2:(l:Int)-1<(l:Int):=by omega
       have g3:((l:Int)-1).toNat=l-1:=by omega
       have g4:(1:Int)<=(l:Int):=by omega
       have g5:(l:Int)-1<=(l:Int):=by omega
       by_cases hik:i<k
       · have hikB:(i:Int)<(k:Int):=by omega
         have HU:=Lib.hid (HL.out hik)
         clear HL HR
         go_enter Try.func93,Try.ntmps93
         go_wp2_with fail
         refine HS.out.mono ?_
         rintro e w' ⟨rfl,hw⟩
         subst hw
         go_wp2_with fail
         go_quiet (fail)
         have hx0:=below_drewN (Below.refl w'.heap.size w') nq
         have hd2:=SlAt.below hd hx0
         have hq2:=hq.below hx0
         have hub2:=SlAt.below hub hx0
         clear hd hq hub hc w1 g0 g1 g2 g3 g4 g5
         generalize w'.drewN nq=w2 at *
         go_wp2_with fail
         refine (HI1.out w2 _ _ _ _ d i _ _ q hd2 hq2 hd32 hq32 (by omega) (by omega) (by omega) (by omega) (by omega)).mono ?_
         rintro e w3 ⟨v3,ok,x,rfl,hx3b,hx32,hup,hx3⟩
         obtain ⟨A3,c3,hv3,_,_⟩:=hx3b.form'
         subst hv3
         have HUP:=Lib.hid hup
         have hPl:=pair_le2 hx32 HT.out
         have h64:x.length+top.length<=140737488355100:=by have:=HT.out;omega
         have h65:top.length+x.length<=140737488355100:=by omega
         have hub3:=SlAt.below hub2 hx3
         rw [<-HT.out] at hub3 ⊢
         clear hup
         go_wp2_with fail
         refine (Pair_any w3 _ _ _ _ x top hx3b hub3 (by assumption)).mono ?_
         rintro e w4 ⟨v4,rfl,hown4,hx4⟩
         go_wp2_with fail
         refine (refsum_any w4 _ _ (1::(x++top)) (OwnB.bytes hown4) hPl).mono ?_
         rintro e w5 ⟨v5,rfl,hown5,hx5⟩
         go_wp2_with fail
         go_ret2
         have hx345:=hx3.trans ((hx4.mono hx3.size).trans (hx5.mono (Nat.le_trans hx3.size hx4.size)))
         exact ⟨v5,ok,Tr.nodeL x top,rfl,(OwnB.bytes hown5).weak (fun _ _ _=>trivial),Nat.le_refl 32,by rw [HU.out,HUP.out];cases ok<;>rfl,hx0.trans (hx345.mono hx0.size)⟩
       · have hikB:decide ((i:Int)<(k:Int))=false:=by simp;omega
         have HU:=Lib.hid (HR.out hik)
         clear HL HR
         go_enter Try.func93,Try.ntmps93
         go_wp2_with fail
         refine HS.out.mono ?_
         rintro e w' ⟨rfl,hw⟩
         subst hw
         go_wp2_with fail
         go_quiet (fail)
         have hx0:=below_drewN (Below.refl w'.heap.size w') nq
         have hd2:=SlAt.below hd hx0
         have hq2:=hq.below hx0
         have hub2:=SlAt.below hub hx0
         clear hd hq hub hc w1 g0 g1 g2 g3 g4 g5
         generalize w'.drewN nq=w2 at *
         go_wp2_with fail
         refine (HI2.out w2 _ _ _ _ d (i-k) _ _ q hd2 hq2 hd32 hq32 (by omega) (by omega) (by omega) (by omega) (by omega)).mono ?_
         rintro e w3 ⟨v3,ok,x,rfl,hx3b,hx32,hup,hx3⟩
         obtain ⟨A3,c3,hv3,_,_⟩:=hx3b.form'
         subst hv3
         have HUP:=Lib.hid hup
         have hPl:=pair_le3 HT.out hx32
         have h64:x.length+top.length<=140737488355100:=by have:=HT.out;omega
         have h65:top.length+x.length<=140737488355100:=by omega
         have hub3:=SlAt.below hub2 hx3
         rw [<-HT.out] at hub3 ⊢
         clear hup
         go_wp2_with fail
         refine (Pair_any w3 _ _ _ _ top x hub3 hx3b (by assumption)).mono ?_
         rintro e w4 ⟨v4,rfl,hown4,hx4⟩
         go_wp2_with fail
         refine (refsum_any w4 _ _ (1::(top++x)) (OwnB.bytes hown4) hPl).mono ?_
         rintro e w5 ⟨v5,rfl,hown5,hx5⟩
         go_wp2_with fail
         go_ret2
         have hx345:=hx3.trans ((hx4.mono hx3.size).trans (hx5.mono (Nat.le_trans hx3.size hx4.size)))
         exact ⟨v5,ok,Tr.nodeR x top,rfl,(OwnB.bytes hown5).weak (fun _ _ _=>trivial),Nat.le_refl 32,by rw [HU.out,HUP.out];cases ok<;>rfl,hx0.trans (hx345.mono hx0.size)⟩
end Go.Proofs.Ytfdibjgmbdkbcaa
namespace Go.Proofs.Ytfdibjgmbdkbcaa
open Go.RowKit Go.Lib
theorem allD_32 {p:List Bs} (h:allD p=true):∀ x ∈ p,x.length=32:=(allD_iff p).1 h
set_option maxRecDepth 100000 in
set_option maxHeartbeats 2000000 in
theorem rstands_any (w:World) (F F' F'':Nat->Prop) (vr vb vp:Value) (n:Int) (r b:Bs) (i:Int) (p:List Bs) (hr:Bytes w F vr r) (hb:Bytes w F' vb b) (hp:BList w F'' vp p) :
 Calls Try.prog 26 #[.agg #[.int .i64 n,vr],vb,.int .i64 i,vp] w fun e w'=>e = .returned (.bool (standsS n r b i p))/\Below w.heap.size w w':=by
 obtain ⟨A,c,hvp,_,_,_⟩:=hp.shape
 subst hvp
 obtain ⟨A2,c2,hvb,_,hc2⟩:=hb.form'
 subst hvb
 obtain ⟨A3,c3,hvr,_,_⟩:=hr.form'
 subst hvr
 unfold maxLen at hc2
 have hx0:Below w.heap.size w (w.alloc (.cells #[.int .i64 n,.slice A3 r.length c3] 39)):=(Below.refl _ _).alloc (Nat.le_refl _) _
 by_cases hall:1<=n/\n<=100/\0<=i/\i<n/\b.length<=200
 · obtain ⟨a1,a2,a3,a4,a5⟩:=hall
   have hS:Hid (standsS n r b i p=(allD p&&(Tr.up (Tr.leafH b) i.toNat n.toNat p==some r))):=Lib.hid (by unfold standsS;rw [decide_eq_true ⟨a1,a2,a3,a4,a5⟩];rfl)
   have b1:decide (n<1)=false:=by simp;omega
   have b2:decide (100<n)=false:=by simp;omega
   have b3:decide (i<0)=false:=by simp;omega
   have b4:decide (n<=i)=false:=by simp;omega
   have b5:decide ((200:Int)<(b.length:Int))=false:=by simp;omega
   have hd:=Good_any (w.alloc (.cells #[.int .i64 n,.slice A3 r.length c3] 39)) F'' _ p (hp.alloc _)
   have HD:=Lib.hid hd
   clear hd
   cases hal:allD p with
   | false =>
     rw [hal] at HD
     have HS:Hid (standsS n r b i p=false):=Lib.hid (by rw [hS.out,hal];rfl)
     clear hS hal
     go_enter Try.func26,Try.ntmps26
     go_wp2_with fail
     refine HD.out.mono ?_
     rintro e w' ⟨rfl,hw⟩
     subst hw
     go_wp2_with fail
     go_ret
     exact ⟨by rw [HS.out];rfl,hx0⟩
   | true =>
     rw [hal] at HD
     have hsp:=allD_short hal
     have HS:Hid (standsS n r b i p=(Tr.up (Tr.leafH b) i.toNat n.toNat p==some r)):=Lib.hid (by rw [hS.out,hal];rfl)
     have hal0:=hal
     clear hS hal
     obtain ⟨ni,hni⟩:∃ k:Nat,n=(k:Int):=⟨n.toNat,by omega⟩
     obtain ⟨ii,hii⟩:∃ k:Nat,i=(k:Int):=⟨i.toNat,by omega⟩
     subst hni hii
     have b4':decide (ni<=ii)=false:=by simp;omega
     have hp32:=allD_32 hal0
     have HS2:Hid (standsS (ni:Int) r b (ii:Int) p=(Tr.up (Tr.leafH b) ii ni p==some r)):=Lib.hid (by rw [HS.out];rfl)
     clear HS hal0
     go_enter Try.func26,Try.ntmps26
     go_wp2_with fail
     refine HD.out.mono ?_
     rintro e w' ⟨rfl,hw⟩
     have hw0:w'.cell? ⟨w.heap.size,0,none⟩=some (.int .i64 ni):=by rw [hw,World.cell?_alloc_mark];rfl
     have hw1:w'.cell? ⟨w.heap.size,1,none⟩=some (.slice A3 r.length c3):=by rw [hw,World.cell?_alloc_mark];rfl
     have hbw:=hb.alloc (.cells #[.int .i64 ni,.slice A3 r.length c3] 39)
     have hpw:=hp.alloc (.cells #[.int .i64 ni,.slice A3 r.length c3] 39)
     have hrw:=hr.alloc (.cells #[.int .i64 ni,.slice A3 r.length c3] 39)
     have hsz:w.heap.size<w'.heap.size:=by rw [hw];simp
     rw [<-hw] at hx0 hbw hpw hrw
     have hi2:(0::b).length<=140737488355200:=by simp;omega
     clear hw HD
     go_wp2_with fail
     go_region_held3 (fun w'':World=>w''.cell? ⟨w.heap.size,0,none⟩=some (.int .i64 ni)/\w''.cell? ⟨w.heap.size,1,none⟩=some (.slice A3 r.length c3)/\Below w'.heap.size w' w'') (first | assumption | exact ⟨hw0,hw1,(Below.refl _ _).drew⟩)
      (first
        | ((with_reducible refine (In_any _ F' (.slice A2 b.length c2) b (Bytes.below hbw (by exact And.right (And.right (by assumption)))) (by omega)).mono ?_)
           rintro e w1 ⟨v1,rfl,hown1,hx1⟩
           have hS1:=keep2 hsz (by assumption) hx1)
        | ((with_reducible refine (refsum_any _ _ _ (0::b) (OwnB.bytes hown1) hi2).mono ?_)
           rintro e w2 ⟨v2,rfl,hown2,hx2⟩
           have hS2:=keep2 hsz hS1 hx2
           have hown2':OwnB w2 w1.heap.size v2 (Tr.leafH b):=hown2)
        | ((with_reducible refine (rup_any ni _ _ F'' _ _ (Tr.leafH b) ii _ _ p (OwnB.bytes hown2') (hpw.below (by exact hS2.2.2)) (Nat.le_of_eq (Tr.length_leafH b)) hp32 (by omega) (by omega) (by omega) rfl rfl).mono ?_)
           rintro e w3 ⟨v3,ok,x,rfl,hx3b,hx32,hup,hx3⟩
           have hS3:=keep2 hsz hS2 hx3
           have HUP:=Lib.hid hup
           clear hup))
     obtain ⟨g0,g1,g2⟩:=hS3
     have hrw2:=SlAt.below hrw g2
     clear hS1 hS2
     cases ok with
     | false =>
       have HF:Hid (standsS (ni:Int) r b (ii:Int) p=false):=Lib.hid (by rw [HS2.out,HUP.out];rfl)
       go_wp2_with fail
       go_ret
       exact ⟨by rw [HF.out];rfl,hx0.trans (g2.mono hx0.size)⟩
     | true =>
       have HF:Hid (standsS (ni:Int) r b (ii:Int) p=(x==r)):=Lib.hid (by rw [HS2.out,HUP.out];rfl)
       go_wp2_with fail
       refine (same_any w3 _ _ v3 _ x r hx3b hrw2).mono ?_
       rintro e w4 ⟨rfl,nd,rfl⟩
       go_wp2_with fail
       go_ret
       exact ⟨by rw [HF.out];rfl,hx0.trans ((below_drewN g2 nd).mono hx0.size)⟩
 · have HS:=Lib.hid (standsS_no (r:=r) (p:=p) hall)
   have hcase:n<1\/(¬ n<1/\100<n)\/(¬ n<1/\¬ 100<n/\i<0)\/(¬ n<1/\¬ 100<n/\¬ i<0/\n<=i)\/(¬ n<1/\¬ 100<n/\¬ i<0/\¬ n<=i/\(200:Int)<(b.length:Int)):=by omega
   clear hall
   rcases hcase with h1 | ⟨h1,h2⟩ | ⟨h1,h2,h3⟩ | ⟨h1,h2,h3,h4⟩ | ⟨h1,h2,h3,h4,h5⟩
   · have b1:decide (n<1)=true:=by simp;omega
     go_enter Try.func26,Try.ntmps26
     go_wp2_with fail
     go_ret
     exact ⟨by rw [HS.out];rfl,hx0⟩
   · have b1:decide (n<1)=false:=by simp;omega
     have b2:decide (100<n)=true:=by simp;omega
     go_enter Try.func26,Try.ntmps26
     go_wp2_with fail
     go_ret
     exact ⟨by rw [HS.out];rfl,hx0⟩
   · have b1:decide (n<1)=false:=by simp;omega
     have b2:decide (100<n)=false:=by simp;omega
     have b3:decide (i<0)=true:=by simp;omega
     go_enter Try.func26,Try.ntmps26
     go_wp2_with fail
     go_ret
     exact ⟨by rw [HS.out];rfl,hx0⟩
   · have b1:decide (n<1)=false:=by simp;omega
     have b2:decide (100<n)=false:=by simp;omega
     have b3:decide (i<0)=false:=by simp;omega
     have b4:decide (n<=i)=true:=by simp;omega
     go_enter Try.func26,Try.ntmps26
     go_wp2_with fail
     go_ret
     exact ⟨by rw [HS.out];rfl,hx0⟩
   · have b1:decide (n<1)=false:=by simp;omega
     have b2:decide (100<n)=false:=by simp;omega
     have b3:decide (i<0)=false:=by simp;omega
     have b4:decide (n<=i)=false:=by simp;omega
     have b5:decide ((200:Int)<(b.length:Int))=true:=by simp;omega
     go_enter Try.func26,Try.ntmps26
     go_wp2_with fail
     go_ret
     exact ⟨by rw [HS.out];rfl,hx0⟩
end Go.Proofs.Ytfdibjgmbdkbcaa
