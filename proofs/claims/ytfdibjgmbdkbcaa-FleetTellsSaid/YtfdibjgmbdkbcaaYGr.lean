/-
  THE WALKS of slices.IndexFunc over entries, with the fleet's own question. Conditions: what is read is texts. THE WALK of a fleet's submit. Conditions: a fleet of which all holds; what is done is read. THE WALKS of slices.IndexFunc over rows, with the fleet's own question. Conditions: what is read is rows. THE WALK of a fleet's retire. Conditions: a fleet of which all holds; the shard is laid away. Words for memory: a byte of what is laid away is turned. No conditions. THE WALK of a fleet's spoil. Conditions: a fleet of which all holds; there is the shard; what is done is read.
-/
import Derived.Test.YtfdibjgmbdkbcaaYGb
import Derived.Test.YtfdibjgmbdkbcaaYBD
import Derived.Test.YtfdibjgmbdkbcaaYGh
import Derived.Test.YtfdibjgmbdkbcaaYGq
namespace Go.Proofs.Ytfdibjgmbdkbcaa
open Go.RowKit Go.Lib
set_option maxRecDepth 100000 in
set_option maxHeartbeats 1000000 in
theorem isEnt_any (w:World) (F F':Nat->Prop) (u:Value) (b:Bs) (gb q o:Nat) (A':Option Addr) (c':Nat) (e0:Bs) (hu:Bytes w F u b) (hb:w.cell? ⟨gb,0,none⟩=some (.pointer (some ⟨q,o,none⟩))) (ht:w.cell? ⟨q,o+3,none⟩=some (.slice A' e0.length c')) (he:Bytes w F' (.slice A' e0.length c') e0) :
 Calls Try.prog 145 #[u,.pointer (some ⟨gb,0,none⟩)] w fun e w'=>e = .returned (.bool (b==e0))/\w'=w:=by
 obtain ⟨A2,c2,hu2⟩:=hu.form
 subst hu2
 go_enter Try.func145,Try.ntmps145
 go_wp2_with fail
 with_reducible refine (equal_any w _ _ _ _ b e0 hu he).mono ?_
 rintro e w2 ⟨rfl,hw2⟩
 subst hw2
 go_wp2_with fail
 go_ret
 exact ⟨rfl,rfl⟩
set_option maxRecDepth 100000 in
set_option maxHeartbeats 2000000 in
theorem idxEnt_any (w:World) (F F':Nat->Prop) (v:Value) (l:List Bs) (gb q o:Nat) (A':Option Addr) (c':Nat) (e0:Bs) (hl:BList w F v l) (hb:w.cell? ⟨gb,0,none⟩=some (.pointer (some ⟨q,o,none⟩))) (ht:w.cell? ⟨q,o+3,none⟩=some (.slice A' e0.length c')) (he:Bytes w F' (.slice A' e0.length c') e0) :
 Calls Try.prog 141 #[v,.func (.func 145) #[] #[.pointer (some ⟨gb,0,none⟩)]] w fun e w'=>e = .returned (.int .i64 (idx (l.findIdx? (·==e0))))/\w'=w:=by
 obtain ⟨A,c,hv,hlc,hcm,_⟩:=hl.shape
 subst hv
 unfold maxLen at hcm
 obtain ⟨R,HR⟩:∃ R,Hid (R=idx (l.findIdx? (·==e0))):=⟨_,Lib.hid rfl⟩
 rw [<-HR.out]
 go_enter Try.func141,Try.ntmps141
 go_wp2_with fail
 go_loopg [8] l.length (fun k i wr=>∃ j:Nat,j+k=l.length/\i = .int .i64 (j:Int)/\Hid ((l.take j).all (fun a=>!(a==e0))=true)/\wr=w)
 case atStart=>exact ⟨0,by omega,rfl,Lib.hid (by simp),rfl⟩
 case round =>
  obtain ⟨j,hj,rfl,HA,rfl⟩:=hrel
  by_cases hlt:j<l.length
  · obtain ⟨b,off,u,hA1,p0,_,hb1,hu⟩:=BList.at_ hl hlt
    subst hA1
    obtain ⟨A2,c2,hu2⟩:=hu.form
    subst hu2
    have hltB:(j:Int)<(l.length:Int):=by omega
    have hfy:(l[j]==e0)=true->R=(j:Int):=fun h=>by rw [HR.out,findIdx_at (p:=(·==e0)) HA.out hlt h];rfl
    have hfn:(l[j]==e0)=false->(l.take (j+1)).all (fun a=>!(a==e0))=true:=fun h=>all_snoc (p:=(·==e0)) HA.out hlt h
    have HEQ:=Lib.hid (isEnt_any wr _ _ _ l[j] gb q o A' c' e0 hu hb ht he)
    generalize l[j]=s at *
    cases hin:(s==e0) with
    | true =>
      have hR:=hfy hin
      rw [hin] at HEQ
      clear hin hfy hfn
      go_wp2_with fail
      with_reducible refine HEQ.out.mono ?_
      rintro e w2 ⟨rfl,hw2⟩
      subst hw2
      go_wp2_with fail
      go_ret
      exact ⟨by rw [hR];rfl,rfl⟩
    | false =>
      have HN:=Lib.hid (hfn hin)
      rw [hin] at HEQ
      clear hin hfy hfn
      go_wp2_with fail
      with_reducible refine HEQ.out.mono ?_
      rintro e w2 ⟨rfl,hw2⟩
      subst hw2
      go_wp2_with fail
      go_roundg (gk-1)
      case measure=>omega
      case rel=>exact ⟨j+1,by omega,by go_num,HN,rfl⟩
  · have hltB:decide ((j:Int)<(l.length:Int))=false:=decide_eq_false (by omega)
    have hR:R = -1:=by
     have h:=HA.out
     rw [List.take_of_length_le (by omega)] at h
     rw [HR.out,findIdx_no (p:=(·==e0)) h];rfl
    have HRR:=Lib.hid hR
    clear hR
    go_wp2_with fail
    go_ret
    exact ⟨by rw [HRR.out];rfl,rfl⟩
end Go.Proofs.Ytfdibjgmbdkbcaa
namespace Go.Proofs.Ytfdibjgmbdkbcaa
open Go.RowKit Go.Lib
theorem submit_long {f:Flt} {d:Dob} (h:200<d.entry.length):Fl.submit f d=(f,Fl.no 4):=by unfold Fl.submit;rw [if_pos h]
theorem submit_none {f:Flt} {d:Dob} (h:¬ 200<d.entry.length) (hk:f.sh.findIdx? (Fl.inW d.time)=none):Fl.submit f d=(f,Fl.no 6):=by unfold Fl.submit;rw [if_neg h,hk]
theorem submit_at {f:Flt} {d:Dob} {k:Nat} {s:Shd} (h:¬ 200<d.entry.length) (hk:f.sh.findIdx? (Fl.inW d.time)=some k) (hs:f.sh[k]? = some s):Fl.submit f d=if s.st≠1 then (f,Fl.no 8) else
 match s.ents.findIdx? (·==d.entry) with
 | some i=>(f,⟨0,k,i,0,[]⟩)
 | none=>if s.ents.length=100 then (f,Fl.no 5) else (⟨f.sh.set k { s with ents:=s.ents++[d.entry] },f.book⟩,⟨0,k,s.ents.length,0,[]⟩):=by
 unfold Fl.submit;rw [if_neg h,hk];simp only;rw [hs];rfl
set_option maxRecDepth 100000 in
set_option maxHeartbeats 4000000 in
theorem submit_any (w:World) (B gF q o:Nat) (tag:Tag) (f:Flt) (d:Dob) (hF:FltAt w B gF tag f) (hT:TagOk w B tag) (hI:Fl.Inv f) (hd:DoAt w B q o d) :
 Calls Try.prog 134 #[.pointer (some ⟨gF,0,none⟩),.pointer (some ⟨q,o,none⟩)] w (StepP w B gF tag (Fl.submit f d)):=by
 obtain ⟨i0,hi,hz0,hz1,hz2⟩:=info_parts info_bytes
 have hd':=hd
 obtain ⟨hqB,hBw,_,_,d2,⟨Ae,ce,d3,hde⟩,_⟩:=hd'
 have hx0:=((Below.refl w.heap.size w).alloc (Nat.le_refl _) (.cells #[.pointer (some ⟨q,o,none⟩)] 167)).alloc (by simp) (.cells #[.int .i64 0,.int .i64 0,.int .i64 0,.int .i64 0,.slice none 0 0] 105)
 have hxB:=hx0.mono hBw
 have c3:=(hxB.cell (p:=⟨q,o+3,none⟩) hqB).trans d3
 have hentB:d.entry.length<=9223372036854775807:=by
  obtain ⟨A',c',hv,h1,h2,_⟩:=hde
  unfold maxLen at h2
  omega
 obtain ⟨R,HR⟩:∃ R,Hid (R=Fl.submit f d):=⟨_,Lib.hid rfl⟩
 rw [<-HR.out]
 by_cases hlong:200<d.entry.length
 · have HS:=Lib.hid (HR.out.trans (submit_long hlong))
   have hB2:(200:Int)<(d.entry.length:Int):=by omega
   go_enter Try.func134,Try.ntmps134
   go_wp2_with fail
   refine bodyPost_ret (v:=.agg #[.int .i64 4,.int .i64 0,.int .i64 0,.int .i64 0,.slice none 0 0]) (by simp [results,Try.results134,go_sem]) rfl ?_
   rw [HS.out]
   exact StepP.same hF hT hBw (((Below.refl w.heap.size w).alloc (Nat.le_refl _) _).alloc (by simp) _) rfl rfl
 · have hB2:decide ((200:Int)<(d.entry.length:Int))=false:=decide_eq_false (by omega)
   obtain ⟨vs,vb,hgB,hgF,hrs,hrb⟩:=(hF.below hx0).rd
   have hbox:Blk ((w.alloc (.cells #[.pointer (some ⟨q,o,none⟩)] 167)).alloc (.cells #[.int .i64 0,.int .i64 0,.int .i64 0,.int .i64 0,.slice none 0 0] 105)) w.heap.size 167 #[.pointer (some ⟨q,o,none⟩)]:=Blk.alloc (heap_alloc_new w _) _
   have hans:Blk ((w.alloc (.cells #[.pointer (some ⟨q,o,none⟩)] 167)).alloc (.cells #[.int .i64 0,.int .i64 0,.int .i64 0,.int .i64 0,.slice none 0 0] 105)) (w.heap.size+1) 105 #[.int .i64 0,.int .i64 0,.int .i64 0,.int .i64 0,.slice none 0 0]:=by
    have:=heap_alloc_new (w.alloc (.cells #[.pointer (some ⟨q,o,none⟩)] 167)) (.cells #[.int .i64 0,.int .i64 0,.int .i64 0,.int .i64 0,.slice none 0 0] 105)
    rw [World.size_alloc] at this
    exact this
   have hd0:=hd.below hxB
   have hF0:=hF.below hx0
   have hT0:=hT.size hx0.size
   have hK0:=Kept.of_below (tag:=tag) hx0 hBw
   go_enter Try.func134,Try.ntmps134
   go_upto_region 3 with (fail)
   generalize ((w.alloc (.cells #[.pointer (some ⟨q,o,none⟩)] 167)).alloc (.cells #[.int .i64 0,.int .i64 0,.int .i64 0,.int .i64 0,.slice none 0 0] 105))=w1 at *
   have g0:w1.cell? ⟨gF,0,none⟩=some vs:=hgF.cell 0
   obtain ⟨Av,cv,hvs,hncv,hcmv⟩:=hrs.form
   unfold maxLen at hcmv
   subst hvs
   have b0:w1.cell? ⟨w.heap.size,0,none⟩=some (.pointer (some ⟨q,o,none⟩)):=hbox.cell 0
   have e2:=hd0.2.2.2.2.1
   go_wp2_with fail
   have hq1:q<w1.heap.size:=by have:=hx0.size;omega
   have hg1:w.heap.size<w1.heap.size:=hbox.lt
   with_reducible refine (idxSh_any w1 _ _ f.sh w.heap.size q o d.time hrs b0 e2 hg1 hq1).mono ?_
   rintro e w2 ⟨rfl,hx2⟩
   have hx3:=hx0.trans (hx2.mono hx0.size)
   have hans2:=hans.below hx2 hans.lt
   have hbox2:=hbox.below hx2 hbox.lt
   have hd2:=hd0.below (hx2.mono (by have:=hx0.size;omega))
   have hF2:=hF0.below hx2
   have hT2:=hT0.size hx2.size
   have hgF2:=hgF.below hx2 hgF.lt
   have a0:w2.cell? ⟨w.heap.size+1,0,none⟩=some (.int .i64 0):=hans2.cell 0
   have a1:w2.cell? ⟨w.heap.size+1,1,none⟩=some (.int .i64 0):=hans2.cell 1
   have a2:w2.cell? ⟨w.heap.size+1,2,none⟩=some (.int .i64 0):=hans2.cell 2
   have a3:w2.cell? ⟨w.heap.size+1,3,none⟩=some (.int .i64 0):=hans2.cell 3
   have a4:w2.cell? ⟨w.heap.size+1,4,none⟩=some (.slice none 0 0):=hans2.cell 4
   have f0:=hans2.frozen 0
   have f1:=hans2.frozen 1
   have f2:=hans2.frozen 2
   have f3:=hans2.frozen 3
   have f4:=hans2.frozen 4
   cases hk:f.sh.findIdx? (Fl.inW d.time) with
   | none =>
     have HS:=Lib.hid (HR.out.trans (submit_none hlong hk))
     have hidx:idx none = -1:=rfl
     rw [hidx]
     clear hidx hk
     go_wp2_with fail
     have hW:set5 w2 (w.heap.size+1) (.int .i64 6) (.int .i64 0) (.int .i64 0) (.int .i64 0) (.slice none 0 0)=(((((w2.setCell ⟨w.heap.size+1,0,none⟩ (.int .i64 6)).setCell ⟨w.heap.size+1,1,none⟩ (.int .i64 0)).setCell ⟨w.heap.size+1,2,none⟩ (.int .i64 0)).setCell ⟨w.heap.size+1,3,none⟩ (.int .i64 0)).setCell ⟨w.heap.size+1,4,none⟩ (.slice none 0 0)):=rfl
     rw [<-hW]
     have hb5:=set5_blk (a:=.int .i64 6) (b:=.int .i64 0) (c:=.int .i64 0) (d:=.int .i64 0) (e:=.slice none 0 0) hans2
     have hxe:=set5_below (a:=.int .i64 6) (b:=.int .i64 0) (c:=.int .i64 0) (d:=.int .i64 0) (e:=.slice none 0 0) hx3 (Nat.le_succ _)
     clear hW
     generalize set5 w2 (w.heap.size+1) (.int .i64 6) (.int .i64 0) (.int .i64 0) (.int .i64 0) (.slice none 0 0)=W at *
     have s0:W.cell? ⟨w.heap.size+1,0,none⟩=some (.int .i64 6):=hb5.cell 0
     have s1:W.cell? ⟨w.heap.size+1,1,none⟩=some (.int .i64 0):=hb5.cell 1
     have s2:W.cell? ⟨w.heap.size+1,2,none⟩=some (.int .i64 0):=hb5.cell 2
     have s3:W.cell? ⟨w.heap.size+1,3,none⟩=some (.int .i64 0):=hb5.cell 3
     have s4:W.cell? ⟨w.heap.size+1,4,none⟩=some (.slice none 0 0):=hb5.cell 4
     exact bodyPost_ret (v:=.agg #[.int .i64 6,.int .i64 0,.int .i64 0,.int .i64 0,.slice none 0 0]) (by simp [results,Try.results134,go_sem,s0,s1,s2,s3,s4]) rfl (by rw [HS.out];exact StepP.same hF hT hBw hxe rfl rfl)
   | some k =>
     have hidx:idx (some k)=(k:Int):=rfl
     rw [hidx]
     obtain ⟨hltk,_,_⟩:=List.findIdx?_eq_some_iff_getElem.1 hk
     have hsk:f.sh[k]? = some f.sh[k]:=List.getElem?_eq_getElem hltk
     have hsub:=submit_at hlong hk hsk
     have hlen8:=hI.len
     have hfine:=(hI.sh k _ hsk).fine
     obtain ⟨vs',vb',us,ws,q0,q1,q2,q3,q4,q5,q6,q7⟩:=hF2
     have hvv:vs' = .slice Av f.sh.length cv/\vb'=vb:=by
      unfold Blk at q1 hgF2
      rw [q1] at hgF2
      injection hgF2 with h
      injection h with h _
      injection h with h
      injection h with h1 h2
      injection h2 with h2 _
      exact ⟨h1,h2⟩
     obtain ⟨rfl,rfl⟩:=hvv
     obtain ⟨gS,oS,cS,hvS,hgSB,hgSlt,hnS,_,hcS⟩:=q3.form (by omega)
     injection hvS with hvS _ hvc
     subst hvS hvc
     have huk:us[k]? = some (us[k]'(by omega)):=List.getElem?_eq_getElem _
     generalize f.sh[k]=s at *
     generalize us[k]'(by omega)=u at *
     have hcell:∀ (i:Nat) (x:Value),(shCells s u)[i]? = some x->w2.cell? ⟨gS,oS+k*7+i,none⟩=some x:=fun i x hx=>by
      rw [Nat.add_assoc]
      exact hcS _ x (flat_at shCells (fun _ _=>rfl) f.sh us k i s u x hsk huk hx)
     have p2:w2.cell? ⟨gS,oS+k*7+2,none⟩=some (.int .i64 s.st):=hcell 2 _ rfl
     have p3:w2.cell? ⟨gS,oS+k*7+3,none⟩=some u.ev:=hcell 3 _ rfl
     have hTS:=q4 k s u hsk huk
     obtain ⟨⟨es,hes,hTg,hin⟩,hTr,hTseg⟩:=id hTS
     obtain ⟨A5,c5,hev,hlc5,hcm5⟩:=hes.shape
     have hgc:w2.cell? ⟨gF,0,none⟩=some (.slice (some ⟨gS,oS,none⟩) f.sh.length cv):=q1.cell 0
     have hkB:(k:Int)<(f.sh.length:Int):=by omega
     have hk0:(0:Int)<=(k:Int):=by omega
     have hEL:BList w2 (fun b=>B<=b/\b<w2.heap.size) u.ev s.ents:=hTS.1.ownL.blist
     obtain ⟨hqB2,_,_,_,_,⟨Ae2,ce2,e3,hde2⟩,_⟩:=hd2
     have b2:w2.cell? ⟨w.heap.size,0,none⟩=some (.pointer (some ⟨q,o,none⟩)):=hbox2.cell 0
     rw [hev] at p3 hEL
     have HSUB:=Lib.hid (HR.out.trans hsub)
     have HEV:=Lib.hid hev
     clear hidx hk hsub hcell hcS hev
     by_cases hst:s.st=1
     · have hstB:(s.st != 1)=false:=by rw [bne_eq_false_iff_eq];exact hst
       have HST:=Lib.hid hst
       clear hst
       go_wp2_with fail
       with_reducible refine (idxEnt_any w2 _ _ _ s.ents w.heap.size q o Ae2 ce2 d.entry hEL b2 e3 hde2).mono ?_
       rintro e w2' ⟨rfl,hww⟩
       subst hww
       cases hie:s.ents.findIdx? (·==d.entry) with
       | some i =>
         have hidx:idx (some i)=(i:Int):=rfl
         rw [hidx]
         have HS:Hid (R=(f,⟨0,(k:Int),(i:Int),0,[]⟩)):=Lib.hid (by rw [HSUB.out,if_neg (by rw [HST.out];simp),hie])
         have hiB:decide ((i:Int)<0)=false:=decide_eq_false (by omega)
         clear hidx hie
         go_wp2_with fail
         have hW:set5 w2' (w.heap.size+1) (.int .i64 0) (.int .i64 (k:Int)) (.int .i64 (i:Int)) (.int .i64 0) (.slice none 0 0)=(((((w2'.setCell ⟨w.heap.size+1,0,none⟩ (.int .i64 0)).setCell ⟨w.heap.size+1,1,none⟩ (.int .i64 (k:Int))).setCell ⟨w.heap.size+1,2,none⟩ (.int .i64 (i:Int))).setCell ⟨w.heap.size+1,3,none⟩ (.int .i64 0)).setCell ⟨w.heap.size+1,4,none⟩ (.slice none 0 0)):=rfl
         rw [<-hW]
         have hb5:=set5_blk (a:=.int .i64 0) (b:=.int .i64 (k:Int)) (c:=.int .i64 (i:Int)) (d:=.int .i64 0) (e:=.slice none 0 0) hans2
         have hxe:=set5_below (a:=.int .i64 0) (b:=.int .i64 (k:Int)) (c:=.int .i64 (i:Int)) (d:=.int .i64 0) (e:=.slice none 0 0) hx3 (Nat.le_succ _)
         clear hW
         generalize set5 w2' (w.heap.size+1) (.int .i64 0) (.int .i64 (k:Int)) (.int .i64 (i:Int)) (.int .i64 0) (.slice none 0 0)=W at *
         have s0:W.cell? ⟨w.heap.size+1,0,none⟩=some (.int .i64 0):=hb5.cell 0
         have s1:W.cell? ⟨w.heap.size+1,1,none⟩=some (.int .i64 (k:Int)):=hb5.cell 1
         have s2:W.cell? ⟨w.heap.size+1,2,none⟩=some (.int .i64 (i:Int)):=hb5.cell 2
         have s3:W.cell? ⟨w.heap.size+1,3,none⟩=some (.int .i64 0):=hb5.cell 3
         have s4:W.cell? ⟨w.heap.size+1,4,none⟩=some (.slice none 0 0):=hb5.cell 4
         exact bodyPost_ret (v:=.agg #[.int .i64 0,.int .i64 (k:Int),.int .i64 (i:Int),.int .i64 0,.slice none 0 0]) (by simp [results,Try.results134,go_sem,s0,s1,s2,s3,s4]) rfl (by rw [HS.out];exact StepP.same hF hT hBw hxe rfl rfl)
       | none =>
         have hidx:idx none = -1:=rfl
         rw [hidx]
         by_cases h100:s.ents.length=100
         · have HS:Hid (R=(f,Fl.no 5)):=Lib.hid (by rw [HSUB.out,if_neg (by rw [HST.out];simp),hie];simp only;rw [if_pos h100])
           have hB100:((s.ents.length:Int)==100)=true:=by rw [beq_iff_eq];omega
           clear hidx hie h100
           go_wp2_with fail
           have hW:set5 w2' (w.heap.size+1) (.int .i64 5) (.int .i64 0) (.int .i64 0) (.int .i64 0) (.slice none 0 0)=(((((w2'.setCell ⟨w.heap.size+1,0,none⟩ (.int .i64 5)).setCell ⟨w.heap.size+1,1,none⟩ (.int .i64 0)).setCell ⟨w.heap.size+1,2,none⟩ (.int .i64 0)).setCell ⟨w.heap.size+1,3,none⟩ (.int .i64 0)).setCell ⟨w.heap.size+1,4,none⟩ (.slice none 0 0)):=rfl
           rw [<-hW]
           have hb5:=set5_blk (a:=.int .i64 5) (b:=.int .i64 0) (c:=.int .i64 0) (d:=.int .i64 0) (e:=.slice none 0 0) hans2
           have hxe:=set5_below (a:=.int .i64 5) (b:=.int .i64 0) (c:=.int .i64 0) (d:=.int .i64 0) (e:=.slice none 0 0) hx3 (Nat.le_succ _)
           clear hW
           generalize set5 w2' (w.heap.size+1) (.int .i64 5) (.int .i64 0) (.int .i64 0) (.int .i64 0) (.slice none 0 0)=W at *
           have s0:W.cell? ⟨w.heap.size+1,0,none⟩=some (.int .i64 5):=hb5.cell 0
           have s1:W.cell? ⟨w.heap.size+1,1,none⟩=some (.int .i64 0):=hb5.cell 1
           have s2:W.cell? ⟨w.heap.size+1,2,none⟩=some (.int .i64 0):=hb5.cell 2
           have s3:W.cell? ⟨w.heap.size+1,3,none⟩=some (.int .i64 0):=hb5.cell 3
           have s4:W.cell? ⟨w.heap.size+1,4,none⟩=some (.slice none 0 0):=hb5.cell 4
           exact bodyPost_ret (v:=.agg #[.int .i64 5,.int .i64 0,.int .i64 0,.int .i64 0,.slice none 0 0]) (by simp [results,Try.results134,go_sem,s0,s1,s2,s3,s4]) rfl (by rw [HS.out];exact StepP.same hF hT hBw hxe rfl rfl)
         · have HS:Hid (R=(⟨f.sh.set k { s with ents:=s.ents++[d.entry] },f.book⟩,⟨0,(k:Int),(s.ents.length:Int),0,[]⟩)):=Lib.hid (by rw [HSUB.out,if_neg (by rw [HST.out];simp),hie];simp only;rw [if_neg h100])
           have hB100:((s.ents.length:Int)==100)=false:=by rw [beq_eq_false_iff_ne];omega
           clear hidx hie h100
           have hS0:SubS w q o Ae2 d.entry.length ce2 w2'.drew:=⟨b2,e3⟩
           have hgw:w.heap.size<w2'.heap.size:=hbox2.lt
           have hsz3:=hx3.size
           have hBw2:B<=w2'.heap.size:=Nat.le_trans hBw hsz3
           have hqw:q<w2'.heap.size:=Nat.lt_of_lt_of_le hqB2 hBw2
           have hcl:d.entry.length<=140737488355000:=by omega
           obtain ⟨curS,hcurS⟩:∃ cur,w2'.heap[gS]? = some (.cells cur 156 (0,0)):=(Own.type q3 gS rfl).2
           have hrow:(Value.slice A5 s.ents.length c5).ownBlock≠some w.heap.size:=fun e=>Own.ne_blk hes hbox2 (by decide) (by rw [HEV.out];exact e)
           have hrowS:(Value.slice A5 s.ents.length c5).ownBlock≠some gS:=fun e=>Own.ne_blk hes hcurS (by decide) (by rw [HEV.out];exact e)
           have hgSw:gS≠w.heap.size:=fun e=>by
            subst e
            have h1:=hbox2
            unfold Blk at h1
            rw [hcurS] at h1
            injection h1 with h1
            injection h1 with _ h2
            exact absurd h2 (by decide)
           have hgSq:gS≠q:=by omega
           have hfit:s.ents.length<=100:=by have:=hfine.1;omega
           clear hsz3
           go_upto_region 14 with (fail)
           refine wp_region_held_drew (S:=(fun z:World=>z.cell? ⟨w.heap.size,0,none⟩=some (.pointer (some ⟨q,o,none⟩))/\z.cell? ⟨q,o+3,none⟩=some (.slice Ae2 d.entry.length ce2))) (by kernel_rfl) ?_ (fun hHeld=>?_)
           · exact hS0
           refine step_tk 0 (h:=?_)
           refine step_tk 1 (h:=?_)
           refine step_tk 2 (h:=?_)
           refine step_tk 3 (h:=?_)
           refine step_tk 5 (h:=?_)
           refine step_tk 6 (h:=?_)
           refine step_tk 7 (h:=?_)
           refine step_tk 8 (h:=?_)
           refine step_two 4 9 rfl rfl (by kernel_rfl) (by rfl) (by rfl) (fun K hK=>?_) (fun K hK=>?_)
           · skip
             go_simp
             refine hK.out _ _ ?_ (fun hHeld=>?_)
             · exact hS0
             clear hK K
             try simp only [Act.put,List.setIfInBounds_toArray,List.set_cons_zero,List.set_cons_succ]
             refine step_alone 9 rfl (by kernel_rfl) (by rfl) (fun K hK=>?_)
             go_simp
             refine (clone_any w2'.drew _ (.slice Ae2 d.entry.length ce2) d.entry (hde2.drewN 1) hcl).mono ?_
             rintro e w6 ⟨v6,rfl,ho6,hx6⟩
             obtain ⟨A6,c6,hv6,_,_⟩:=Own.shape ho6
             subst hv6
             have hS6:=hS0.keep hx6 hgw hqw
             have hsz6:w2'.heap.size<=w6.heap.size:=by have:=hx6.size;exact this
             have p36:w6.cell? ⟨gS,oS+k*7+3,none⟩=some (.slice A5 s.ents.length c5):=(hx6.cell (p:=⟨gS,oS+k*7+3,none⟩) hgSlt).trans p3
             have hx7:Below w2'.heap.size w2' (w6.alloc (.cells #[.slice A6 d.entry.length c6] 22)):=Below.alloc (Below.trans (Below.refl w2'.heap.size w2').drew hx6) hsz6 _
             have hS7:=hS6.keep ((Below.refl _ w6).alloc (Nat.le_refl _) (.cells #[.slice A6 d.entry.length c6] 22)) (Nat.lt_of_lt_of_le hgw hsz6) (Nat.lt_of_lt_of_le hqw hsz6)
             have p37:(w6.alloc (.cells #[.slice A6 d.entry.length c6] 22)).cell? ⟨gS,oS+k*7+3,none⟩=some (.slice A5 s.ents.length c5):=(hx7.cell (p:=⟨gS,oS+k*7+3,none⟩) hgSlt).trans p3
             go_simp
             refine hK.out _ _ ?_ (fun hHeld=>?_)
             · exact hS6
             clear hK K
             try simp only [Act.put,List.setIfInBounds_toArray,List.set_cons_zero,List.set_cons_succ]
             refine step_alone 10 rfl (by kernel_rfl) (by rfl) (fun K hK=>?_)
             go_simp
             refine hK.out _ _ ?_ (fun hHeld=>?_)
             · exact hS7
             clear hK K
             try simp only [Act.put,List.setIfInBounds_toArray,List.set_cons_zero,List.set_cons_succ]
             refine step_alone 11 rfl (by kernel_rfl) (by rfl) (fun K hK=>?_)
             have hes7:=hes.below hx7
             have hsrc:=SlAt.new w6 22 [.slice A6 d.entry.length c6] 1 rfl (by decide)
             refine wp_append_Own (w6.alloc (.cells #[.slice A6 d.entry.length c6] 22)) (.tmp 58) (.tmp 64) 40 (by rfl) B 22 i0 _ 1 24 Try.underlying40 hi hz0 hz1 hz2 rfl (by omega) (.slice A5 s.ents.length c5) s.ents.length es (by rfl) (by rw [<-HEV.out];exact hes7) _ _ 1 [.slice A6 d.entry.length c6] (by rfl) hsrc (by simp [Value.oneCell']) (by simp only [maxLen];omega) (by omega) (by have:=hx7.size;omega) ?_
             intro v8 w8 hown8 hgr8 hat8
             obtain ⟨A8,c8,hv8,_,_⟩:=Own.shape hown8
             subst hv8
             have hS8:=hS7.grown hgr8 (fun b hb=>(hes.lt b (by rw [HEV.out];exact hb)).1) hqB2 (Nat.lt_of_lt_of_le hgw hx7.size) (Nat.lt_of_lt_of_le hqw hx7.size) hrow
             have p38:w8.cell? ⟨gS,oS+k*7+3,none⟩=some (.slice A5 s.ents.length c5):=(World.cell?_of_block (hgr8.block gS (Nat.lt_of_lt_of_le hgSlt hx7.size) (fun e=>hrowS e.symm))).trans p37
             have pf8:w8.frozen? ⟨gS,oS+k*7+3,none⟩=false:=frozen_of_row w8 gS _ curS 156 ((hgr8.block gS (Nat.lt_of_lt_of_le hgSlt hx7.size) (fun e=>hrowS e.symm)).trans ((hx7.block gS hgSlt).trans hcurS))
             refine hK.out _ _ ?_ (fun hHeld=>?_)
             · exact hS8
             clear hK K
             try simp only [Act.put,List.setIfInBounds_toArray,List.set_cons_zero,List.set_cons_succ]
             refine step_tk 12 (h:=?_)
             refine step_tk 13 (h:=?_)
             refine step_alone 14 rfl (by kernel_rfl) (by rfl) (fun K hK=>?_)
             go_simp
             refine hK.out _ _ ?_ (fun hHeld=>?_)
             · exact hS8.set hgSw hgSq _ _
             clear hK K
             try simp only [Act.put,List.setIfInBounds_toArray,List.set_cons_zero,List.set_cons_succ]
             refine wpAnyH_done (by kernel_rfl) ?_ _
             have hT8:=submit_take hBw hx3 q0 q1 q2 q3 q4 q5 q6 q7 hT2 hsk huk hes hTg hin HEV hans2 ho6 hx7 hgr8 hown8 hat8
             have hans9:=hT8.1
             have HST8:=Lib.hid hT8.2
             clear hT8
             have a90:(w8.setCell ⟨gS,oS+k*7+3,none⟩ (.slice A8 (s.ents.length+1) c8)).cell? ⟨w.heap.size+1,0,none⟩=some (.int .i64 0):=hans9.cell 0
             have f90:=hans9.frozen 0
             have a91:(w8.setCell ⟨gS,oS+k*7+3,none⟩ (.slice A8 (s.ents.length+1) c8)).cell? ⟨w.heap.size+1,1,none⟩=some (.int .i64 0):=hans9.cell 1
             have f91:=hans9.frozen 1
             have a92:(w8.setCell ⟨gS,oS+k*7+3,none⟩ (.slice A8 (s.ents.length+1) c8)).cell? ⟨w.heap.size+1,2,none⟩=some (.int .i64 0):=hans9.cell 2
             have f92:=hans9.frozen 2
             have a93:(w8.setCell ⟨gS,oS+k*7+3,none⟩ (.slice A8 (s.ents.length+1) c8)).cell? ⟨w.heap.size+1,3,none⟩=some (.int .i64 0):=hans9.cell 3
             have f93:=hans9.frozen 3
             have a94:(w8.setCell ⟨gS,oS+k*7+3,none⟩ (.slice A8 (s.ents.length+1) c8)).cell? ⟨w.heap.size+1,4,none⟩=some (.slice none 0 0):=hans9.cell 4
             have f94:=hans9.frozen 4
             generalize hw9:w8.setCell ⟨gS,oS+k*7+3,none⟩ (.slice A8 (s.ents.length+1) c8)=w9 at *
             go_wp2_with fail
             have hW:set5 w9 (w.heap.size+1) (.int .i64 0) (.int .i64 (k:Int)) (.int .i64 (s.ents.length:Int)) (.int .i64 0) (.slice none 0 0)=(((((w9.setCell ⟨w.heap.size+1,0,none⟩ (.int .i64 0)).setCell ⟨w.heap.size+1,1,none⟩ (.int .i64 (k:Int))).setCell ⟨w.heap.size+1,2,none⟩ (.int .i64 (s.ents.length:Int))).setCell ⟨w.heap.size+1,3,none⟩ (.int .i64 0)).setCell ⟨w.heap.size+1,4,none⟩ (.slice none 0 0)):=rfl
             rw [<-hW]
             have hb5:=set5_blk (a:=.int .i64 0) (b:=.int .i64 (k:Int)) (c:=.int .i64 (s.ents.length:Int)) (d:=.int .i64 0) (e:=.slice none 0 0) hans9
             clear hW
             generalize set5 w9 (w.heap.size+1) (.int .i64 0) (.int .i64 (k:Int)) (.int .i64 (s.ents.length:Int)) (.int .i64 0) (.slice none 0 0)=W at *
             have s0:W.cell? ⟨w.heap.size+1,0,none⟩=some (.int .i64 0):=hb5.cell 0
             have s1:W.cell? ⟨w.heap.size+1,1,none⟩=some (.int .i64 (k:Int)):=hb5.cell 1
             have s2:W.cell? ⟨w.heap.size+1,2,none⟩=some (.int .i64 (s.ents.length:Int)):=hb5.cell 2
             have s3:W.cell? ⟨w.heap.size+1,3,none⟩=some (.int .i64 0):=hb5.cell 3
             have s4:W.cell? ⟨w.heap.size+1,4,none⟩=some (.slice none 0 0):=hb5.cell 4
             exact bodyPost_ret (v:=.agg #[.int .i64 0,.int .i64 (k:Int),.int .i64 (s.ents.length:Int),.int .i64 0,.slice none 0 0]) (by simp [results,Try.results134,go_sem,s0,s1,s2,s3,s4]) rfl (by rw [HS.out];exact HST8.out)
           · skip
             go_simp
             refine (clone_any w2'.drew _ (.slice Ae2 d.entry.length ce2) d.entry (hde2.drewN 1) hcl).mono ?_
             rintro e w6 ⟨v6,rfl,ho6,hx6⟩
             obtain ⟨A6,c6,hv6,_,_⟩:=Own.shape ho6
             subst hv6
             have hS6:=hS0.keep hx6 hgw hqw
             have hsz6:w2'.heap.size<=w6.heap.size:=by have:=hx6.size;exact this
             have p36:w6.cell? ⟨gS,oS+k*7+3,none⟩=some (.slice A5 s.ents.length c5):=(hx6.cell (p:=⟨gS,oS+k*7+3,none⟩) hgSlt).trans p3
             have hx7:Below w2'.heap.size w2' (w6.alloc (.cells #[.slice A6 d.entry.length c6] 22)):=Below.alloc (Below.trans (Below.refl w2'.heap.size w2').drew hx6) hsz6 _
             have hS7:=hS6.keep ((Below.refl _ w6).alloc (Nat.le_refl _) (.cells #[.slice A6 d.entry.length c6] 22)) (Nat.lt_of_lt_of_le hgw hsz6) (Nat.lt_of_lt_of_le hqw hsz6)
             have p37:(w6.alloc (.cells #[.slice A6 d.entry.length c6] 22)).cell? ⟨gS,oS+k*7+3,none⟩=some (.slice A5 s.ents.length c5):=(hx7.cell (p:=⟨gS,oS+k*7+3,none⟩) hgSlt).trans p3
             go_simp
             refine hK.out _ _ ?_ (fun hHeld=>?_)
             · exact hS6
             clear hK K
             try simp only [Act.put,List.setIfInBounds_toArray,List.set_cons_zero,List.set_cons_succ]
             refine step_two 4 10 rfl rfl (by kernel_rfl) (by rfl) (by rfl) (fun K hK=>?_) (fun K hK=>?_)
             · skip
               go_simp
               refine hK.out _ _ ?_ (fun hHeld=>?_)
               · exact hS6
               clear hK K
               try simp only [Act.put,List.setIfInBounds_toArray,List.set_cons_zero,List.set_cons_succ]
               refine step_alone 10 rfl (by kernel_rfl) (by rfl) (fun K hK=>?_)
               go_simp
               refine hK.out _ _ ?_ (fun hHeld=>?_)
               · exact hS7
               clear hK K
               try simp only [Act.put,List.setIfInBounds_toArray,List.set_cons_zero,List.set_cons_succ]
               refine step_alone 11 rfl (by kernel_rfl) (by rfl) (fun K hK=>?_)
               have hes7:=hes.below hx7
               have hsrc:=SlAt.new w6 22 [.slice A6 d.entry.length c6] 1 rfl (by decide)
               refine wp_append_Own (w6.alloc (.cells #[.slice A6 d.entry.length c6] 22)) (.tmp 58) (.tmp 64) 40 (by rfl) B 22 i0 _ 1 24 Try.underlying40 hi hz0 hz1 hz2 rfl (by omega) (.slice A5 s.ents.length c5) s.ents.length es (by rfl) (by rw [<-HEV.out];exact hes7) _ _ 1 [.slice A6 d.entry.length c6] (by rfl) hsrc (by simp [Value.oneCell']) (by simp only [maxLen];omega) (by omega) (by have:=hx7.size;omega) ?_
               intro v8 w8 hown8 hgr8 hat8
               obtain ⟨A8,c8,hv8,_,_⟩:=Own.shape hown8
               subst hv8
               have hS8:=hS7.grown hgr8 (fun b hb=>(hes.lt b (by rw [HEV.out];exact hb)).1) hqB2 (Nat.lt_of_lt_of_le hgw hx7.size) (Nat.lt_of_lt_of_le hqw hx7.size) hrow
               have p38:w8.cell? ⟨gS,oS+k*7+3,none⟩=some (.slice A5 s.ents.length c5):=(World.cell?_of_block (hgr8.block gS (Nat.lt_of_lt_of_le hgSlt hx7.size) (fun e=>hrowS e.symm))).trans p37
               have pf8:w8.frozen? ⟨gS,oS+k*7+3,none⟩=false:=frozen_of_row w8 gS _ curS 156 ((hgr8.block gS (Nat.lt_of_lt_of_le hgSlt hx7.size) (fun e=>hrowS e.symm)).trans ((hx7.block gS hgSlt).trans hcurS))
               refine hK.out _ _ ?_ (fun hHeld=>?_)
               · exact hS8
               clear hK K
               try simp only [Act.put,List.setIfInBounds_toArray,List.set_cons_zero,List.set_cons_succ]
               refine step_tk 12 (h:=?_)
               refine step_tk 13 (h:=?_)
               refine step_alone 14 rfl (by kernel_rfl) (by rfl) (fun K hK=>?_)
               go_simp
               refine hK.out _ _ ?_ (fun hHeld=>?_)
               · exact hS8.set hgSw hgSq _ _
               clear hK K
               try simp only [Act.put,List.setIfInBounds_toArray,List.set_cons_zero,List.set_cons_succ]
               refine wpAnyH_done (by kernel_rfl) ?_ _
               have hT8:=submit_take hBw hx3 q0 q1 q2 q3 q4 q5 q6 q7 hT2 hsk huk hes hTg hin HEV hans2 ho6 hx7 hgr8 hown8 hat8
               have hans9:=hT8.1
               have HST8:=Lib.hid hT8.2
               clear hT8
               have a90:(w8.setCell ⟨gS,oS+k*7+3,none⟩ (.slice A8 (s.ents.length+1) c8)).cell? ⟨w.heap.size+1,0,none⟩=some (.int .i64 0):=hans9.cell 0
               have f90:=hans9.frozen 0
               have a91:(w8.setCell ⟨gS,oS+k*7+3,none⟩ (.slice A8 (s.ents.length+1) c8)).cell? ⟨w.heap.size+1,1,none⟩=some (.int .i64 0):=hans9.cell 1
               have f91:=hans9.frozen 1
               have a92:(w8.setCell ⟨gS,oS+k*7+3,none⟩ (.slice A8 (s.ents.length+1) c8)).cell? ⟨w.heap.size+1,2,none⟩=some (.int .i64 0):=hans9.cell 2
               have f92:=hans9.frozen 2
               have a93:(w8.setCell ⟨gS,oS+k*7+3,none⟩ (.slice A8 (s.ents.length+1) c8)).cell? ⟨w.heap.size+1,3,none⟩=some (.int .i64 0):=hans9.cell 3
               have f93:=hans9.frozen 3
               have a94:(w8.setCell ⟨gS,oS+k*7+3,none⟩ (.slice A8 (s.ents.length+1) c8)).cell? ⟨w.heap.size+1,4,none⟩=some (.slice none 0 0):=hans9.cell 4
               have f94:=hans9.frozen 4
               generalize hw9:w8.setCell ⟨gS,oS+k*7+3,none⟩ (.slice A8 (s.ents.length+1) c8)=w9 at *
               go_wp2_with fail
               have hW:set5 w9 (w.heap.size+1) (.int .i64 0) (.int .i64 (k:Int)) (.int .i64 (s.ents.length:Int)) (.int .i64 0) (.slice none 0 0)=(((((w9.setCell ⟨w.heap.size+1,0,none⟩ (.int .i64 0)).setCell ⟨w.heap.size+1,1,none⟩ (.int .i64 (k:Int))).setCell ⟨w.heap.size+1,2,none⟩ (.int .i64 (s.ents.length:Int))).setCell ⟨w.heap.size+1,3,none⟩ (.int .i64 0)).setCell ⟨w.heap.size+1,4,none⟩ (.slice none 0 0)):=rfl
               rw [<-hW]
               have hb5:=set5_blk (a:=.int .i64 0) (b:=.int .i64 (k:Int)) (c:=.int .i64 (s.ents.length:Int)) (d:=.int .i64 0) (e:=.slice none 0 0) hans9
               clear hW
               generalize set5 w9 (w.heap.size+1) (.int .i64 0) (.int .i64 (k:Int)) (.int .i64 (s.ents.length:Int)) (.int .i64 0) (.slice none 0 0)=W at *
               have s0:W.cell? ⟨w.heap.size+1,0,none⟩=some (.int .i64 0):=hb5.cell 0
               have s1:W.cell? ⟨w.heap.size+1,1,none⟩=some (.int .i64 (k:Int)):=hb5.cell 1
               have s2:W.cell? ⟨w.heap.size+1,2,none⟩=some (.int .i64 (s.ents.length:Int)):=hb5.cell 2
               have s3:W.cell? ⟨w.heap.size+1,3,none⟩=some (.int .i64 0):=hb5.cell 3
               have s4:W.cell? ⟨w.heap.size+1,4,none⟩=some (.slice none 0 0):=hb5.cell 4
               exact bodyPost_ret (v:=.agg #[.int .i64 0,.int .i64 (k:Int),.int .i64 (s.ents.length:Int),.int .i64 0,.slice none 0 0]) (by simp [results,Try.results134,go_sem,s0,s1,s2,s3,s4]) rfl (by rw [HS.out];exact HST8.out)
             · skip
               go_simp
               refine hK.out _ _ ?_ (fun hHeld=>?_)
               · exact hS7
               clear hK K
               try simp only [Act.put,List.setIfInBounds_toArray,List.set_cons_zero,List.set_cons_succ]
               refine step_alone 4 rfl (by kernel_rfl) (by rfl) (fun K hK=>?_)
               go_simp
               refine hK.out _ _ ?_ (fun hHeld=>?_)
               · exact hS7
               clear hK K
               try simp only [Act.put,List.setIfInBounds_toArray,List.set_cons_zero,List.set_cons_succ]
               refine step_alone 11 rfl (by kernel_rfl) (by rfl) (fun K hK=>?_)
               have hes7:=hes.below hx7
               have hsrc:=SlAt.new w6 22 [.slice A6 d.entry.length c6] 1 rfl (by decide)
               refine wp_append_Own (w6.alloc (.cells #[.slice A6 d.entry.length c6] 22)) (.tmp 58) (.tmp 64) 40 (by rfl) B 22 i0 _ 1 24 Try.underlying40 hi hz0 hz1 hz2 rfl (by omega) (.slice A5 s.ents.length c5) s.ents.length es (by rfl) (by rw [<-HEV.out];exact hes7) _ _ 1 [.slice A6 d.entry.length c6] (by rfl) hsrc (by simp [Value.oneCell']) (by simp only [maxLen];omega) (by omega) (by have:=hx7.size;omega) ?_
               intro v8 w8 hown8 hgr8 hat8
               obtain ⟨A8,c8,hv8,_,_⟩:=Own.shape hown8
               subst hv8
               have hS8:=hS7.grown hgr8 (fun b hb=>(hes.lt b (by rw [HEV.out];exact hb)).1) hqB2 (Nat.lt_of_lt_of_le hgw hx7.size) (Nat.lt_of_lt_of_le hqw hx7.size) hrow
               have p38:w8.cell? ⟨gS,oS+k*7+3,none⟩=some (.slice A5 s.ents.length c5):=(World.cell?_of_block (hgr8.block gS (Nat.lt_of_lt_of_le hgSlt hx7.size) (fun e=>hrowS e.symm))).trans p37
               have pf8:w8.frozen? ⟨gS,oS+k*7+3,none⟩=false:=frozen_of_row w8 gS _ curS 156 ((hgr8.block gS (Nat.lt_of_lt_of_le hgSlt hx7.size) (fun e=>hrowS e.symm)).trans ((hx7.block gS hgSlt).trans hcurS))
               refine hK.out _ _ ?_ (fun hHeld=>?_)
               · exact hS8
               clear hK K
               try simp only [Act.put,List.setIfInBounds_toArray,List.set_cons_zero,List.set_cons_succ]
               refine step_tk 12 (h:=?_)
               refine step_tk 13 (h:=?_)
               refine step_alone 14 rfl (by kernel_rfl) (by rfl) (fun K hK=>?_)
               go_simp
               refine hK.out _ _ ?_ (fun hHeld=>?_)
               · exact hS8.set hgSw hgSq _ _
               clear hK K
               try simp only [Act.put,List.setIfInBounds_toArray,List.set_cons_zero,List.set_cons_succ]
               refine wpAnyH_done (by kernel_rfl) ?_ _
               have hT8:=submit_take hBw hx3 q0 q1 q2 q3 q4 q5 q6 q7 hT2 hsk huk hes hTg hin HEV hans2 ho6 hx7 hgr8 hown8 hat8
               have hans9:=hT8.1
               have HST8:=Lib.hid hT8.2
               clear hT8
               have a90:(w8.setCell ⟨gS,oS+k*7+3,none⟩ (.slice A8 (s.ents.length+1) c8)).cell? ⟨w.heap.size+1,0,none⟩=some (.int .i64 0):=hans9.cell 0
               have f90:=hans9.frozen 0
               have a91:(w8.setCell ⟨gS,oS+k*7+3,none⟩ (.slice A8 (s.ents.length+1) c8)).cell? ⟨w.heap.size+1,1,none⟩=some (.int .i64 0):=hans9.cell 1
               have f91:=hans9.frozen 1
               have a92:(w8.setCell ⟨gS,oS+k*7+3,none⟩ (.slice A8 (s.ents.length+1) c8)).cell? ⟨w.heap.size+1,2,none⟩=some (.int .i64 0):=hans9.cell 2
               have f92:=hans9.frozen 2
               have a93:(w8.setCell ⟨gS,oS+k*7+3,none⟩ (.slice A8 (s.ents.length+1) c8)).cell? ⟨w.heap.size+1,3,none⟩=some (.int .i64 0):=hans9.cell 3
               have f93:=hans9.frozen 3
               have a94:(w8.setCell ⟨gS,oS+k*7+3,none⟩ (.slice A8 (s.ents.length+1) c8)).cell? ⟨w.heap.size+1,4,none⟩=some (.slice none 0 0):=hans9.cell 4
               have f94:=hans9.frozen 4
               generalize hw9:w8.setCell ⟨gS,oS+k*7+3,none⟩ (.slice A8 (s.ents.length+1) c8)=w9 at *
               go_wp2_with fail
               have hW:set5 w9 (w.heap.size+1) (.int .i64 0) (.int .i64 (k:Int)) (.int .i64 (s.ents.length:Int)) (.int .i64 0) (.slice none 0 0)=(((((w9.setCell ⟨w.heap.size+1,0,none⟩ (.int .i64 0)).setCell ⟨w.heap.size+1,1,none⟩ (.int .i64 (k:Int))).setCell ⟨w.heap.size+1,2,none⟩ (.int .i64 (s.ents.length:Int))).setCell ⟨w.heap.size+1,3,none⟩ (.int .i64 0)).setCell ⟨w.heap.size+1,4,none⟩ (.slice none 0 0)):=rfl
               rw [<-hW]
               have hb5:=set5_blk (a:=.int .i64 0) (b:=.int .i64 (k:Int)) (c:=.int .i64 (s.ents.length:Int)) (d:=.int .i64 0) (e:=.slice none 0 0) hans9
               clear hW
               generalize set5 w9 (w.heap.size+1) (.int .i64 0) (.int .i64 (k:Int)) (.int .i64 (s.ents.length:Int)) (.int .i64 0) (.slice none 0 0)=W at *
               have s0:W.cell? ⟨w.heap.size+1,0,none⟩=some (.int .i64 0):=hb5.cell 0
               have s1:W.cell? ⟨w.heap.size+1,1,none⟩=some (.int .i64 (k:Int)):=hb5.cell 1
               have s2:W.cell? ⟨w.heap.size+1,2,none⟩=some (.int .i64 (s.ents.length:Int)):=hb5.cell 2
               have s3:W.cell? ⟨w.heap.size+1,3,none⟩=some (.int .i64 0):=hb5.cell 3
               have s4:W.cell? ⟨w.heap.size+1,4,none⟩=some (.slice none 0 0):=hb5.cell 4
               exact bodyPost_ret (v:=.agg #[.int .i64 0,.int .i64 (k:Int),.int .i64 (s.ents.length:Int),.int .i64 0,.slice none 0 0]) (by simp [results,Try.results134,go_sem,s0,s1,s2,s3,s4]) rfl (by rw [HS.out];exact HST8.out)
     · have hstB:(s.st != 1)=true:=by rw [bne_iff_ne];exact hst
       have HS:Hid (R=(f,Fl.no 8)):=Lib.hid (by rw [HSUB.out,if_pos hst])
       clear hst
       go_wp2_with fail
       have hW:set5 w2 (w.heap.size+1) (.int .i64 8) (.int .i64 0) (.int .i64 0) (.int .i64 0) (.slice none 0 0)=(((((w2.setCell ⟨w.heap.size+1,0,none⟩ (.int .i64 8)).setCell ⟨w.heap.size+1,1,none⟩ (.int .i64 0)).setCell ⟨w.heap.size+1,2,none⟩ (.int .i64 0)).setCell ⟨w.heap.size+1,3,none⟩ (.int .i64 0)).setCell ⟨w.heap.size+1,4,none⟩ (.slice none 0 0)):=rfl
       rw [<-hW]
       have hb5:=set5_blk (a:=.int .i64 8) (b:=.int .i64 0) (c:=.int .i64 0) (d:=.int .i64 0) (e:=.slice none 0 0) hans2
       have hxe:=set5_below (a:=.int .i64 8) (b:=.int .i64 0) (c:=.int .i64 0) (d:=.int .i64 0) (e:=.slice none 0 0) hx3 (Nat.le_succ _)
       clear hW
       generalize set5 w2 (w.heap.size+1) (.int .i64 8) (.int .i64 0) (.int .i64 0) (.int .i64 0) (.slice none 0 0)=W at *
       have s0:W.cell? ⟨w.heap.size+1,0,none⟩=some (.int .i64 8):=hb5.cell 0
       have s1:W.cell? ⟨w.heap.size+1,1,none⟩=some (.int .i64 0):=hb5.cell 1
       have s2:W.cell? ⟨w.heap.size+1,2,none⟩=some (.int .i64 0):=hb5.cell 2
       have s3:W.cell? ⟨w.heap.size+1,3,none⟩=some (.int .i64 0):=hb5.cell 3
       have s4:W.cell? ⟨w.heap.size+1,4,none⟩=some (.slice none 0 0):=hb5.cell 4
       exact bodyPost_ret (v:=.agg #[.int .i64 8,.int .i64 0,.int .i64 0,.int .i64 0,.slice none 0 0]) (by simp [results,Try.results134,go_sem,s0,s1,s2,s3,s4]) rfl (by rw [HS.out];exact StepP.same hF hT hBw hxe rfl rfl)
end Go.Proofs.Ytfdibjgmbdkbcaa
namespace Go.Proofs.Ytfdibjgmbdkbcaa
open Go.RowKit Go.Lib
set_option maxRecDepth 100000 in
set_option maxHeartbeats 1000000 in
theorem isRow_any (w:World) (gb:Nat) (r:Rec) (u:Value) (k:Int) (hb:w.cell? ⟨gb,0,none⟩=some (.int .i64 k)) (hgb:gb<w.heap.size) :
 Calls Try.prog 146 #[.agg #[.int .i64 r.sh,.int .i64 r.fr,.int .i64 r.to,.int .i64 r.sz,u],.pointer (some ⟨gb,0,none⟩)] w fun e w'=>e = .returned (.bool (r.sh==k))/\Below w.heap.size w w':=by
 obtain ⟨sh,fr,tt,sz,root⟩:=r
 simp only
 have hx0:=(Below.refl w.heap.size w).alloc (Nat.le_refl _) (.cells #[.int .i64 sh,.int .i64 fr,.int .i64 tt,.int .i64 sz,u] 61)
 have c0:=(hx0.cell (p:=⟨gb,0,none⟩) hgb).trans hb
 go_enter Try.func146,Try.ntmps146
 go_wp2_with fail
 go_ret
 exact ⟨rfl,hx0⟩
set_option maxRecDepth 100000 in
set_option maxHeartbeats 2000000 in
theorem idxRow_any (w:World) (F:Nat->Prop) (v:Value) (l:List Rec) (gb:Nat) (kk:Int) (hl:RdL w F v l) (hb:w.cell? ⟨gb,0,none⟩=some (.int .i64 kk)) (hgb:gb<w.heap.size) :
 Calls Try.prog 114 #[v,.func (.func 146) #[] #[.pointer (some ⟨gb,0,none⟩)]] w fun e w'=>e = .returned (.int .i64 (idx (Fl.row l kk)))/\Below w.heap.size w w':=by
 obtain ⟨A,c,hv,hlc,hcm⟩:=hl.form
 subst hv
 unfold maxLen at hcm
 obtain ⟨R,HR⟩:∃ R,Hid (R=idx (l.findIdx? fun r=>r.sh==kk)):=⟨_,Lib.hid rfl⟩
 have hrow:idx (Fl.row l kk)=R:=HR.out.symm
 rw [hrow]
 clear hrow
 go_enter Try.func114,Try.ntmps114
 go_wp2_with fail
 go_loopg [8] l.length (fun k i wr=>∃ j:Nat,j+k=l.length/\i = .int .i64 (j:Int)/\Hid ((l.take j).all (fun a=>!(a.sh==kk))=true)/\Below w.heap.size w wr)
 case atStart=>exact ⟨0,by omega,rfl,Lib.hid (by simp),Below.refl _ _⟩
 case round =>
  obtain ⟨j,hj,rfl,HA,hx⟩:=hrel
  by_cases hlt:j<l.length
  · obtain ⟨b,off,c',A2,k2,hA1,_,hb1,p0,p1,p2,p3,p4,_⟩:=rec_at (hl.below hx) hlt
    injection hA1 with hA1 _ hA3
    subst hA1 hA3
    have hltB:(j:Int)<(l.length:Int):=by omega
    have hfy:(l[j].sh==kk)=true->R=(j:Int):=fun h=>by rw [HR.out,findIdx_at HA.out hlt h];rfl
    have hfn:(l[j].sh==kk)=false->(l.take (j+1)).all (fun a=>!(a.sh==kk))=true:=fun h=>all_snoc HA.out hlt h
    have hcl:=isRow_any wr gb l[j] (.slice A2 l[j].root.length k2) kk ((hx.cell (p:=⟨gb,0,none⟩) hgb).trans hb) (by have:=hx.size;omega)
    have HCL:=Lib.hid hcl
    clear hcl
    generalize l[j]=s at *
    cases hin:(s.sh==kk) with
    | true =>
      have hR:=hfy hin
      rw [hin] at HCL
      clear hin hfy hfn
      go_wp2_with fail
      with_reducible refine HCL.out.mono ?_
      rintro e w2 ⟨rfl,hx2⟩
      go_wp2_with fail
      go_ret
      exact ⟨by rw [hR];rfl,hx.trans (hx2.mono hx.size)⟩
    | false =>
      have HN:=Lib.hid (hfn hin)
      rw [hin] at HCL
      clear hin hfy hfn
      go_wp2_with fail
      with_reducible refine HCL.out.mono ?_
      rintro e w2 ⟨rfl,hx2⟩
      go_wp2_with fail
      go_roundg (gk-1)
      case measure=>omega
      case rel=>exact ⟨j+1,by omega,by go_num,HN,hx.trans (hx2.mono hx.size)⟩
  · have hltB:decide ((j:Int)<(l.length:Int))=false:=decide_eq_false (by omega)
    have hR:R = -1:=by
     have h:=HA.out
     rw [List.take_of_length_le (by omega)] at h
     rw [HR.out,findIdx_no h];rfl
    have HRR:=Lib.hid hR
    clear hR
    go_wp2_with fail
    go_ret
    exact ⟨by rw [HRR.out];rfl,hx⟩
end Go.Proofs.Ytfdibjgmbdkbcaa
namespace Go.Proofs.Ytfdibjgmbdkbcaa
open Go.RowKit Go.Lib
theorem row_some {f:Flt} (hI:Fl.Inv f) {k:Nat} {s:Shd} (hs:f.sh[k]? = some s) (h2:2<=s.st):∃ (i:Nat) (r:Rec),Fl.row f.book (k:Int)=some i/\f.book[i]? = some r/\r.sh=(k:Int)/\Fl.rowR f.book (k:Int)=r:=by
 obtain ⟨r0,hr0,e0⟩:=(hI.sh k s hs).row h2
 cases h:Fl.row f.book (k:Int) with
 | none =>
   have:=List.findIdx?_eq_none_iff.1 h r0 hr0
   simp [e0] at this
 | some i =>
   obtain ⟨hlt,hp,_⟩:=List.findIdx?_eq_some_iff_getElem.1 h
   refine ⟨i,f.book[i],rfl,List.getElem?_eq_getElem hlt,by simpa using hp,?_⟩
   unfold Fl.rowR
   rw [h]
   simp only
   rw [List.getD_eq_getElem?_getD,List.getElem?_eq_getElem hlt]
   rfl
theorem TL.nil_ (w:World) (B:Nat) (tag:Tag) (k:Nat):TL w B tag k (.slice none 0 0) []:=⟨[],Own.nil_ _ _ _ _,fun b hb=>by simp [Value.ownBlock] at hb,fun i b hb=>by simp at hb⟩
set_option maxRecDepth 100000 in
set_option maxHeartbeats 4000000 in
theorem retire_any (w:World) (B gF k:Nat) (tag:Tag) (f:Flt) (s:Shd) (hF:FltAt w B gF tag f) (hT:TagOk w B tag) (hI:Fl.Inv f) (hBw:B<=w.heap.size) (hs:f.sh[k]? = some s) (hst:2<=s.st) :
 Calls Try.prog 136 #[.pointer (some ⟨gF,0,none⟩),.int .i64 (k:Int)] w (StepP w B gF tag (Fl.retire f k s)):=by
 have hx0:=((Below.refl w.heap.size w).alloc (Nat.le_refl _) (.cells #[.int .i64 (k:Int)] 3)).alloc (by simp) (.cells #[.int .i64 0,.int .i64 0,.int .i64 0,.int .i64 0,.slice none 0 0] 105)
 have hbox:Blk ((w.alloc (.cells #[.int .i64 (k:Int)] 3)).alloc (.cells #[.int .i64 0,.int .i64 0,.int .i64 0,.int .i64 0,.slice none 0 0] 105)) w.heap.size 3 #[.int .i64 (k:Int)]:=Blk.alloc (heap_alloc_new w _) _
 have hans:Blk ((w.alloc (.cells #[.int .i64 (k:Int)] 3)).alloc (.cells #[.int .i64 0,.int .i64 0,.int .i64 0,.int .i64 0,.slice none 0 0] 105)) (w.heap.size+1) 105 #[.int .i64 0,.int .i64 0,.int .i64 0,.int .i64 0,.slice none 0 0]:=by
  have:=heap_alloc_new (w.alloc (.cells #[.int .i64 (k:Int)] 3)) (.cells #[.int .i64 0,.int .i64 0,.int .i64 0,.int .i64 0,.slice none 0 0] 105)
  rw [World.size_alloc] at this
  exact this
 obtain ⟨R,HR⟩:∃ R,Hid (R=Fl.retire f k s):=⟨_,Lib.hid rfl⟩
 rw [<-HR.out]
 obtain ⟨i,r,hri,hbr,hrsh,hRR⟩:=row_some hI hs hst
 have hlen8:=hI.len
 have hbook8:=hI.book_len
 obtain ⟨vs,vb,us,ws,hP⟩:=hF.parts
 have hP1:=hP.below hx0
 have hT1:=hT.size hx0.size
 obtain ⟨gS,oS,cS,u,hvs,hu,hgSB,hgSlt,hncS,hcSm,hltk,⟨curS,hcurS⟩,hTS,hcell⟩:=hP1.row hs
 subst hvs
 unfold maxLen at hcSm
 have q1:=hP1.2.1
 go_enter Try.func136,Try.ntmps136
 go_upto_region 1 with (fail)
 generalize ((w.alloc (.cells #[.int .i64 (k:Int)] 3)).alloc (.cells #[.int .i64 0,.int .i64 0,.int .i64 0,.int .i64 0,.slice none 0 0] 105))=w1 at *
 have g0:w1.cell? ⟨gF,0,none⟩=some (.slice (some ⟨gS,oS,none⟩) f.sh.length cS):=q1.cell 0
 have b0:w1.cell? ⟨w.heap.size,0,none⟩=some (.int .i64 (k:Int)):=hbox.cell 0
 have hkB:(k:Int)<(f.sh.length:Int):=by omega
 have hk0:(0:Int)<=(k:Int):=by omega
 go_quiet (fail)
 go_upto_region 2 with (fail)
 have hx2:=below_drewN (Below.refl w1.heap.size w1) nq
 generalize w1.drewN nq=w2 at *
 have hP2:=hP1.below hx2
 have hbox2:=hbox.below hx2 hbox.lt
 obtain ⟨Ab,cb,hvb,_,hcbm⟩:=Own.shape hP2.2.2.2.2.2.2.1
 unfold maxLen at hcbm
 subst hvb
 obtain ⟨vs',vb',_,hblk',_,hrb⟩:=hP2.at_.rd
 have hvv:vb' = .slice Ab f.book.length cb:=by
  have h1:=hblk'
  have h2:=hP2.2.1
  unfold Blk at h1 h2
  rw [h1] at h2
  injection h2 with h2
  injection h2 with h2 _
  injection h2 with h2
  injection h2 with _ h2
  injection h2 with h2 _
 subst hvv
 clear hblk'
 have g1:w2.cell? ⟨gF,1,none⟩=some (.slice Ab f.book.length cb):=hP2.2.1.cell 1
 have b2:w2.cell? ⟨w.heap.size,0,none⟩=some (.int .i64 (k:Int)):=hbox2.cell 0
 go_wp2_with fail
 with_reducible refine (idxRow_any w2 _ _ f.book w.heap.size (k:Int) hrb b2 hbox2.lt).mono ?_
 rintro e w3 ⟨rfl,hx3⟩
 rw [hri]
 have hidx:idx (some i)=(i:Int):=rfl
 rw [hidx]
 obtain ⟨hlti,_⟩:=List.getElem?_eq_some_iff.1 hbr
 have HRR:=Lib.hid hRR
 have HRSH:=Lib.hid hrsh
 clear hidx hri hrb hRR hrsh
 have hP3:=hP2.below hx3
 have hans3:=(hans.below hx2 hans.lt).below hx3 (hans.below hx2 hans.lt).lt
 have hbox3:=hbox2.below hx3 hbox2.lt
 have hx13:=hx2.trans (hx3.mono hx2.size)
 obtain ⟨gB,oB,cB,hvB,hgBB,hgBlt,hnB,_,hcB⟩:=hP3.2.2.2.2.2.2.1.form (by omega)
 injection hvB with hvB _ hvc
 subst hvB hvc
 have hwi:ws[i]? = some (ws[i]'(by have:=hP3.2.2.2.2.2.1;omega)):=List.getElem?_eq_getElem _
 generalize ws[i]'(by have:=hP3.2.2.2.2.2.1;omega)=rv at *
 have hrt:=hP3.2.2.2.2.2.2.2 i r rv hbr hwi
 have c3:w3.cell? ⟨gB,oB+i*5+3,none⟩=some (.int .i64 r.sz):=by
  rw [Nat.add_assoc]
  exact hcB _ _ (flat_at rcCells (fun _ _=>rfl) f.book ws i 3 r rv _ hbr hwi rfl)
 have c4:w3.cell? ⟨gB,oB+i*5+4,none⟩=some rv:=by
  rw [Nat.add_assoc]
  exact hcB _ _ (flat_at rcCells (fun _ _=>rfl) f.book ws i 4 r rv _ hbr hwi rfl)
 have g3:w3.cell? ⟨gF,1,none⟩=some (.slice (some ⟨gB,oB,none⟩) f.book.length cb):=hP3.2.1.cell 1
 have hiB:(i:Int)<(f.book.length:Int):=by omega
 have hi0:(0:Int)<=(i:Int):=by omega
 obtain ⟨Ar,cr,hrv,_,_⟩:=Own.shape hrt.1
 subst hrv
 clear hcB
 go_upto_region 4 with (fail)
 have hx4:=(Below.refl w3.heap.size w3).alloc (Nat.le_refl _) (.cells #[.int .i64 r.sz,.slice Ar r.root.length cr] 39)
 have hhead:Blk (w3.alloc (.cells #[.int .i64 r.sz,.slice Ar r.root.length cr] 39)) w3.heap.size 39 #[.int .i64 r.sz,.slice Ar r.root.length cr]:=heap_alloc_new w3 _
 generalize w3.alloc (.cells #[.int .i64 r.sz,.slice Ar r.root.length cr] 39)=w4 at *
 have hP4:=hP3.below hx4
 have hx14:=hx13.trans (hx4.mono hx13.size)
 have hans4:=hans3.below hx4 hans3.lt
 have hbox4:=hbox3.below hx4 hbox3.lt
 generalize w3.heap.size=gH at *
 obtain ⟨hTE,hTR,hTG⟩:=hP4.2.2.2.2.1 k s u hs hu
 have m4:w4.cell? ⟨gS,oS+k*7+4,none⟩=some (.int .i64 s.man.size):=hP4.cells hs hu (i:=4) rfl
 have m5:w4.cell? ⟨gS,oS+k*7+4+1,none⟩=some u.rv:=hP4.cells hs hu (i:=5) rfl
 have m6:w4.cell? ⟨gS,oS+k*7+4+2,none⟩=some u.sv:=hP4.cells hs hu (i:=6) rfl
 go_wp2_with fail
 obtain ⟨a,b,hab⟩:∃ a b:Nat,(Shf.verC s.man).1=(a,b):=⟨_,_,rfl⟩
 have hfv:fv (Shf.verC s.man).1 = .agg #[.int .i64 (a:Int),.int .i64 (b:Int)]:=by rw [hab];rfl
 have HV:=Lib.hid (verify_any w4 _ _ u.rv u.sv s.man (OwnB.bytes hTR.1) hTG.rd)
 with_reducible refine HV.out.mono ?_
 rintro e w5 ⟨v5,rfl,_,hx5⟩
 rw [hfv]
 clear HV hfv
 go_upto_region 5 with (fail)
 have hx6:=hx5.alloc hx5.size (.cells #[.int .i64 (a:Int),.int .i64 (b:Int)] 32)
 have hflt:Blk (w5.alloc (.cells #[.int .i64 (a:Int),.int .i64 (b:Int)] 32)) w5.heap.size 32 #[.int .i64 (a:Int),.int .i64 (b:Int)]:=heap_alloc_new w5 _
 generalize w5.alloc (.cells #[.int .i64 (a:Int),.int .i64 (b:Int)] 32)=w6 at *
 generalize w5.heap.size=gE at *
 have hP6:=hP4.below hx6
 have hx16:=hx14.trans (hx6.mono hx14.size)
 have hans6:=hans4.below hx6 hans4.lt
 have hbox6:=hbox4.below hx6 hbox4.lt
 have hhead6:=hhead.below hx6 hhead.lt
 have hxw:=hx0.trans (hx16.mono hx0.size)
 have l0:w6.cell? ⟨gE,0,none⟩=some (.int .i64 (a:Int)):=hflt.cell 0
 have l1:w6.cell? ⟨gE,1,none⟩=some (.int .i64 (b:Int)):=hflt.cell 1
 have a90:w6.cell? ⟨w.heap.size+1,0,none⟩=some (.int .i64 0):=hans6.cell 0
 have f90:=hans6.frozen 0
 have a91:w6.cell? ⟨w.heap.size+1,1,none⟩=some (.int .i64 0):=hans6.cell 1
 have f91:=hans6.frozen 1
 have a92:w6.cell? ⟨w.heap.size+1,2,none⟩=some (.int .i64 0):=hans6.cell 2
 have f92:=hans6.frozen 2
 have a93:w6.cell? ⟨w.heap.size+1,3,none⟩=some (.int .i64 0):=hans6.cell 3
 have f93:=hans6.frozen 3
 have a94:w6.cell? ⟨w.heap.size+1,4,none⟩=some (.slice none 0 0):=hans6.cell 4
 have f94:=hans6.frozen 4
 by_cases ha:a=0
 · have hne:((a:Int) != 0)=false:=by rw [bne_eq_false_iff_eq];omega
   have HS:Hid (R=(⟨f.sh.set k { s with st:=4,ents:=[] },f.book⟩,⟨0,(k:Int),0,r.sz,r.root⟩)):=Lib.hid (by rw [HR.out];unfold Fl.retire;rw [hab];simp only;rw [if_pos ha,HRR.out])
   go_upto_region 7 with (fail)
   have t2:w6.cell? ⟨gS,oS+k*7+2,none⟩=some (.int .i64 s.st):=hP6.cells hs hu (i:=2) rfl
   have t3:w6.cell? ⟨gS,oS+k*7+3,none⟩=some u.ev:=hP6.cells hs hu (i:=3) rfl
   have z2:=hP6.frz (oS+k*7+2)
   have z3:=hP6.frz (oS+k*7+3)
   go_upto_region 8 with (fail)
   obtain ⟨hP7,hs7,hu7,hK7⟩:=hP6.cell (s':={ s with st:=4 }) (u':=u) (x:=.int .i64 4) hs hu (i:=2) (by decide) rfl (hP6.2.2.2.2.1 k s u hs hu)
   obtain ⟨hP8,hs8,hu8,hK8⟩:=hP7.cell (s':={ s with st:=4,ents:=[] }) (u':={ u with ev:=.slice none 0 0 }) (x:=.slice none 0 0) hs7 hu7 (i:=3) (by decide) rfl ⟨TL.nil_ _ _ _ _,(hP7.2.2.2.2.1 k _ u hs7 hu7).2.1,(hP7.2.2.2.2.1 k _ u hs7 hu7).2.2⟩
   obtain ⟨cur6,hcur6⟩:=hP6.blk.2.2
   have n1:w.heap.size+1≠gS:=Blk.ne hans6 hcur6 (by decide)
   have n2:gH≠gS:=Blk.ne hhead6 hcur6 (by decide)
   have n3:w.heap.size≠gS:=Blk.ne hbox6 hcur6 (by decide)
   have hans8:=(hans6.far (p:=⟨gS,oS+k*7+2,none⟩) n1 (.int .i64 4)).far (p:=⟨gS,oS+k*7+3,none⟩) n1 (.slice none 0 0)
   have hhead8:=(hhead6.far (p:=⟨gS,oS+k*7+2,none⟩) n2 (.int .i64 4)).far (p:=⟨gS,oS+k*7+3,none⟩) n2 (.slice none 0 0)
   have hbox8:=(hbox6.far (p:=⟨gS,oS+k*7+2,none⟩) n3 (.int .i64 4)).far (p:=⟨gS,oS+k*7+3,none⟩) n3 (.slice none 0 0)
   have hT8:TagOk ((w6.setCell ⟨gS,oS+k*7+2,none⟩ (.int .i64 4)).setCell ⟨gS,oS+k*7+3,none⟩ (.slice none 0 0)) B tag:=(hT.size hxw.size).size (by simp)
   have hK:=((Kept.of_below hxw hBw).trans hK7 hBw).trans hK8 hBw
   have hbk:({ sh:=(f.sh.set k { s with st:=4 }).set k { s with st:=4,ents:=[] },book:=f.book }:Flt)=⟨f.sh.set k { s with st:=4,ents:=[] },f.book⟩:=by rw [List.set_set]
   have hF8:=hP8.at_
   simp only at hF8
   rw [hbk] at hF8
   have hrt8:=hP8.2.2.2.2.2.2.2 i r (.slice Ar r.root.length cr) hbr hwi
   clear hbk hK7 hK8
   generalize (w6.setCell ⟨gS,oS+k*7+2,none⟩ (.int .i64 4)).setCell ⟨gS,oS+k*7+3,none⟩ (.slice none 0 0)=w9 at *
   have h90:w9.cell? ⟨gH,0,none⟩=some (.int .i64 r.sz):=hhead8.cell 0
   have h91:w9.cell? ⟨gH,1,none⟩=some (.slice Ar r.root.length cr):=hhead8.cell 1
   have h92:w9.cell? ⟨w.heap.size,0,none⟩=some (.int .i64 (k:Int)):=hbox8.cell 0
   have a90:w9.cell? ⟨w.heap.size+1,0,none⟩=some (.int .i64 0):=hans8.cell 0
   have f90:=hans8.frozen 0
   have a91:w9.cell? ⟨w.heap.size+1,1,none⟩=some (.int .i64 0):=hans8.cell 1
   have f91:=hans8.frozen 1
   have a92:w9.cell? ⟨w.heap.size+1,2,none⟩=some (.int .i64 0):=hans8.cell 2
   have f92:=hans8.frozen 2
   have a93:w9.cell? ⟨w.heap.size+1,3,none⟩=some (.int .i64 0):=hans8.cell 3
   have f93:=hans8.frozen 3
   have a94:w9.cell? ⟨w.heap.size+1,4,none⟩=some (.slice none 0 0):=hans8.cell 4
   have f94:=hans8.frozen 4
   go_wp2_with fail
   have hW:set5 w9 (w.heap.size+1) (.int .i64 0) (.int .i64 (k:Int)) (.int .i64 0) (.int .i64 r.sz) (.slice Ar r.root.length cr)=(((((w9.setCell ⟨w.heap.size+1,0,none⟩ (.int .i64 0)).setCell ⟨w.heap.size+1,1,none⟩ (.int .i64 (k:Int))).setCell ⟨w.heap.size+1,2,none⟩ (.int .i64 0)).setCell ⟨w.heap.size+1,3,none⟩ (.int .i64 r.sz)).setCell ⟨w.heap.size+1,4,none⟩ (.slice Ar r.root.length cr)):=rfl
   rw [<-hW]
   have hb5:=set5_blk (a:=.int .i64 0) (b:=.int .i64 (k:Int)) (c:=.int .i64 0) (d:=.int .i64 r.sz) (e:=.slice Ar r.root.length cr) hans8
   have hF9:FltAt (set5 w9 (w.heap.size+1) (.int .i64 0) (.int .i64 (k:Int)) (.int .i64 0) (.int .i64 r.sz) (.slice Ar r.root.length cr)) B gF tag ⟨f.sh.set k { s with st:=4,ents:=[] },f.book⟩:=hF8.set5 hans8
   have hT9s:TagOk (set5 w9 (w.heap.size+1) (.int .i64 0) (.int .i64 (k:Int)) (.int .i64 0) (.int .i64 r.sz) (.slice Ar r.root.length cr)) B tag:=hT8.size (by rw [set5_size];exact Nat.le_refl _)
   have hK9s:Kept w (set5 w9 (w.heap.size+1) (.int .i64 0) (.int .i64 (k:Int)) (.int .i64 0) (.int .i64 r.sz) (.slice Ar r.root.length cr)) B tag tag:=hK.set5 (Nat.le_succ _) hBw
   have hbt9:OwnB (set5 w9 (w.heap.size+1) (.int .i64 0) (.int .i64 (k:Int)) (.int .i64 0) (.int .i64 r.sz) (.slice Ar r.root.length cr)) B (.slice Ar r.root.length cr) r.root:=Own.set5 hrt8.1 hans8 (by decide)
   clear hW
   generalize set5 w9 (w.heap.size+1) (.int .i64 0) (.int .i64 (k:Int)) (.int .i64 0) (.int .i64 r.sz) (.slice Ar r.root.length cr)=W at *
   have s0:W.cell? ⟨w.heap.size+1,0,none⟩=some (.int .i64 0):=hb5.cell 0
   have s1:W.cell? ⟨w.heap.size+1,1,none⟩=some (.int .i64 (k:Int)):=hb5.cell 1
   have s2:W.cell? ⟨w.heap.size+1,2,none⟩=some (.int .i64 0):=hb5.cell 2
   have s3:W.cell? ⟨w.heap.size+1,3,none⟩=some (.int .i64 r.sz):=hb5.cell 3
   have s4:W.cell? ⟨w.heap.size+1,4,none⟩=some (.slice Ar r.root.length cr):=hb5.cell 4
   exact bodyPost_ret (v:=.agg #[.int .i64 0,.int .i64 (k:Int),.int .i64 0,.int .i64 r.sz,.slice Ar r.root.length cr]) (by simp [results,Try.results136,go_sem,s0,s1,s2,s3,s4]) rfl (by rw [HS.out];exact ⟨.slice Ar r.root.length cr,tag,rfl,hF9,hT9s,hK9s,hbt9⟩)
 · have hne:((a:Int) != 0)=true:=by rw [bne_iff_ne];omega
   have HS:Hid (R=(f,Fl.no a)):=Lib.hid (by rw [HR.out];unfold Fl.retire;rw [hab];simp only;rw [if_neg ha])
   go_wp2_with fail
   have hW:set5 w6 (w.heap.size+1) (.int .i64 (a:Int)) (.int .i64 0) (.int .i64 0) (.int .i64 0) (.slice none 0 0)=(((((w6.setCell ⟨w.heap.size+1,0,none⟩ (.int .i64 (a:Int))).setCell ⟨w.heap.size+1,1,none⟩ (.int .i64 0)).setCell ⟨w.heap.size+1,2,none⟩ (.int .i64 0)).setCell ⟨w.heap.size+1,3,none⟩ (.int .i64 0)).setCell ⟨w.heap.size+1,4,none⟩ (.slice none 0 0)):=rfl
   rw [<-hW]
   have hb5:=set5_blk (a:=.int .i64 (a:Int)) (b:=.int .i64 0) (c:=.int .i64 0) (d:=.int .i64 0) (e:=.slice none 0 0) hans6
   have hxe:Below w.heap.size w (set5 w6 (w.heap.size+1) (.int .i64 (a:Int)) (.int .i64 0) (.int .i64 0) (.int .i64 0) (.slice none 0 0)):=set5_below hxw (Nat.le_succ _)
   clear hW
   generalize set5 w6 (w.heap.size+1) (.int .i64 (a:Int)) (.int .i64 0) (.int .i64 0) (.int .i64 0) (.slice none 0 0)=W at *
   have s0:W.cell? ⟨w.heap.size+1,0,none⟩=some (.int .i64 (a:Int)):=hb5.cell 0
   have s1:W.cell? ⟨w.heap.size+1,1,none⟩=some (.int .i64 0):=hb5.cell 1
   have s2:W.cell? ⟨w.heap.size+1,2,none⟩=some (.int .i64 0):=hb5.cell 2
   have s3:W.cell? ⟨w.heap.size+1,3,none⟩=some (.int .i64 0):=hb5.cell 3
   have s4:W.cell? ⟨w.heap.size+1,4,none⟩=some (.slice none 0 0):=hb5.cell 4
   exact bodyPost_ret (v:=.agg #[.int .i64 (a:Int),.int .i64 0,.int .i64 0,.int .i64 0,.slice none 0 0]) (by simp [results,Try.results136,go_sem,s0,s1,s2,s3,s4]) rfl (by rw [HS.out];exact StepP.same hF hT hBw hxe rfl rfl)
end Go.Proofs.Ytfdibjgmbdkbcaa
namespace Go.Proofs.Ytfdibjgmbdkbcaa
open Go.RowKit Go.Lib
theorem flat_same {α β:Type} (c:α->β->List Value):∀ (l:List α) (us:List β) (k:Nat) (a a':α) (u:β),l[k]? = some a->us[k]? = some u->c a' u=c a u->(List.zipWith c (l.set k a') us).flatten=(List.zipWith c l us).flatten
 | [],_,_,_,_,_,h,_,_=>by simp at h
 | _::_,[],_,_,_,_,_,h,_=>by simp at h
 | a0::l,u0::us,0,a,a',u,h1,h2,he=>by
   simp only [List.getElem?_cons_zero,Option.some.injEq] at h1 h2
   subst h1 h2
   simp only [List.set_cons_zero,List.zipWith_cons_cons,List.flatten_cons,he]
 | a0::l,u0::us,k+1,a,a',u,h1,h2,he=>by
   simp only [List.getElem?_cons_succ] at h1 h2
   have ih:=flat_same c l us k a a' u h1 h2 he
   simp only [List.set_cons_succ,List.zipWith_cons_cons,List.flatten_cons,ih]
theorem FltP.byte {w:World} {B gF k j i gb ob cb:Nat} {tag:Tag} {f:Flt} {vs vb:Value} {us:List ShV} {ws ps:List Value} {s:Shd} {u:ShV} {sg:Seg} (h:FltP w B gF tag f vs vb us ws) (hs:f.sh[k]? = some s) (hu:us[k]? = some u)
 (h1:ps.length=s.man.segs.length) (h2:Own w B 152 3 u.sv s.man.segs.length (flatS s.man.segs ps)) (h3:Tg tag none u.sv) (h4:∀ (j:Nat) (t:Seg) (p:Value),s.man.segs[j]? = some t->ps[j]? = some p->TB w B tag (some (k,j+1)) p t.packed)
 (hj:s.man.segs[j]? = some sg) (hp:ps[j]? = some (.slice (some ⟨gb,ob,none⟩) sg.packed.length cb)) (x:UInt8) :
 FltP (w.setCell ⟨gb,ob+i,none⟩ (bv x)) B gF tag ⟨f.sh.set k { s with man:={ s.man with segs:=s.man.segs.set j { sg with packed:=sg.packed.set i x } } },f.book⟩ vs vb us ws/\Kept w (w.setCell ⟨gb,ob+i,none⟩ (bv x)) B tag tag:=by
 have hb:=h4 j sg _ hj hp
 have hgb:=Own.lt hb.1 gb rfl
 have htg:tag gb=some (k,j+1):=hb.2 gb rfl
 have hc:Chg w (w.setCell ⟨gb,ob+i,none⟩ (bv x)) B tag (some (k,j+1)):=⟨(Below.refl B w).setCell (p:=⟨gb,ob+i,none⟩) hgb.1 _,fun b _ ht _=>Below.heap_setCell _ _ _ b (fun e=>ht (by rw [show b=gb from e];exact htg))⟩
 obtain ⟨hlt,_⟩:=List.getElem?_eq_some_iff.1 hs
 obtain ⟨cur,hcur⟩:=(Own.type hb.1 gb rfl).2
 obtain ⟨p0,p1,p2,p3,p4,p5,p6,p7⟩:=h
 have hSG:flatS (s.man.segs.set j { sg with packed:=sg.packed.set i x }) ps=flatS s.man.segs ps:=flat_same segCells s.man.segs ps j sg _ _ hj hp rfl
 have hSH:flatSh (f.sh.set k { s with man:={ s.man with segs:=s.man.segs.set j { sg with packed:=sg.packed.set i x } } }) us=flatSh f.sh us:=flat_same shCells f.sh us k s _ u hs hu rfl
 refine ⟨⟨p0,p1.far (p:=⟨gb,ob+i,none⟩) (Blk.ne p1 hcur (by decide)) _,by simpa using p2,?_,fun j' t v ht hv=>?_,p5,Own.setCell (p:=⟨gb,ob+i,none⟩) p6 (Own.ne_blk p6 hcur (by decide)) _,fun i r v hr hv=>(p7 i r v hr hv).chg hc (by simp)⟩,hc.kept (by simp)⟩
 · rw [hSH]
   simpa using Own.setCell (p:=⟨gb,ob+i,none⟩) p3 (Own.ne_blk p3 hcur (by decide)) _
 · simp only at ht
   by_cases e:k=j'
   · subst e
     rw [List.getElem?_set_self hlt] at ht
     rw [hu] at hv
     injection ht with ht
     injection hv with hv
     subst ht hv
     obtain ⟨t1,t2,_⟩:=p4 k s u hs hu
     refine ⟨t1.chg hc (by simp) (by simp),t2.chg hc (by simp),ps,by simpa using h1,?_,h3,fun m t p hm hpm=>?_⟩
     · simp only
       rw [hSG]
       simpa using Own.chg h2 hc (fun b hb=>by rw [h3 b hb];simp) seg_not
     · simp only at hm
       obtain ⟨hjl,_⟩:=List.getElem?_eq_some_iff.1 hj
       by_cases em:j=m
       · subst em
         rw [List.getElem?_set_self hjl] at hm
         rw [hp] at hpm
         injection hm with hm
         injection hpm with hpm
         subst hm hpm
         refine ⟨?_,hb.2⟩
         have:=Own.setN hb.1 i (bv x)
         unfold OwnB
         simp only [List.length_set,List.map_set]
         exact this
       · rw [List.getElem?_set_ne em] at hm
         exact (h4 m t p hm hpm).chg hc (fun e=>by injection e with e;injection e with _ e;omega)
   · rw [List.getElem?_set_ne e] at ht
     exact (p4 j' t v ht hv).chg hc (fun m em=>by injection em with em;injection em with em _;exact e em.symm) (by simp)
end Go.Proofs.Ytfdibjgmbdkbcaa
namespace Go.Proofs.Ytfdibjgmbdkbcaa
open Go.RowKit Go.Lib
theorem ofInt8 (x:UInt8):BitVec.ofInt 8 (x.toNat:Int)=x.toBitVec:=by
 apply BitVec.eq_of_toNat_eq
 rw [BitVec.ofInt_natCast,BitVec.toNat_ofNat,UInt8.toNat_toBitVec]
 exact Nat.mod_eq_of_lt x.toNat_lt
theorem xor8 (x y:UInt8):bits .xor .u8 (x.toNat:Int) (y.toNat:Int)=((x ^^^ y).toNat:Int):=by
 show IntKind.u8.wrap ((BitVec.ofInt 8 (x.toNat:Int) ^^^ BitVec.ofInt 8 (y.toNat:Int)).toNat:Int)=_
 rw [ofInt8,ofInt8,<-UInt8.toBitVec_xor,UInt8.toNat_toBitVec,IntKind.wrap_u8]
 have:=(x ^^^ y).toNat_lt
 omega
set_option maxRecDepth 100000 in
set_option maxHeartbeats 4000000 in
theorem spoil_any (w:World) (B gF q o k:Nat) (tag:Tag) (f:Flt) (s:Shd) (d:Dob) (hF:FltAt w B gF tag f) (hT:TagOk w B tag) (hI:Fl.Inv f) (hd:DoAt w B q o d) (hn:d.n=(k:Int)) (hs:f.sh[k]? = some s) :
 Calls Try.prog 137 #[.pointer (some ⟨gF,0,none⟩),.pointer (some ⟨q,o,none⟩)] w (StepP w B gF tag (Fl.spoil f k s d)):=by
 have hBw:B<=w.heap.size:=hd.2.1
 have hxw1:=(Below.refl w.heap.size w).alloc (Nat.le_refl _) (.cells #[.int .i64 0,.int .i64 0,.int .i64 0,.int .i64 0,.slice none 0 0] 105)
 have hans1:Blk (w.alloc (.cells #[.int .i64 0,.int .i64 0,.int .i64 0,.int .i64 0,.slice none 0 0] 105)) w.heap.size 105 #[.int .i64 0,.int .i64 0,.int .i64 0,.int .i64 0,.slice none 0 0]:=heap_alloc_new w _
 obtain ⟨R,HR⟩:∃ R,Hid (R=Fl.spoil f k s d):=⟨_,Lib.hid rfl⟩
 rw [<-HR.out]
 have hlen8:=hI.len
 obtain ⟨vs,vb,us,ws,hP⟩:=hF.parts
 have hP1:=hP.below hxw1
 have hd1:=hd.below (hxw1.mono hBw)
 obtain ⟨gS,oS,cS,u,hvs,hu,hgSB,hgSlt,hncS,hcSm,hltk,⟨curS,hcurS⟩,hTS,hcell⟩:=hP1.row hs
 subst hvs
 unfold maxLen at hcSm
 have HN:=Lib.hid hn
 obtain ⟨hq0,hB0,d0,d1,d2,⟨Ae,ce,d3,hde⟩,d4,d5,d6⟩:=id hd1
 rw [hn] at d1
 clear hn
 go_enter Try.func137,Try.ntmps137
 go_upto_region 1 with (fail)
 generalize (w.alloc (.cells #[.int .i64 0,.int .i64 0,.int .i64 0,.int .i64 0,.slice none 0 0] 105))=w1 at *
 have g0:w1.cell? ⟨gF,0,none⟩=some (.slice (some ⟨gS,oS,none⟩) f.sh.length cS):=hP1.2.1.cell 0
 have hkB:(k:Int)<(f.sh.length:Int):=by omega
 have hk0:(0:Int)<=(k:Int):=by omega
 clear hcell hTS
 go_quiet (fail)
 go_upto_region 2 with (fail)
 have hx2:=below_drewN (Below.refl w1.heap.size w1) nq
 generalize w1.drewN nq=w2 at *
 have hP2:=hP1.below hx2
 have hans2:=hans1.below hx2 hans1.lt
 have hd2:=hd1.below (hx2.mono (Nat.le_trans hBw hxw1.size))
 have hxw2:=hxw1.trans (hx2.mono hxw1.size)
 obtain ⟨hq0,hB0,d0,d1,d2,⟨Ae,ce,d3,hde⟩,d4,d5,d6⟩:=id hd2
 rw [HN.out] at d1
 obtain ⟨hTE,hTR,ps,t1,t2,t3,t4⟩:=hP2.2.2.2.2.1 k s u hs hu
 obtain ⟨AG,cG,hsv,hncG,hcGm⟩:=Own.shape t2
 unfold maxLen at hcGm
 have m6:w2.cell? ⟨gS,oS+k*7+4+1,none⟩=some u.rv:=hP2.cells hs hu (i:=5) rfl
 have m7:w2.cell? ⟨gS,oS+k*7+4+2,none⟩=some u.sv:=hP2.cells hs hu (i:=6) rfl
 rw [hsv] at m7
 have HZ:=Lib.hid (List.getD_eq_getElem?_getD (l:=s.man.segs) (i:=d.seg.toNat) (a:=⟨0,0,[]⟩))
 by_cases hneg:d.seg<0
 · have hnegB:decide (d.seg<0)=true:=decide_eq_true hneg
   have HS:Hid (R=(f,Fl.no 6)):=Lib.hid (by rw [HR.out];unfold Fl.spoil;rw [if_pos (.inl hneg)])
   go_quiet (fail)
   go_upto_region 3 with (fail)
   have hx3:=below_drewN (Below.refl w2.heap.size w2) nq
   generalize w2.drewN nq=w3 at *
   have hP3:=hP2.below hx3
   have hans3:=hans2.below hx3 hans2.lt
   have hd3:=hd2.below (hx3.mono (Nat.le_trans hBw hxw2.size))
   have hxw3:=hxw2.trans (hx3.mono hxw2.size)
   obtain ⟨hq0,hB0,d0,d1,d2,⟨Ae,ce,d3,hde⟩,d4,d5,d6⟩:=id hd3
   have a90:w3.cell? ⟨w.heap.size,0,none⟩=some (.int .i64 0):=hans3.cell 0
   have f90:=hans3.frozen 0
   have a91:w3.cell? ⟨w.heap.size,1,none⟩=some (.int .i64 0):=hans3.cell 1
   have f91:=hans3.frozen 1
   have a92:w3.cell? ⟨w.heap.size,2,none⟩=some (.int .i64 0):=hans3.cell 2
   have f92:=hans3.frozen 2
   have a93:w3.cell? ⟨w.heap.size,3,none⟩=some (.int .i64 0):=hans3.cell 3
   have f93:=hans3.frozen 3
   have a94:w3.cell? ⟨w.heap.size,4,none⟩=some (.slice none 0 0):=hans3.cell 4
   have f94:=hans3.frozen 4
   go_wp2_with fail
   have hW:set5 w3 w.heap.size (.int .i64 6) (.int .i64 0) (.int .i64 0) (.int .i64 0) (.slice none 0 0)=(((((w3.setCell ⟨w.heap.size,0,none⟩ (.int .i64 6)).setCell ⟨w.heap.size,1,none⟩ (.int .i64 0)).setCell ⟨w.heap.size,2,none⟩ (.int .i64 0)).setCell ⟨w.heap.size,3,none⟩ (.int .i64 0)).setCell ⟨w.heap.size,4,none⟩ (.slice none 0 0)):=rfl
   rw [<-hW]
   have hb5:=set5_blk (a:=.int .i64 6) (b:=.int .i64 0) (c:=.int .i64 0) (d:=.int .i64 0) (e:=.slice none 0 0) hans3
   have hxe:Below w.heap.size w (set5 w3 w.heap.size (.int .i64 6) (.int .i64 0) (.int .i64 0) (.int .i64 0) (.slice none 0 0)):=set5_below hxw3 (Nat.le_refl _)
   clear hW
   generalize set5 w3 w.heap.size (.int .i64 6) (.int .i64 0) (.int .i64 0) (.int .i64 0) (.slice none 0 0)=W at *
   have s0:W.cell? ⟨w.heap.size,0,none⟩=some (.int .i64 6):=hb5.cell 0
   have s1:W.cell? ⟨w.heap.size,1,none⟩=some (.int .i64 0):=hb5.cell 1
   have s2:W.cell? ⟨w.heap.size,2,none⟩=some (.int .i64 0):=hb5.cell 2
   have s3:W.cell? ⟨w.heap.size,3,none⟩=some (.int .i64 0):=hb5.cell 3
   have s4:W.cell? ⟨w.heap.size,4,none⟩=some (.slice none 0 0):=hb5.cell 4
   exact bodyPost_ret (v:=.agg #[.int .i64 6,.int .i64 0,.int .i64 0,.int .i64 0,.slice none 0 0]) (by simp [results,Try.results137,go_sem,s0,s1,s2,s3,s4]) rfl (by rw [HS.out];exact StepP.same hF hT hBw hxe rfl rfl)
 have hnegB:decide (d.seg<0)=false:=decide_eq_false hneg
 by_cases hge:(s.man.segs.length:Int)<=d.seg
 · have hgeB:decide ((s.man.segs.length:Int)<=d.seg)=true:=decide_eq_true hge
   have HS:Hid (R=(f,Fl.no 6)):=Lib.hid (by rw [HR.out];unfold Fl.spoil;rw [if_pos (.inr hge)])
   go_quiet (fail)
   go_upto_region 3 with (fail)
   have hx3:=below_drewN (Below.refl w2.heap.size w2) nq
   generalize w2.drewN nq=w3 at *
   have hP3:=hP2.below hx3
   have hans3:=hans2.below hx3 hans2.lt
   have hd3:=hd2.below (hx3.mono (Nat.le_trans hBw hxw2.size))
   have hxw3:=hxw2.trans (hx3.mono hxw2.size)
   obtain ⟨hq0,hB0,d0,d1,d2,⟨Ae,ce,d3,hde⟩,d4,d5,d6⟩:=id hd3
   have a90:w3.cell? ⟨w.heap.size,0,none⟩=some (.int .i64 0):=hans3.cell 0
   have f90:=hans3.frozen 0
   have a91:w3.cell? ⟨w.heap.size,1,none⟩=some (.int .i64 0):=hans3.cell 1
   have f91:=hans3.frozen 1
   have a92:w3.cell? ⟨w.heap.size,2,none⟩=some (.int .i64 0):=hans3.cell 2
   have f92:=hans3.frozen 2
   have a93:w3.cell? ⟨w.heap.size,3,none⟩=some (.int .i64 0):=hans3.cell 3
   have f93:=hans3.frozen 3
   have a94:w3.cell? ⟨w.heap.size,4,none⟩=some (.slice none 0 0):=hans3.cell 4
   have f94:=hans3.frozen 4
   go_wp2_with fail
   have hW:set5 w3 w.heap.size (.int .i64 6) (.int .i64 0) (.int .i64 0) (.int .i64 0) (.slice none 0 0)=(((((w3.setCell ⟨w.heap.size,0,none⟩ (.int .i64 6)).setCell ⟨w.heap.size,1,none⟩ (.int .i64 0)).setCell ⟨w.heap.size,2,none⟩ (.int .i64 0)).setCell ⟨w.heap.size,3,none⟩ (.int .i64 0)).setCell ⟨w.heap.size,4,none⟩ (.slice none 0 0)):=rfl
   rw [<-hW]
   have hb5:=set5_blk (a:=.int .i64 6) (b:=.int .i64 0) (c:=.int .i64 0) (d:=.int .i64 0) (e:=.slice none 0 0) hans3
   have hxe:Below w.heap.size w (set5 w3 w.heap.size (.int .i64 6) (.int .i64 0) (.int .i64 0) (.int .i64 0) (.slice none 0 0)):=set5_below hxw3 (Nat.le_refl _)
   clear hW
   generalize set5 w3 w.heap.size (.int .i64 6) (.int .i64 0) (.int .i64 0) (.int .i64 0) (.slice none 0 0)=W at *
   have s0:W.cell? ⟨w.heap.size,0,none⟩=some (.int .i64 6):=hb5.cell 0
   have s1:W.cell? ⟨w.heap.size,1,none⟩=some (.int .i64 0):=hb5.cell 1
   have s2:W.cell? ⟨w.heap.size,2,none⟩=some (.int .i64 0):=hb5.cell 2
   have s3:W.cell? ⟨w.heap.size,3,none⟩=some (.int .i64 0):=hb5.cell 3
   have s4:W.cell? ⟨w.heap.size,4,none⟩=some (.slice none 0 0):=hb5.cell 4
   exact bodyPost_ret (v:=.agg #[.int .i64 6,.int .i64 0,.int .i64 0,.int .i64 0,.slice none 0 0]) (by simp [results,Try.results137,go_sem,s0,s1,s2,s3,s4]) rfl (by rw [HS.out];exact StepP.same hF hT hBw hxe rfl rfl)
 have hgeB:decide ((s.man.segs.length:Int)<=d.seg)=false:=decide_eq_false hge
 obtain ⟨j,hj⟩:∃ j:Nat,d.seg=(j:Int):=⟨d.seg.toNat,by omega⟩
 have hjn:d.seg.toNat=j:=by omega
 have hjl:j<s.man.segs.length:=by omega
 obtain ⟨sg,hsg⟩:∃ sg,s.man.segs[j]? = some sg:=⟨_,List.getElem?_eq_getElem hjl⟩
 obtain ⟨pv,hpv⟩:∃ p,ps[j]? = some p:=⟨_,List.getElem?_eq_getElem (by omega)⟩
 have hpk:=t4 j sg pv hsg hpv
 obtain ⟨AP,cP,hpe,hncP,hcPm⟩:=Own.shape hpk.1
 unfold maxLen at hcPm
 subst hpe
 have HSP:Hid (R=if d.pos<0\/(sg.packed.length:Int)<=d.pos then (f,Fl.no 3) else (⟨f.sh.set k { s with man:={ s.man with segs:=s.man.segs.set j { sg with packed:=sg.packed.set d.pos.toNat (sg.packed.getD d.pos.toNat 0 ^^^ d.turn) } } },f.book⟩,⟨0,(k:Int),0,0,[]⟩)):=Lib.hid (by
  have hz:=HZ.out
  rw [hjn,hsg] at hz
  simp only [Option.getD_some] at hz
  rw [HR.out]
  unfold Fl.spoil Fl.spoilM Fl.turned
  rw [if_neg (by omega),hjn,hz])
 go_quiet (fail)
 go_upto_region 4 with (fail)
 have hx3:=below_drewN (Below.refl w2.heap.size w2) nq
 generalize w2.drewN nq=w3 at *
 have hP3:=hP2.below hx3
 have hans3:=hans2.below hx3 hans2.lt
 have hd3:=hd2.below (hx3.mono (Nat.le_trans hBw hxw2.size))
 have hxw3:=hxw2.trans (hx3.mono hxw2.size)
 obtain ⟨hq0,hB0,d0,d1,d2,⟨Ae,ce,d3,hde⟩,d4,d5,d6⟩:=id hd3
 rw [hj] at d4
 have HJ:=Lib.hid hj
 clear hj hnegB hgeB hneg hge
 have hjB:(j:Int)<(s.man.segs.length:Int):=by omega
 have hj0:(0:Int)<=(j:Int):=by omega
 have t23:=t2.below hx3
 have t43:∀ (j:Nat) (t:Seg) (p:Value),s.man.segs[j]? = some t->ps[j]? = some p->TB w3 B tag (some (k,j+1)) p t.packed:=fun j t p ht hp=>(t4 j t p ht hp).below hx3
 obtain ⟨gG,oG,cG',hvG,hgGB,hgGlt,hnG,_,hcG⟩:=t23.form (by omega)
 rw [hsv] at hvG
 injection hvG with hvG _ hvc
 subst hvG hvc
 have m73:w3.cell? ⟨gS,oS+k*7+4+2,none⟩=some (.slice (some ⟨gG,oG,none⟩) s.man.segs.length cG):=by rw [<-hsv];exact hP3.cells hs hu (i:=6) rfl
 have mp:w3.cell? ⟨gG,oG+j*3+2,none⟩=some (.slice AP sg.packed.length cP):=by rw [Nat.add_assoc];exact hcG _ _ (flatS_at s.man.segs ps j 2 sg _ _ hsg hpv rfl)
 clear hcG
 go_quiet (fail)
 go_upto_region 5 with (fail)
 have hx4:=below_drewN (Below.refl w3.heap.size w3) nq
 generalize w3.drewN nq=w4 at *
 have hP4:=hP3.below hx4
 have hans4:=hans3.below hx4 hans3.lt
 have hd4:=hd3.below (hx4.mono (Nat.le_trans hBw hxw3.size))
 have hxw4:=hxw3.trans (hx4.mono hxw3.size)
 obtain ⟨hq0,hB0,d0,d1,d2,⟨Ae,ce,d3,hde⟩,d4,d5,d6⟩:=id hd4
 by_cases hp0:d.pos<0
 · have hp0B:decide (d.pos<0)=true:=decide_eq_true hp0
   have HS:Hid (R=(f,Fl.no 3)):=Lib.hid (by rw [HSP.out,if_pos (.inl hp0)])
   have a90:w4.cell? ⟨w.heap.size,0,none⟩=some (.int .i64 0):=hans4.cell 0
   have f90:=hans4.frozen 0
   have a91:w4.cell? ⟨w.heap.size,1,none⟩=some (.int .i64 0):=hans4.cell 1
   have f91:=hans4.frozen 1
   have a92:w4.cell? ⟨w.heap.size,2,none⟩=some (.int .i64 0):=hans4.cell 2
   have f92:=hans4.frozen 2
   have a93:w4.cell? ⟨w.heap.size,3,none⟩=some (.int .i64 0):=hans4.cell 3
   have f93:=hans4.frozen 3
   have a94:w4.cell? ⟨w.heap.size,4,none⟩=some (.slice none 0 0):=hans4.cell 4
   have f94:=hans4.frozen 4
   go_wp2_with fail
   have hW:set5 w4 w.heap.size (.int .i64 3) (.int .i64 0) (.int .i64 0) (.int .i64 0) (.slice none 0 0)=(((((w4.setCell ⟨w.heap.size,0,none⟩ (.int .i64 3)).setCell ⟨w.heap.size,1,none⟩ (.int .i64 0)).setCell ⟨w.heap.size,2,none⟩ (.int .i64 0)).setCell ⟨w.heap.size,3,none⟩ (.int .i64 0)).setCell ⟨w.heap.size,4,none⟩ (.slice none 0 0)):=rfl
   rw [<-hW]
   have hb5:=set5_blk (a:=.int .i64 3) (b:=.int .i64 0) (c:=.int .i64 0) (d:=.int .i64 0) (e:=.slice none 0 0) hans4
   have hxe:Below w.heap.size w (set5 w4 w.heap.size (.int .i64 3) (.int .i64 0) (.int .i64 0) (.int .i64 0) (.slice none 0 0)):=set5_below hxw4 (Nat.le_refl _)
   clear hW
   generalize set5 w4 w.heap.size (.int .i64 3) (.int .i64 0) (.int .i64 0) (.int .i64 0) (.slice none 0 0)=W at *
   have s0:W.cell? ⟨w.heap.size,0,none⟩=some (.int .i64 3):=hb5.cell 0
   have s1:W.cell? ⟨w.heap.size,1,none⟩=some (.int .i64 0):=hb5.cell 1
   have s2:W.cell? ⟨w.heap.size,2,none⟩=some (.int .i64 0):=hb5.cell 2
   have s3:W.cell? ⟨w.heap.size,3,none⟩=some (.int .i64 0):=hb5.cell 3
   have s4:W.cell? ⟨w.heap.size,4,none⟩=some (.slice none 0 0):=hb5.cell 4
   exact bodyPost_ret (v:=.agg #[.int .i64 3,.int .i64 0,.int .i64 0,.int .i64 0,.slice none 0 0]) (by simp [results,Try.results137,go_sem,s0,s1,s2,s3,s4]) rfl (by rw [HS.out];exact StepP.same hF hT hBw hxe rfl rfl)
 have hp0B:decide (d.pos<0)=false:=decide_eq_false hp0
 by_cases hpl:(sg.packed.length:Int)<=d.pos
 · have hplB:decide ((sg.packed.length:Int)<=d.pos)=true:=decide_eq_true hpl
   have HS:Hid (R=(f,Fl.no 3)):=Lib.hid (by rw [HSP.out,if_pos (.inr hpl)])
   have a90:w4.cell? ⟨w.heap.size,0,none⟩=some (.int .i64 0):=hans4.cell 0
   have f90:=hans4.frozen 0
   have a91:w4.cell? ⟨w.heap.size,1,none⟩=some (.int .i64 0):=hans4.cell 1
   have f91:=hans4.frozen 1
   have a92:w4.cell? ⟨w.heap.size,2,none⟩=some (.int .i64 0):=hans4.cell 2
   have f92:=hans4.frozen 2
   have a93:w4.cell? ⟨w.heap.size,3,none⟩=some (.int .i64 0):=hans4.cell 3
   have f93:=hans4.frozen 3
   have a94:w4.cell? ⟨w.heap.size,4,none⟩=some (.slice none 0 0):=hans4.cell 4
   have f94:=hans4.frozen 4
   go_wp2_with fail
   have hW:set5 w4 w.heap.size (.int .i64 3) (.int .i64 0) (.int .i64 0) (.int .i64 0) (.slice none 0 0)=(((((w4.setCell ⟨w.heap.size,0,none⟩ (.int .i64 3)).setCell ⟨w.heap.size,1,none⟩ (.int .i64 0)).setCell ⟨w.heap.size,2,none⟩ (.int .i64 0)).setCell ⟨w.heap.size,3,none⟩ (.int .i64 0)).setCell ⟨w.heap.size,4,none⟩ (.slice none 0 0)):=rfl
   rw [<-hW]
   have hb5:=set5_blk (a:=.int .i64 3) (b:=.int .i64 0) (c:=.int .i64 0) (d:=.int .i64 0) (e:=.slice none 0 0) hans4
   have hxe:Below w.heap.size w (set5 w4 w.heap.size (.int .i64 3) (.int .i64 0) (.int .i64 0) (.int .i64 0) (.slice none 0 0)):=set5_below hxw4 (Nat.le_refl _)
   clear hW
   generalize set5 w4 w.heap.size (.int .i64 3) (.int .i64 0) (.int .i64 0) (.int .i64 0) (.slice none 0 0)=W at *
   have s0:W.cell? ⟨w.heap.size,0,none⟩=some (.int .i64 3):=hb5.cell 0
   have s1:W.cell? ⟨w.heap.size,1,none⟩=some (.int .i64 0):=hb5.cell 1
   have s2:W.cell? ⟨w.heap.size,2,none⟩=some (.int .i64 0):=hb5.cell 2
   have s3:W.cell? ⟨w.heap.size,3,none⟩=some (.int .i64 0):=hb5.cell 3
   have s4:W.cell? ⟨w.heap.size,4,none⟩=some (.slice none 0 0):=hb5.cell 4
   exact bodyPost_ret (v:=.agg #[.int .i64 3,.int .i64 0,.int .i64 0,.int .i64 0,.slice none 0 0]) (by simp [results,Try.results137,go_sem,s0,s1,s2,s3,s4]) rfl (by rw [HS.out];exact StepP.same hF hT hBw hxe rfl rfl)
 have hplB:decide ((sg.packed.length:Int)<=d.pos)=false:=decide_eq_false hpl
 obtain ⟨i,hi⟩:∃ i:Nat,d.pos=(i:Int):=⟨d.pos.toNat,by omega⟩
 have hin:d.pos.toNat=i:=by omega
 have hil:i<sg.packed.length:=by omega
 have HS:Hid (R=(⟨f.sh.set k { s with man:={ s.man with segs:=s.man.segs.set j { sg with packed:=sg.packed.set i (sg.packed[i] ^^^ d.turn) } } },f.book⟩,⟨0,(k:Int),0,0,[]⟩)):=Lib.hid (by
  rw [HSP.out,if_neg (by omega),hin,List.getD_eq_getElem?_getD,List.getElem?_eq_getElem hil];rfl)
 go_upto_region 7 with (fail)
 rw [hi] at d5
 have HI:=Lib.hid hi
 clear hi hp0 hp0B hpl hplB
 have hiB:(i:Int)<(sg.packed.length:Int):=by omega
 have hi0:(0:Int)<=(i:Int):=by omega
 have t24:=t23.below hx4
 have t44:∀ (j:Nat) (t:Seg) (p:Value),s.man.segs[j]? = some t->ps[j]? = some p->TB w4 B tag (some (k,j+1)) p t.packed:=fun j t p ht hp=>(t43 j t p ht hp).below hx4
 have hb4:=(t44 j sg _ hsg hpv).1
 obtain ⟨gb,ob,cb,hvb,hgbB,hgblt,hnb,_,hcb⟩:=hb4.form (by omega)
 injection hvb with hvb _ hvc
 subst hvb hvc
 have hbyte:w4.cell? ⟨gb,ob+i,none⟩=some (bv sg.packed[i]):=hcb i _ (by rw [List.getElem?_map,List.getElem?_eq_getElem hil];rfl)
 have hbf:w4.frozen? ⟨gb,ob+i,none⟩=false:=by
  obtain ⟨_,cur,hcur⟩:=Own.type hb4 gb rfl
  exact frozen_of_row w4 gb _ cur _ hcur
 have hqb:q≠gb:=by omega
 clear hcb
 unfold bv at hbyte d6
 refine wp_region_held_drew (S:=(fun z:World=>z.cell? ⟨q,o+5,none⟩=some (.int .i64 (i:Int))/\z.cell? ⟨q,o+6,none⟩=some (.int .u8 (d.turn.toNat:Int)))) (by kernel_rfl) ?_ (fun hHeld=>?_)
 · exact ⟨d5,d6⟩
 refine step_tk 0 (h:=?_)
 refine step_tk 1 (h:=?_)
 refine step_tk 2 (h:=?_)
 refine step_tk 3 (h:=?_)
 refine step_tk 4 (h:=?_)
 refine step_tk 5 (h:=?_)
 refine step_tk 7 (h:=?_)
 refine step_tk 8 (h:=?_)
 refine step_tk 9 (h:=?_)
 refine step_tk 10 (h:=?_)
 refine step_alone 6 rfl (by kernel_rfl) (by rfl) (fun K hK=>?_)
 go_simp
 refine hK.out _ _ ?_ (fun hHeld=>?_)
 · exact ⟨d5,d6⟩
 clear hK K
 try simp only [Act.put,List.setIfInBounds_toArray,List.set_cons_zero,List.set_cons_succ]
 refine step_tk 11 (h:=?_)
 refine step_tk 12 (h:=?_)
 refine step_alone 13 rfl (by kernel_rfl) (by rfl) (fun K hK=>?_)
 go_simp
 refine hK.out _ _ ?_ (fun hHeld=>?_)
 · exact ⟨(World.cell?_of_block (Below.heap_setCell _ _ _ q hqb)).trans d5,(World.cell?_of_block (Below.heap_setCell _ _ _ q hqb)).trans d6⟩
 clear hK K
 try simp only [Act.put,List.setIfInBounds_toArray,List.set_cons_zero,List.set_cons_succ]
 refine wpAnyH_done (by kernel_rfl) ?_ _
 rw [xor8]
 obtain ⟨hP5,hK5⟩:=hP4.byte hs hu t1 t24 t3 t44 hsg hpv (i:=i) (sg.packed[i] ^^^ d.turn)
 obtain ⟨cur4,hcur4⟩:=(Own.type hb4 gb rfl).2
 have hans5:Blk (w4.setCell ⟨gb,ob+i,none⟩ (.int .u8 ((sg.packed[i] ^^^ d.turn).toNat:Int))).drew w.heap.size 105 #[.int .i64 0,.int .i64 0,.int .i64 0,.int .i64 0,.slice none 0 0]:=hans4.far (p:=⟨gb,ob+i,none⟩) (Blk.ne hans4 hcur4 (by decide)) _
 have d15:(w4.setCell ⟨gb,ob+i,none⟩ (.int .u8 ((sg.packed[i] ^^^ d.turn).toNat:Int))).drew.cell? ⟨q,o+1,none⟩=some (.int .i64 (k:Int)):=(World.cell?_of_block (Below.heap_setCell _ _ _ q hqb)).trans (by rw [HN.out] at d1;exact d1)
 have hF5:FltAt (w4.setCell ⟨gb,ob+i,none⟩ (.int .u8 ((sg.packed[i] ^^^ d.turn).toNat:Int))).drew B gF tag ⟨f.sh.set k { s with man:={ s.man with segs:=s.man.segs.set j { sg with packed:=sg.packed.set i (sg.packed[i] ^^^ d.turn) } } },f.book⟩:=hP5.drew.at_
 have hT5:TagOk (w4.setCell ⟨gb,ob+i,none⟩ (.int .u8 ((sg.packed[i] ^^^ d.turn).toNat:Int))).drew B tag:=(hT.size hxw4.size).size (by show w4.heap.size<=(w4.setCell ⟨gb,ob+i,none⟩ (.int .u8 ((sg.packed[i] ^^^ d.turn).toNat:Int))).heap.size;simp)
 have hK6:Kept w (w4.setCell ⟨gb,ob+i,none⟩ (.int .u8 ((sg.packed[i] ^^^ d.turn).toNat:Int))).drew B tag tag:=((Kept.of_below hxw4 hBw).trans hK5 hBw).trans (Kept.of_below ((Below.refl _ _).drew) (by have:=hxw4.size;simp;omega)) hBw
 clear hP5 hK5
 generalize (w4.setCell ⟨gb,ob+i,none⟩ (.int .u8 ((sg.packed[i] ^^^ d.turn).toNat:Int))).drew=w5 at *
 have a90:w5.cell? ⟨w.heap.size,0,none⟩=some (.int .i64 0):=hans5.cell 0
 have f90:=hans5.frozen 0
 have a91:w5.cell? ⟨w.heap.size,1,none⟩=some (.int .i64 0):=hans5.cell 1
 have f91:=hans5.frozen 1
 have a92:w5.cell? ⟨w.heap.size,2,none⟩=some (.int .i64 0):=hans5.cell 2
 have f92:=hans5.frozen 2
 have a93:w5.cell? ⟨w.heap.size,3,none⟩=some (.int .i64 0):=hans5.cell 3
 have f93:=hans5.frozen 3
 have a94:w5.cell? ⟨w.heap.size,4,none⟩=some (.slice none 0 0):=hans5.cell 4
 have f94:=hans5.frozen 4
 go_wp2_with fail
 have hW:set5 w5 w.heap.size (.int .i64 0) (.int .i64 (k:Int)) (.int .i64 0) (.int .i64 0) (.slice none 0 0)=(((((w5.setCell ⟨w.heap.size,0,none⟩ (.int .i64 0)).setCell ⟨w.heap.size,1,none⟩ (.int .i64 (k:Int))).setCell ⟨w.heap.size,2,none⟩ (.int .i64 0)).setCell ⟨w.heap.size,3,none⟩ (.int .i64 0)).setCell ⟨w.heap.size,4,none⟩ (.slice none 0 0)):=rfl
 rw [<-hW]
 have hb5:=set5_blk (a:=.int .i64 0) (b:=.int .i64 (k:Int)) (c:=.int .i64 0) (d:=.int .i64 0) (e:=.slice none 0 0) hans5
 have hF9:=hF5.set5 (a:=.int .i64 0) (b:=.int .i64 (k:Int)) (c:=.int .i64 0) (d:=.int .i64 0) (e:=.slice none 0 0) hans5
 have hT9:TagOk (set5 w5 w.heap.size (.int .i64 0) (.int .i64 (k:Int)) (.int .i64 0) (.int .i64 0) (.slice none 0 0)) B tag:=hT5.size (by rw [set5_size];exact Nat.le_refl _)
 have hK9:Kept w (set5 w5 w.heap.size (.int .i64 0) (.int .i64 (k:Int)) (.int .i64 0) (.int .i64 0) (.slice none 0 0)) B tag tag:=hK6.set5 (Nat.le_refl _) hBw
 clear hW
 generalize set5 w5 w.heap.size (.int .i64 0) (.int .i64 (k:Int)) (.int .i64 0) (.int .i64 0) (.slice none 0 0)=W at *
 have s0:W.cell? ⟨w.heap.size,0,none⟩=some (.int .i64 0):=hb5.cell 0
 have s1:W.cell? ⟨w.heap.size,1,none⟩=some (.int .i64 (k:Int)):=hb5.cell 1
 have s2:W.cell? ⟨w.heap.size,2,none⟩=some (.int .i64 0):=hb5.cell 2
 have s3:W.cell? ⟨w.heap.size,3,none⟩=some (.int .i64 0):=hb5.cell 3
 have s4:W.cell? ⟨w.heap.size,4,none⟩=some (.slice none 0 0):=hb5.cell 4
 exact bodyPost_ret (v:=.agg #[.int .i64 0,.int .i64 (k:Int),.int .i64 0,.int .i64 0,.slice none 0 0]) (by simp [results,Try.results137,go_sem,s0,s1,s2,s3,s4]) rfl (by rw [HS.out];exact ⟨.slice none 0 0,tag,rfl,hF9,hT9,hK9,Own.nil_ _ _ _ _⟩)
end Go.Proofs.Ytfdibjgmbdkbcaa
