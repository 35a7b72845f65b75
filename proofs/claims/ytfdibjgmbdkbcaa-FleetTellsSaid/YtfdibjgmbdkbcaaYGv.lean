/-
  THE WALK of yearref1.Same: it tells whether two lists of bytes are the same, and only reads. Conditions: both are read as bytes. THE WALK of yearref2.Same, of lists that are the same. Conditions: what is read is lists of texts.
-/
import Derived.Test.YtfdibjgmbdkbcaaProg
import Derived.WalkKit
import Derived.WalkSpells
import Derived.WalkLawsBesides
import Derived.Deep.QuietTactic
import Derived.BigQuiet
import Derived.Test.YtfdibjgmbdkbcaaYGa
import Derived.Test.YtfdibjgmbdkbcaaYGf
namespace Go.Proofs.Ytfdibjgmbdkbcaa
open Go.RowKit
set_option maxHeartbeats 400000 in
theorem same_any (w:World) (F F':Nat->Prop) (va vb:Value) (a b:Bs) (ha:Bytes w F va a) (hb:Bytes w F' vb b) :
 Calls Try.prog 13 #[va,vb] w fun e w'=>e = .returned (.bool (a==b))/\∃ n,w'=w.drewN n:=by
 obtain ⟨A,c,rfl,hac,hcm,hal,hA⟩:=ha
 obtain ⟨B,d,rfl,hbd,hdm,hbl,hB⟩:=hb
 unfold maxLen at hcm hdm
 by_cases hl:a.length=b.length
 · have hn:((a.length:Int) != (b.length:Int))=false:=by simp [hl]
   have HL:=Lib.hid hl
   clear hl
   go_enter Try.func13,Try.ntmps13
   go_wp2
   go_loopw [13] (fun i wr=>∃ k m:Nat,k<=a.length/\i = .int .i64 k/\a.take k=b.take k/\wr=w.drewN m) (fun i _=>a.length-(intOf i).toNat)
   case atStart=>exact ⟨0,0,Nat.zero_le _,rfl,by simp,rfl⟩
   case round =>
    obtain ⟨k,m,hk,rfl,hpre,rfl⟩:=hrel
    have HP:=Lib.hid hpre
    clear hpre
    by_cases hlt:k<a.length
    · obtain ⟨p,off,rfl,_,_,hcA⟩:=hA (by omega)
      obtain ⟨q,off',rfl,_,_,hcB⟩:=hB (by have:=HL.out;omega)
      have ca:=hcA k (bv a[k]) (by simp [hlt])
      have hlt':k<b.length:=by have:=HL.out;omega
      have cb:=hcB k (bv b[k]) (by simp [hlt'])
      clear hcA hcB hA hB
      unfold bv at ca cb
      have hltB:(k:Int)<(b.length:Int):=by omega
      have hltA:(k:Int)<(a.length:Int):=by omega
      by_cases he:a[k]=b[k]
      · have hne:((a[k].toNat:Int) != (b[k].toNat:Int))=false:=by simp [he]
        have hnext:a.take (k+1)=b.take (k+1):=by
         rw [List.take_succ_eq_append_getElem hlt,List.take_succ_eq_append_getElem hlt',HP.out,he]
        have HN:=Lib.hid hnext
        clear he hnext
        go_wp2
        go_quiet (fail)
        go_wp2
        exact ⟨⟨k+1,m+nq,by omega,by go_num,HN.out,rfl⟩,by simp [intOf];omega⟩
      · have hne:((a[k].toNat:Int) != (b[k].toNat:Int))=true:=u8_bne he
        have hab:(a==b)=false:=by
         simp only [beq_eq_false_iff_ne,ne_eq]
         intro h
         subst h
         exact he rfl
        have HN:=Lib.hid hab
        clear he hab
        go_wp2
        go_quiet (fail)
        go_wp2
        go_ret
        exact ⟨by rw [HN.out];rfl,m+nq,World.drewN_drewN _ _ _⟩
    · have hab:a=b:=by
       have h:=HP.out
       rw [List.take_of_length_le (by omega),List.take_of_length_le (by have:=HL.out;omega)] at h
       exact h
      have HN:=Lib.hid hab
      clear hab
      go_wp2
      go_ret
      exact ⟨by simp [HN.out],m,rfl⟩
 · have hn:((a.length:Int) != (b.length:Int))=true:=nat_bne hl
   have hab:(a==b)=false:=by
    simp only [beq_eq_false_iff_ne,ne_eq]
    intro h
    exact hl (by rw [h])
   have HN:=Lib.hid hab
   clear hl hab
   go_enter Try.func13,Try.ntmps13
   go_wp2
   go_ret
   exact ⟨by rw [HN.out];rfl,0,rfl⟩
end Go.Proofs.Ytfdibjgmbdkbcaa
namespace Go.Proofs.Ytfdibjgmbdkbcaa
open Go.RowKit Go.Lib
set_option maxRecDepth 100000 in
set_option maxHeartbeats 1000000 in
theorem same2_yes (w:World) (F F':Nat->Prop) (va vb:Value) (a:List Bs) (ha:BList w F va a) (hb:BList w F' vb a) :
 Calls Try.prog 44 #[va,vb] w fun e w'=>e = .returned (.bool true)/\∃ n,w'=w.drewN n:=by
 obtain ⟨A,c,hA,hac,hcm,_⟩:=ha.shape
 obtain ⟨B,d,hB,hbd,hdm,_⟩:=hb.shape
 subst hA hB
 unfold maxLen at hcm hdm
 have hn:((a.length:Int) != (a.length:Int))=false:=by simp
 go_enter Try.func44,Try.ntmps44
 go_wp2_with fail
 go_loopg [13] a.length (fun k i wr=>∃ j m:Nat,j+k=a.length/\i = .int .i64 (j:Int)/\wr=w.drewN m)
 case atStart=>exact ⟨0,0,by omega,rfl,rfl⟩
 case round =>
  obtain ⟨j,m,hj,rfl,hwr⟩:=hrel
  have ha':BList wr F (.slice A a.length c) a:=by rw [hwr];exact ha.drewN m
  have hb':BList wr F' (.slice B a.length d) a:=by rw [hwr];exact hb.drewN m
  have HW:=Lib.hid hwr
  clear hwr
  by_cases hlt:j<a.length
  · obtain ⟨b1,o1,u1,hA1,p1,_,hb1,hu1⟩:=BList.at_ ha' hlt
    obtain ⟨b2,o2,u2,hA2,p2,_,hb2,hu2⟩:=BList.at_ hb' hlt
    subst hA1 hA2
    have hltB:(j:Int)<(a.length:Int):=by omega
    have h0B:(0:Int)<=(j:Int):=by omega
    have hsame:=fun n=>same_any (wr.drewN n) _ _ _ _ _ _ (hu1.drewN n) (hu2.drewN n)
    simp only [beq_self_eq_true] at hsame
    have HSM:=Lib.hid hsame
    clear hsame
    go_wp2_with fail
    go_quiet ((go_at_call 13;exact Calls.quiet_of (HSM.out _)))
    go_wp2_with fail
    go_roundg (gk-1)
    case measure=>omega
    case rel=>exact ⟨j+1,_,by omega,by go_num,by rw [HW.out,World.drewN_drewN]⟩
  · have hltB:decide ((j:Int)<(a.length:Int))=false:=decide_eq_false (by omega)
    go_wp2_with fail
    go_ret
    exact ⟨rfl,m,HW.out⟩
end Go.Proofs.Ytfdibjgmbdkbcaa
