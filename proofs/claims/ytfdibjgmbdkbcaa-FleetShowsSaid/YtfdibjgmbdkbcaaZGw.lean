/-
  THE WALKS of yearref5.SameHead, SameRecord, SameAnswer, SameBook, SameManifest, SameFleet, of what is the same. Conditions: what is read.
-/
import Derived.Test.YtfdibjgmbdkbcaaZSt
import Derived.Test.YtfdibjgmbdkbcaaZBD
import Derived.Test.YtfdibjgmbdkbcaaZGh
import Derived.Test.YtfdibjgmbdkbcaaZGq
import Derived.Test.YtfdibjgmbdkbcaaZGv
namespace Go.Proofs.Ytfdibjgmbdkbcaa
open Go.RowKit Go.Lib
set_option maxRecDepth 100000 in
set_option maxHeartbeats 1000000 in
theorem sameHead_yes (w:World) (F F':Nat->Prop) (n:Int) (va vb:Value) (l:Bs) (ha:Bytes w F va l) (hb:Bytes w F' vb l) :
 Calls Try.prog 58 #[.agg #[.int .i64 n,va],.agg #[.int .i64 n,vb]] w fun e w'=>e = .returned (.bool true)/\Below w.heap.size w w':=by
 obtain ⟨A,c,rfl⟩:=ha.form
 obtain ⟨A',c',rfl⟩:=hb.form
 have hx:=((Below.refl w.heap.size w).alloc (Nat.le_refl _) (.cells #[.int .i64 n,.slice A l.length c] 39)).alloc (by simp) (.cells #[.int .i64 n,.slice A' l.length c'] 39)
 have ha2:=(ha.alloc (.cells #[.int .i64 n,.slice A l.length c] 39)).alloc (.cells #[.int .i64 n,.slice A' l.length c'] 39)
 have hb2:=(hb.alloc (.cells #[.int .i64 n,.slice A l.length c] 39)).alloc (.cells #[.int .i64 n,.slice A' l.length c'] 39)
 go_enter Try.func58,Try.ntmps58
 go_wp2_with fail
 refine (same_any _ _ _ _ _ l l ha2 hb2).mono ?_
 rintro e w1 ⟨rfl,n1,hw⟩
 rw [beq_self_eq_true]
 have hx1:=below_drewN hx n1
 rw [<-hw] at hx1
 clear hw
 go_wp2_with fail
 go_ret
 exact ⟨rfl,hx1⟩
set_option maxRecDepth 100000 in
set_option maxHeartbeats 1000000 in
theorem sameRec_yes (w:World) (F F':Nat->Prop) (sh fr tt sz:Int) (va vb:Value) (l:Bs) (ha:Bytes w F va l) (hb:Bytes w F' vb l) :
 Calls Try.prog 53 #[.agg #[.int .i64 sh,.int .i64 fr,.int .i64 tt,.int .i64 sz,va],.agg #[.int .i64 sh,.int .i64 fr,.int .i64 tt,.int .i64 sz,vb]] w fun e w'=>e = .returned (.bool true)/\Below w.heap.size w w':=by
 obtain ⟨A,c,rfl⟩:=ha.form
 obtain ⟨A',c',rfl⟩:=hb.form
 have hx:=((Below.refl w.heap.size w).alloc (Nat.le_refl _) (.cells #[.int .i64 sh,.int .i64 fr,.int .i64 tt,.int .i64 sz,.slice A l.length c] 61)).alloc (by simp) (.cells #[.int .i64 sh,.int .i64 fr,.int .i64 tt,.int .i64 sz,.slice A' l.length c'] 61)
 have ha2:=(ha.alloc (.cells #[.int .i64 sh,.int .i64 fr,.int .i64 tt,.int .i64 sz,.slice A l.length c] 61)).alloc (.cells #[.int .i64 sh,.int .i64 fr,.int .i64 tt,.int .i64 sz,.slice A' l.length c'] 61)
 have hb2:=(hb.alloc (.cells #[.int .i64 sh,.int .i64 fr,.int .i64 tt,.int .i64 sz,.slice A l.length c] 61)).alloc (.cells #[.int .i64 sh,.int .i64 fr,.int .i64 tt,.int .i64 sz,.slice A' l.length c'] 61)
 go_enter Try.func53,Try.ntmps53
 go_wp2_with fail
 refine (sameHead_yes _ _ _ sz _ _ l ha2 hb2).mono ?_
 rintro e w1 ⟨rfl,hx1⟩
 go_wp2_with fail
 go_ret
 exact ⟨rfl,hx.trans (hx1.mono hx.size)⟩
end Go.Proofs.Ytfdibjgmbdkbcaa
