/-
  An entry more in a shard: the region of yearref5.Step that draws its order. Conditions: what is read. THE WALK of yearref5.Step, of an entry that is handed in. Conditions: a fleet of which all holds; what is done is read.
-/
import Derived.Test.YtfdibjgmbdkbcaaZGq
import Derived.Test.YtfdibjgmbdkbcaaZGr
import Derived.Test.YtfdibjgmbdkbcaaZGv
import Derived.Test.YtfdibjgmbdkbcaaZR7BC
import Derived.Test.YtfdibjgmbdkbcaaZR7G
namespace Go.Proofs.Ytfdibjgmbdkbcaa
open Go.RowKit Go.Lib
theorem bytes_one {w:World} {F:Nat->Prop} {v:Value} {l:Bs} (h:Bytes w F v l):v.oneCell'=true:=by
 obtain ⟨A,c,rfl⟩:=h.form
 rfl
theorem BList.raw {w:World} {F:Nat->Prop} {v:Value} {ll:List Bs} (h:BList w F v ll):∃ raw:List Value,raw.length=ll.length/\(∀ u ∈ raw,u.oneCell'=true)/\SlAt w F 1 v ll.length raw/\∀ (i:Nat) (b:Bs),ll[i]? = some b->∃ u,raw[i]? = some u/\Bytes w F u b:=by
 obtain ⟨vs,hs,hv⟩:=h
 have hl:vs.length=ll.length:=by
  obtain ⟨_,_,_,_,_,h,_⟩:=hs
  omega
 refine ⟨vs,hl,fun u hu=>?_,hs,hv⟩
 obtain ⟨i,hi,rfl⟩:=List.getElem_of_mem hu
 obtain ⟨u,h1,h2⟩:=hv i _ (List.getElem?_eq_getElem (by omega))
 rw [List.getElem?_eq_getElem hi] at h1
 injection h1 with h1
 rw [h1]
 exact bytes_one h2
theorem BList.snoc_own {w z:World} {B:Nat} {F G:Nat->Prop} {v x:Value} {ll:List Bs} {e:Bs} {raw:List Value} (hl:raw.length=ll.length) (hr:∀ (i:Nat) (b:Bs),ll[i]? = some b->∃ u,raw[i]? = some u/\Bytes w F u b) (hb:Below w.heap.size w z)
 (hv:Own z B 22 1 v (ll.length+1) (raw++[x])) (hx:Own z B 5 1 x e.length (e.map bv)) (hF:∀ b,F b->G b) (hB:∀ b,B<=b->G b):BList z G v (ll++[e]):=by
 refine ⟨raw++[x],by rw [List.length_append];exact hv.slAt fun k hk=>hB k (hv.lt k hk).1,fun i b hi=>?_⟩
 rcases Nat.lt_or_ge i ll.length with h | h
 · rw [List.getElem?_append_left h] at hi
   obtain ⟨u,h1,h2⟩:=hr i b hi
   exact ⟨u,by rw [List.getElem?_append_left (by omega)];exact h1,SlAt.weak (SlAt.below h2 hb) fun k _ hk=>hF k hk⟩
 · rw [List.getElem?_append_right h] at hi
   have hi0:i-ll.length=0:=by
    have:=(List.getElem?_eq_some_iff.1 hi).1
    simp only [List.length_cons,List.length_nil] at this
    omega
   rw [hi0] at hi
   injection hi with hi
   subst hi
   exact ⟨x,by rw [List.getElem?_append_right (by omega),hl,hi0];rfl,SlAt.weak (OwnB.bytes hx) fun k _ hk=>hB k hk.1⟩
section
variable {w w':World} {B n t s:Nat} {e:Bs} {x1 x2 x3 y:Value}
def JC (w:World) (B:Nat) (e:Bs) (t s:Nat) (x1 x2 x3 y:Value):Prop :=
 (t=1->Own w B 5 1 x1 0 [])/\(2<=t->Own w B 5 1 x2 e.length (e.map bv))/\(t=3->s<3->∃ g,x3 = .slice (some ⟨g,0,none⟩) 1 1/\B<=g/\Blk w g 22 #[x2]/\y.ownBlock≠some g)
theorem JC.alloc (h:JC w B e t s x1 x2 x3 y) (o:Obj):JC (w.alloc o) B e t s x1 x2 x3 y:=⟨fun q=>(h.1 q).alloc o,fun q=>(h.2.1 q).alloc o,fun q1 q2=>by
 obtain ⟨g,h1,h2,h3,h4⟩:=h.2.2 q1 q2
 exact ⟨g,h1,h2,h3.alloc _,h4⟩⟩
end
theorem u8_bytes:5≠22:=by decide
set_option maxRecDepth 100000 in
set_option maxHeartbeats 16000000 in
theorem step_region20 (Q:Exit->Act->World->Prop) (w:World) (ps:String) (y0 y1 y2 y4 y5 y6 y8 y9 y10 y11 y12 y13 y14 y15 y16 y17 y18 y19 y20 y21 y22 y23 y24 y25 y26 y27 y28 y29 y30 y31 y32 y33 y34 y35 y36 y37 y38 y39 y40 y41 y42 y43 y44 y45 y46 y47 y48 y49 y50 y51 y52 y53 y54 y55 y56 y57 y58 y59 y60 y61 y62 y63 y64 y65 y66 y67 y68 y69 y70 y71 y72 y73 y74 y75 y76 y77 y78 y79 y80 y81 y82 y83 y84 y85 y86 y87 y88 y89 y90 y91 y92 y93 y94 y95 y96 y97 y98 y99 y100 y101 y102 y103 y104 y105 y106 y107 y108 y109 y110 y111 y112 y113 y114 y115 y116 y117 y118 y119 y120 y121 y122 y123 y124 y125 y126 y127 y128 y129 y130 y131 y132 y133 y134 y135 y136 y137 y138 y139 y140 y141 y142 y143 y144 y145 y146 y147 y148 y149 y150 y151 y152 y153 y154 y155 y156 y157 y158 y159 y160 y161 y162 y163 y164 y165 y166 y167 y168 y169 y170 y171 y172 y173 y174 y175 y176 y177 y178 y179 y180 y181 y182 y183 y184 y185 y186 y187 y188 y189 y190 y191 y192 y193 y194 y195 y196 y197 y198 y199 y200 y201 y202 y203 y204 y205 y206 y207 y208 y209 y210 y211 y212 y213 y214 y215 y216 y217 y218 y219 y220 y221 y222 y223 y224 y225 y226 y227 y228 y229 y230 y231 y232 y233 y234 y235 y236 y237 y238 y239 y240 y241 y242 y243 y244 y245 y246 y247 y248 y249 y250 y251 y252 y253 y254 y255 y256 y257 y258 y259 y260 y261 y262 y263 y264 y265 y266 y267 y268 y269 y270 y271 y272 y273 y274 y275 y276 y277 y278 y279 y280 y281 y282 y283 y284 y285 y286 y287 y288 y289 y290 y291 y292 y293 y294 y295 y296 y297 y298 y299 y300 y301 y302 y303 y304 y305 y306 y307 y308 y309 y310 y311 y312 y313 y314 y315 y316 y317 y318 y319 y320 y321 y322 y323 y324 y325 y326 y327 y328 y329 y330 y331 y332 y333 y334 y335 y336 y337 y338 y339 y340 y341 y342 y343 y344 y345:Value) (ds:List Deferred) (gD gS oK:Nat) (A5 Ae:Option Addr) (c5 ce:Nat) (ents:List Bs) (entry:Bs) (F F0:Nat->Prop)
 (hel:BList w F (.slice A5 ents.length c5) ents) (h100:ents.length<=100) (he:Bytes w F0 (.slice Ae entry.length ce) entry) (h200:entry.length<=200) (c3:w.cell? ⟨gS,oK+3,none⟩=some (.slice A5 ents.length c5)) (cD:w.cell? ⟨gD,3,none⟩=some (.slice Ae entry.length ce))
 (lD:gD<w.heap.size) (lS:gS<w.heap.size) (f3:w.frozen? ⟨gS,oK+3,none⟩=false) (nD:gD≠gS)
 (hQ:∀ (c:List PanicEntry) (a:Act) (d:Tmp) (v:Value) (z:World),Q (.panic c) (a.put (some d) v) z->Q (.panic c) a z)
 (hend:∀ (x90 x91 x92 x93 x94 x95 x96 x97 x98 x99 x100 x101 x102 x103 x104:Value) (raw:List Value) (z:World),raw.length=ents.length->(∀ (i:Nat) (b:Bs),ents[i]? = some b->∃ u,raw[i]? = some u/\Bytes w F u b)->Own z w.heap.size 22 1 x102 (ents.length+1) (raw++[x100])->Own z w.heap.size 5 1 x100 entry.length (entry.map bv)->Below w.heap.size w z->Q .normal (Act.mk (List.toArray (y0::y1::y2::(.pointer (some ⟨gD,0,none⟩))::y4::y5::y6::(.pointer (some ⟨gS,oK,none⟩))::y8::y9::y10::y11::y12::y13::y14::y15::y16::y17::y18::y19::y20::y21::y22::y23::y24::y25::y26::y27::y28::y29::y30::y31::y32::y33::y34::y35::y36::y37::y38::y39::y40::y41::y42::y43::y44::y45::y46::y47::y48::y49::y50::y51::y52::y53::y54::y55::y56::y57::y58::y59::y60::y61::y62::y63::y64::y65::y66::y67::y68::y69::y70::y71::y72::y73::y74::y75::y76::y77::y78::y79::y80::y81::y82::y83::y84::y85::y86::y87::y88::y89::x90::x91::x92::x93::x94::x95::x96::x97::x98::x99::x100::x101::x102::x103::x104::y105::y106::y107::y108::y109::y110::y111::y112::y113::y114::y115::y116::y117::y118::y119::y120::y121::y122::y123::y124::y125::y126::y127::y128::y129::y130::y131::y132::y133::y134::y135::y136::y137::y138::y139::y140::y141::y142::y143::y144::y145::y146::y147::y148::y149::y150::y151::y152::y153::y154::y155::y156::y157::y158::y159::y160::y161::y162::y163::y164::y165::y166::y167::y168::y169::y170::y171::y172::y173::y174::y175::y176::y177::y178::y179::y180::y181::y182::y183::y184::y185::y186::y187::y188::y189::y190::y191::y192::y193::y194::y195::y196::y197::y198::y199::y200::y201::y202::y203::y204::y205::y206::y207::y208::y209::y210::y211::y212::y213::y214::y215::y216::y217::y218::y219::y220::y221::y222::y223::y224::y225::y226::y227::y228::y229::y230::y231::y232::y233::y234::y235::y236::y237::y238::y239::y240::y241::y242::y243::y244::y245::y246::y247::y248::y249::y250::y251::y252::y253::y254::y255::y256::y257::y258::y259::y260::y261::y262::y263::y264::y265::y266::y267::y268::y269::y270::y271::y272::y273::y274::y275::y276::y277::y278::y279::y280::y281::y282::y283::y284::y285::y286::y287::y288::y289::y290::y291::y292::y293::y294::y295::y296::y297::y298::y299::y300::y301::y302::y303::y304::y305::y306::y307::y308::y309::y310::y311::y312::y313::y314::y315::y316::y317::y318::y319::y320::y321::y322::y323::y324::y325::y326::y327::y328::y329::y330::y331::y332::y333::y334::y335::y336::y337::y338::y339::y340::y341::y342::y343::y344::y345::[])) ds) (z.setCell ⟨gS,oK+3,none⟩ x102)) :
 Code.wp Try.prog (Code.region 20 #[{ dst:=some 90,op:=Op.move (Operand.tmp 7),type:=162,pos:=ps,after:=#[],guard:=none },{ dst:=some 91,op:=Op.buildSlice 40 0 #[],type:=40,pos:=ps,after:=#[],guard:=none },{ dst:=some 92,op:=Op.move (Operand.tmp 7),type:=162,pos:=ps,after:=#[],guard:=none },{ dst:=some 93,op:=Op.nilCheck (Operand.tmp 92),type:=0,pos:=ps,after:=#[{ on:=2,ground:=Ground.data }],guard:=none },{ dst:=some 94,op:=Op.fieldAddr 156 (Operand.tmp 93) 3,type:=0,pos:=ps,after:=#[{ on:=3,ground:=Ground.data }],guard:=none },{ dst:=some 95,op:=Op.load 40 (Operand.tmp 94),type:=40,pos:=ps,after:=#[{ on:=4,ground:=Ground.data }],guard:=none },{ dst:=some 96,op:=Op.call { callee:=Callee.builtin Builtin.append,args:=#[Operand.tmp 91,Operand.tmp 95],argTypes:=#[40,40] },type:=40,pos:=ps,after:=#[{ on:=1,ground:=Ground.data },{ on:=5,ground:=Ground.data }],guard:=none },{ dst:=some 97,op:=Op.buildSlice 22 0 #[],type:=22,pos:=ps,after:=#[],guard:=none },{ dst:=some 98,op:=Op.fieldAddr 111 (Operand.tmp 3) 3,type:=0,pos:=ps,after:=#[],guard:=none },{ dst:=some 99,op:=Op.load 22 (Operand.tmp 98),type:=22,pos:=ps,after:=#[{ on:=8,ground:=Ground.data }],guard:=none },{ dst:=some 100,op:=Op.call { callee:=Callee.builtin Builtin.append,args:=#[Operand.tmp 97,Operand.tmp 99],argTypes:=#[22,22] },type:=22,pos:=ps,after:=#[{ on:=7,ground:=Ground.data },{ on:=9,ground:=Ground.data },{ on:=6,ground:=Ground.chain }],guard:=none },{ dst:=some 101,op:=Op.buildSlice 40 1 #[(0,Operand.tmp 100)],type:=40,pos:=ps,after:=#[{ on:=10,ground:=Ground.data }],guard:=none },{ dst:=some 102,op:=Op.call { callee:=Callee.builtin Builtin.append,args:=#[Operand.tmp 96,Operand.tmp 101],argTypes:=#[40,40] },type:=40,pos:=ps,after:=#[{ on:=6,ground:=Ground.data },{ on:=11,ground:=Ground.data },{ on:=10,ground:=Ground.chain }],guard:=none },{ dst:=some 103,op:=Op.nilCheck (Operand.tmp 90),type:=0,pos:=ps,after:=#[{ on:=0,ground:=Ground.data },{ on:=0,ground:=Ground.phase },{ on:=1,ground:=Ground.phase },{ on:=2,ground:=Ground.phase },{ on:=3,ground:=Ground.phase },{ on:=4,ground:=Ground.phase },{ on:=5,ground:=Ground.phase },{ on:=6,ground:=Ground.phase },{ on:=7,ground:=Ground.phase },{ on:=8,ground:=Ground.phase },{ on:=9,ground:=Ground.phase },{ on:=10,ground:=Ground.phase },{ on:=11,ground:=Ground.phase },{ on:=12,ground:=Ground.phase }],guard:=none },{ dst:=some 104,op:=Op.fieldAddr 156 (Operand.tmp 103) 3,type:=0,pos:=ps,after:=#[{ on:=13,ground:=Ground.data },{ on:=0,ground:=Ground.phase },{ on:=1,ground:=Ground.phase },{ on:=2,ground:=Ground.phase },{ on:=3,ground:=Ground.phase },{ on:=4,ground:=Ground.phase },{ on:=5,ground:=Ground.phase },{ on:=6,ground:=Ground.phase },{ on:=7,ground:=Ground.phase },{ on:=8,ground:=Ground.phase },{ on:=9,ground:=Ground.phase },{ on:=10,ground:=Ground.phase },{ on:=11,ground:=Ground.phase },{ on:=12,ground:=Ground.phase }],guard:=none },{ dst:=none,op:=Op.store 40 (Operand.tmp 104) (Operand.tmp 102),type:=0,pos:=ps,after:=#[{ on:=14,ground:=Ground.data },{ on:=12,ground:=Ground.data },{ on:=12,ground:=Ground.chain },{ on:=0,ground:=Ground.phase },{ on:=1,ground:=Ground.phase },{ on:=2,ground:=Ground.phase },{ on:=3,ground:=Ground.phase },{ on:=4,ground:=Ground.phase },{ on:=5,ground:=Ground.phase },{ on:=6,ground:=Ground.phase },{ on:=7,ground:=Ground.phase },{ on:=8,ground:=Ground.phase },{ on:=9,ground:=Ground.phase },{ on:=10,ground:=Ground.phase },{ on:=11,ground:=Ground.phase },{ on:=12,ground:=Ground.phase }],guard:=none }] true) Q (Act.mk (List.toArray (y0::y1::y2::(.pointer (some ⟨gD,0,none⟩))::y4::y5::y6::(.pointer (some ⟨gS,oK,none⟩))::y8::y9::y10::y11::y12::y13::y14::y15::y16::y17::y18::y19::y20::y21::y22::y23::y24::y25::y26::y27::y28::y29::y30::y31::y32::y33::y34::y35::y36::y37::y38::y39::y40::y41::y42::y43::y44::y45::y46::y47::y48::y49::y50::y51::y52::y53::y54::y55::y56::y57::y58::y59::y60::y61::y62::y63::y64::y65::y66::y67::y68::y69::y70::y71::y72::y73::y74::y75::y76::y77::y78::y79::y80::y81::y82::y83::y84::y85::y86::y87::y88::y89::y90::y91::y92::y93::y94::y95::y96::y97::y98::y99::y100::y101::y102::y103::y104::y105::y106::y107::y108::y109::y110::y111::y112::y113::y114::y115::y116::y117::y118::y119::y120::y121::y122::y123::y124::y125::y126::y127::y128::y129::y130::y131::y132::y133::y134::y135::y136::y137::y138::y139::y140::y141::y142::y143::y144::y145::y146::y147::y148::y149::y150::y151::y152::y153::y154::y155::y156::y157::y158::y159::y160::y161::y162::y163::y164::y165::y166::y167::y168::y169::y170::y171::y172::y173::y174::y175::y176::y177::y178::y179::y180::y181::y182::y183::y184::y185::y186::y187::y188::y189::y190::y191::y192::y193::y194::y195::y196::y197::y198::y199::y200::y201::y202::y203::y204::y205::y206::y207::y208::y209::y210::y211::y212::y213::y214::y215::y216::y217::y218::y219::y220::y221::y222::y223::y224::y225::y226::y227::y228::y229::y230::y231::y232::y233::y234::y235::y236::y237::y238::y239::y240::y241::y242::y243::y244::y245::y246::y247::y248::y249::y250::y251::y252::y253::y254::y255::y256::y257::y258::y259::y260::y261::y262::y263::y264::y265::y266::y267::y268::y269::y270::y271::y272::y273::y274::y275::y276::y277::y278::y279::y280::y281::y282::y283::y284::y285::y286::y287::y288::y289::y290::y291::y292::y293::y294::y295::y296::y297::y298::y299::y300::y301::y302::y303::y304::y305::y306::y307::y308::y309::y310::y311::y312::y313::y314::y315::y316::y317::y318::y319::y320::y321::y322::y323::y324::y325::y326::y327::y328::y329::y330::y331::y332::y333::y334::y335::y336::y337::y338::y339::y340::y341::y342::y343::y344::y345::[])) ds) w:=by
 obtain ⟨raw,hrl,hr1,hrs,hrr⟩:=hel.raw
 obtain ⟨ib,hib,hb0,hb1,hb2⟩:=info_parts info_bytes
 obtain ⟨iu,hiu,hu0,hu1,hu2⟩:=info_parts info_u8
 have hSS:∀ z:World,(∀ b,b<w.heap.size->b≠gS->z.heap[b]? = w.heap[b]?)->(z.cell? ⟨gD,3,none⟩=some (.slice Ae entry.length ce)):=fun z hz=>(World.cell?_of_block (hz _ lD nD)).trans cD
 have HSS:=Lib.hid hSS
 clear hSS
 refine wp_region_held_drew (S:=fun z=>z.cell? ⟨gD,3,none⟩=some (.slice Ae entry.length ce)) (by kernel_rfl) ?_ (fun hHeld=>?_)
 · exact HSS.out _ (fun _ _ _=>rfl)
 clear cD
 refine step_take (i:=0) (v:=?_) rfl (by kernel_rfl) (by kernel_rfl) (by kernel_rfl) (fun c a z h=>hQ c a _ _ z h) (by rfl) ?yh0 (by assumption) ?_
 case yh0=>(intro w hSw;(try dsimp only at hSw);go_simp;(try with_reducible rfl))
 try simp only [Act.put,List.setIfInBounds_toArray,List.set_cons_zero,List.set_cons_succ]
 refine step_take (i:=2) (v:=?_) rfl (by kernel_rfl) (by kernel_rfl) (by kernel_rfl) (fun c a z h=>hQ c a _ _ z h) (by rfl) ?yh2 (by assumption) ?_
 case yh2=>(intro w hSw;(try dsimp only at hSw);go_simp;(try with_reducible rfl))
 try simp only [Act.put,List.setIfInBounds_toArray,List.set_cons_zero,List.set_cons_succ]
 refine step_take (i:=3) (v:=?_) rfl (by kernel_rfl) (by kernel_rfl) (by kernel_rfl) (fun c a z h=>hQ c a _ _ z h) (by rfl) ?yh3 (by assumption) ?_
 case yh3=>(intro w hSw;(try dsimp only at hSw);go_simp;(try with_reducible rfl))
 try simp only [Act.put,List.setIfInBounds_toArray,List.set_cons_zero,List.set_cons_succ]
 refine step_take (i:=4) (v:=?_) rfl (by kernel_rfl) (by kernel_rfl) (by kernel_rfl) (fun c a z h=>hQ c a _ _ z h) (by rfl) ?yh4 (by assumption) ?_
 case yh4=>(intro w hSw;(try dsimp only at hSw);go_simp;(try with_reducible rfl))
 try simp only [Act.put,List.setIfInBounds_toArray,List.set_cons_zero,List.set_cons_succ]
 refine step_take (i:=8) (v:=?_) rfl (by kernel_rfl) (by kernel_rfl) (by kernel_rfl) (fun c a z h=>hQ c a _ _ z h) (by rfl) ?yh8 (by assumption) ?_
 case yh8=>(intro w hSw;(try dsimp only at hSw);go_simp;(try with_reducible rfl))
 try simp only [Act.put,List.setIfInBounds_toArray,List.set_cons_zero,List.set_cons_succ]
 refine step_take (i:=9) (v:=?_) rfl (by kernel_rfl) (by kernel_rfl) (by kernel_rfl) (fun c a z h=>hQ c a _ _ z h) (by rfl) ?yh9 (by assumption) ?_
 case yh9=>(intro w hSw;(try dsimp only at hSw);go_simp;(try with_reducible rfl))
 try simp only [Act.put,List.setIfInBounds_toArray,List.set_cons_zero,List.set_cons_succ]
 refine wpAnyH_all (by kernel_rfl) (fun l a z=>(∃ (s t:Nat) (b5 b13 b14:Bool) (x90 x91 x92 x93 x94 x95 x96 x97 x98 x99 x100 x101 x102 x103 x104:Value),l=#[true,decide (1<=s),true,true,true,b5,decide (2<=s),decide (1<=t),true,true,decide (2<=t),decide (3<=t),decide (3<=s),b13,b14,false]/\a=(Act.mk (List.toArray (y0::y1::y2::(.pointer (some ⟨gD,0,none⟩))::y4::y5::y6::(.pointer (some ⟨gS,oK,none⟩))::y8::y9::y10::y11::y12::y13::y14::y15::y16::y17::y18::y19::y20::y21::y22::y23::y24::y25::y26::y27::y28::y29::y30::y31::y32::y33::y34::y35::y36::y37::y38::y39::y40::y41::y42::y43::y44::y45::y46::y47::y48::y49::y50::y51::y52::y53::y54::y55::y56::y57::y58::y59::y60::y61::y62::y63::y64::y65::y66::y67::y68::y69::y70::y71::y72::y73::y74::y75::y76::y77::y78::y79::y80::y81::y82::y83::y84::y85::y86::y87::y88::y89::x90::x91::x92::x93::x94::x95::x96::x97::x98::x99::x100::x101::x102::x103::x104::y105::y106::y107::y108::y109::y110::y111::y112::y113::y114::y115::y116::y117::y118::y119::y120::y121::y122::y123::y124::y125::y126::y127::y128::y129::y130::y131::y132::y133::y134::y135::y136::y137::y138::y139::y140::y141::y142::y143::y144::y145::y146::y147::y148::y149::y150::y151::y152::y153::y154::y155::y156::y157::y158::y159::y160::y161::y162::y163::y164::y165::y166::y167::y168::y169::y170::y171::y172::y173::y174::y175::y176::y177::y178::y179::y180::y181::y182::y183::y184::y185::y186::y187::y188::y189::y190::y191::y192::y193::y194::y195::y196::y197::y198::y199::y200::y201::y202::y203::y204::y205::y206::y207::y208::y209::y210::y211::y212::y213::y214::y215::y216::y217::y218::y219::y220::y221::y222::y223::y224::y225::y226::y227::y228::y229::y230::y231::y232::y233::y234::y235::y236::y237::y238::y239::y240::y241::y242::y243::y244::y245::y246::y247::y248::y249::y250::y251::y252::y253::y254::y255::y256::y257::y258::y259::y260::y261::y262::y263::y264::y265::y266::y267::y268::y269::y270::y271::y272::y273::y274::y275::y276::y277::y278::y279::y280::y281::y282::y283::y284::y285::y286::y287::y288::y289::y290::y291::y292::y293::y294::y295::y296::y297::y298::y299::y300::y301::y302::y303::y304::y305::y306::y307::y308::y309::y310::y311::y312::y313::y314::y315::y316::y317::y318::y319::y320::y321::y322::y323::y324::y325::y326::y327::y328::y329::y330::y331::y332::y333::y334::y335::y336::y337::y338::y339::y340::y341::y342::y343::y344::y345::[])) ds)/\s<=3/\t<=3/\(2<=s->b5=true)/\(3<=s->t=3)/\(2<=t->2<=s)/\(b5=true->x95 = .slice A5 ents.length c5)/\x90 = .pointer (some ⟨gS,oK,none⟩)/\x94 = .pointer (some ⟨gS,oK+3,none⟩)/\x99 = .slice Ae entry.length ce/\(b13=true->s=3/\x103 = .pointer (some ⟨gS,oK,none⟩))/\(b14=true->s=3/\x104 = .pointer (some ⟨gS,oK+3,none⟩)/\b13=true)/\JA z w.heap.size 22 1 ents.length 1 raw [x100] s x91 x96 x102/\JC z w.heap.size entry t s x97 x100 x101 x96/\Below w.heap.size w z)\/(∃ (x90 x91 x92 x93 x94 x95 x96 x97 x98 x99 x100 x101 x102 x103 x104:Value) (z0:World),l=#[true,true,true,true,true,true,true,true,true,true,true,true,true,true,true,true]/\a=(Act.mk (List.toArray (y0::y1::y2::(.pointer (some ⟨gD,0,none⟩))::y4::y5::y6::(.pointer (some ⟨gS,oK,none⟩))::y8::y9::y10::y11::y12::y13::y14::y15::y16::y17::y18::y19::y20::y21::y22::y23::y24::y25::y26::y27::y28::y29::y30::y31::y32::y33::y34::y35::y36::y37::y38::y39::y40::y41::y42::y43::y44::y45::y46::y47::y48::y49::y50::y51::y52::y53::y54::y55::y56::y57::y58::y59::y60::y61::y62::y63::y64::y65::y66::y67::y68::y69::y70::y71::y72::y73::y74::y75::y76::y77::y78::y79::y80::y81::y82::y83::y84::y85::y86::y87::y88::y89::x90::x91::x92::x93::x94::x95::x96::x97::x98::x99::x100::x101::x102::x103::x104::y105::y106::y107::y108::y109::y110::y111::y112::y113::y114::y115::y116::y117::y118::y119::y120::y121::y122::y123::y124::y125::y126::y127::y128::y129::y130::y131::y132::y133::y134::y135::y136::y137::y138::y139::y140::y141::y142::y143::y144::y145::y146::y147::y148::y149::y150::y151::y152::y153::y154::y155::y156::y157::y158::y159::y160::y161::y162::y163::y164::y165::y166::y167::y168::y169::y170::y171::y172::y173::y174::y175::y176::y177::y178::y179::y180::y181::y182::y183::y184::y185::y186::y187::y188::y189::y190::y191::y192::y193::y194::y195::y196::y197::y198::y199::y200::y201::y202::y203::y204::y205::y206::y207::y208::y209::y210::y211::y212::y213::y214::y215::y216::y217::y218::y219::y220::y221::y222::y223::y224::y225::y226::y227::y228::y229::y230::y231::y232::y233::y234::y235::y236::y237::y238::y239::y240::y241::y242::y243::y244::y245::y246::y247::y248::y249::y250::y251::y252::y253::y254::y255::y256::y257::y258::y259::y260::y261::y262::y263::y264::y265::y266::y267::y268::y269::y270::y271::y272::y273::y274::y275::y276::y277::y278::y279::y280::y281::y282::y283::y284::y285::y286::y287::y288::y289::y290::y291::y292::y293::y294::y295::y296::y297::y298::y299::y300::y301::y302::y303::y304::y305::y306::y307::y308::y309::y310::y311::y312::y313::y314::y315::y316::y317::y318::y319::y320::y321::y322::y323::y324::y325::y326::y327::y328::y329::y330::y331::y332::y333::y334::y335::y336::y337::y338::y339::y340::y341::y342::y343::y344::y345::[])) ds)/\z=z0.setCell ⟨gS,oK+3,none⟩ x102/\Own z0 w.heap.size 22 1 x102 (ents.length+1) (raw++[x100])/\Own z0 w.heap.size 5 1 x100 entry.length (entry.map bv)/\Below w.heap.size w z0)) (fun l a z hT=>?S_) (fun l a z i hT hi=>?step_) (fun l a z hT hall=>?end_) _ _ _ _ ?init_ (of_decide_eq_true (by kernel_rfl))
 case S_ =>
  rcases hT with ⟨s,t,b5,b13,b14,x90,x91,x92,x93,x94,x95,x96,x97,x98,x99,x100,x101,x102,x103,x104,rfl,rfl,hs3,ht3,hb5,h3t,h2s,h95,h90,h94,h99,h13,h14,jA,jC,hB⟩ | ⟨x90,x91,x92,x93,x94,x95,x96,x97,x98,x99,x100,x101,x102,x103,x104,z0,rfl,rfl,rfl,hown,hownx,hB⟩
  · exact HSS.out z (fun b hb _=>hB.block b hb)
  · exact HSS.out _ (fun b hb hn=>(Below.heap_setCell _ _ _ b hn).trans (hB.block b hb))
 case init_ =>
  exact .inl ⟨0,0,false,false,false,_,_,_,_,_,_,_,_,_,_,_,_,_,_,_,by kernel_rfl,rfl,by decide,by decide,(fun h=>absurd h (by decide)),(fun h=>absurd h (by decide)),(fun h=>absurd h (by decide)),(fun h=>absurd h (by decide)),rfl,rfl,rfl,(fun h=>absurd h (by decide)),(fun h=>absurd h (by decide)),⟨(fun h=>absurd h (by decide)),(fun h=>absurd h (by decide)),(fun h=>absurd h (by decide))⟩,⟨(fun h=>absurd h (by decide)),(fun h=>absurd h (by decide)),(fun h=>absurd h (by decide))⟩,(Below.refl _ _).drew⟩
 case end_ =>
  rcases hT with ⟨s,t,b5,b13,b14,x90,x91,x92,x93,x94,x95,x96,x97,x98,x99,x100,x101,x102,x103,x104,rfl,rfl,hs3,ht3,hb5,h3t,h2s,h95,h90,h94,h99,h13,h14,jA,jC,hB⟩ | ⟨x90,x91,x92,x93,x94,x95,x96,x97,x98,x99,x100,x101,x102,x103,x104,z0,rfl,rfl,rfl,hown,hownx,hB⟩
  · exact Bool.noConfusion (show false=true from hall 15 (by show 15<16;decide))
  · exact hend x90 x91 x92 x93 x94 x95 x96 x97 x98 x99 x100 x101 x102 x103 x104 raw z0 hrl hrr hown hownx hB
 case step_ =>
  have hi24:i<16:=(ready_lt hi).1
  rcases hT with ⟨s,t,b5,b13,b14,x90,x91,x92,x93,x94,x95,x96,x97,x98,x99,x100,x101,x102,x103,x104,rfl,rfl,hs3,ht3,hb5,h3t,h2s,h95,h90,h94,h99,h13,h14,jA,jC,hB⟩ | ⟨x90,x91,x92,x93,x94,x95,x96,x97,x98,x99,x100,x101,x102,x103,x104,z0,rfl,rfl,rfl,hown,hownx,hB⟩
  rotate_left
  · have hn:=(mem_ready.1 hi).1
    rcases (show i=0\/i=1\/i=2\/i=3\/i=4\/i=5\/i=6\/i=7\/i=8\/i=9\/i=10\/i=11\/i=12\/i=13\/i=14\/i=15 by omega) with rfl | rfl | rfl | rfl | rfl | rfl | rfl | rfl | rfl | rfl | rfl | rfl | rfl | rfl | rfl | rfl
    all_goals exact Bool.noConfusion (show true=false from hn)
  subst h90 h94 h99
  rcases (show i=0\/i=1\/i=2\/i=3\/i=4\/i=5\/i=6\/i=7\/i=8\/i=9\/i=10\/i=11\/i=12\/i=13\/i=14\/i=15 by omega) with rfl | rfl | rfl | rfl | rfl | rfl | rfl | rfl | rfl | rfl | rfl | rfl | rfl | rfl | rfl | rfl
  · skip
    exact Bool.noConfusion (show true=false from (mem_ready.1 hi).1)
  · skip
    have hf:=ready_flags hi rfl
    have hn:=hf.1
    obtain rfl:s=0:=by have h:decide (1<=s)=false:=hn;have:=of_decide_eq_false h;omega
    refine duty rfl rfl (fun K hK=>?_)
    go_simp
    exact hK _ _ (.inl ⟨1,t,b5,b13,b14,_,_,x92,x93,_,x95,x96,x97,x98,_,x100,x101,x102,x103,x104,rfl,rfl,by decide,ht3,(fun h=>absurd h (by decide)),(fun h=>absurd h (by decide)),(fun h=>absurd (h2s h) (by decide)),h95,rfl,rfl,rfl,(fun h=>absurd (h13 h).1 (by decide)),(fun h=>absurd (h14 h).1 (by decide)),⟨fun _=>own_emptyT z _ hB.size _ _,(fun h=>absurd h (by decide)),(fun h=>absurd h (by decide))⟩,⟨fun q=>(jC.1 q).alloc _,fun q=>(jC.2.1 q).alloc _,fun q _=>absurd (h2s (by omega)) (by decide)⟩,hB.alloc hB.size _⟩)
  · skip
    exact Bool.noConfusion (show true=false from (mem_ready.1 hi).1)
  · skip
    exact Bool.noConfusion (show true=false from (mem_ready.1 hi).1)
  · skip
    exact Bool.noConfusion (show true=false from (mem_ready.1 hi).1)
  · skip
    have hf:=ready_flags hi rfl
    have hn:=hf.1
    have c0z:z.cell? ⟨gS,oK+3,none⟩=some (.slice A5 ents.length c5):=(hB.cell (p:=⟨gS,oK+3,none⟩) lS).trans c3
    refine duty rfl rfl (fun K hK=>?_)
    go_simp
    exact hK _ _ (.inl ⟨s,t,true,b13,b14,_,x91,x92,x93,_,_,x96,x97,x98,_,x100,x101,x102,x103,x104,rfl,rfl,hs3,ht3,(fun _=>rfl),h3t,h2s,(fun _=>rfl),rfl,rfl,rfl,h13,h14,jA,jC,hB⟩)
  · skip
    have hf:=ready_flags hi rfl
    have hn:=hf.1
    have d1:=hf.2 _ (Array.mem_of_getElem? (i:=0) rfl) rfl
    have d5:=hf.2 _ (Array.mem_of_getElem? (i:=1) rfl) rfl
    obtain rfl:s=1:=by have h:decide (2<=s)=false:=hn;have:=of_decide_eq_false h;have h1:decide (1<=s)=true:=d1;have:=of_decide_eq_true h1;omega
    have hb:b5=true:=d5
    obtain rfl:=h95 hb
    have ht1:t<=1:=by rcases Nat.lt_or_ge t 2 with h | h;omega;exact absurd (h2s h) (by decide)
    refine duty rfl rfl (fun K hK=>?_)
    refine wp_append_Own z (.tmp 91) (.tmp 95) 40 (by rfl) w.heap.size 22 ib _ 1 24 Try.underlying40 hib hb0 hb1 hb2 (by rfl) (by omega) x91 0 [] (by rfl) (jA.1 rfl) F (.slice A5 ents.length c5) ents.length raw (by rfl) (SlAt.below hrs hB) hr1 (by simp [maxLen];omega) (by omega) hB.size ?_
    intro v2 z2 hown2 hgr2 hat2
    rw [Nat.zero_add,List.nil_append] at hown2
    exact hK _ _ (.inl ⟨2,t,b5,b13,b14,_,x91,x92,x93,_,_,v2,x97,x98,_,x100,x101,x102,x103,x104,rfl,rfl,by decide,ht3,(fun _=>hb),(fun h=>absurd h (by decide)),(fun _=>by decide),(fun _=>rfl),rfl,rfl,rfl,(fun h=>absurd (h13 h).1 (by decide)),(fun h=>absurd (h14 h).1 (by decide)),⟨(fun h=>absurd h (by decide)),fun _=>hown2,(fun h=>absurd h (by decide))⟩,⟨fun q=>Own.keep (jC.1 q) fun k hk hlt _=>hgr2.block k hlt (fun e=>Own.apart (jC.1 q) (jA.1 rfl) u8_bytes k hk e.symm),fun q=>absurd q (by omega),fun q _=>absurd q (by omega)⟩,hB.grown hgr2 hB.size (fun k hk=>(Own.lt (jA.1 rfl) k hk).1)⟩)
  · skip
    have hf:=ready_flags hi rfl
    have hn:=hf.1
    obtain rfl:t=0:=by have h:decide (1<=t)=false:=hn;have:=of_decide_eq_false h;omega
    have hs2:s<3:=by rcases Nat.lt_or_ge s 3 with h | h;exact h;exact absurd (h3t h) (by decide)
    refine duty rfl rfl (fun K hK=>?_)
    go_simp
    exact hK _ _ (.inl ⟨s,1,b5,b13,b14,_,x91,x92,x93,_,x95,x96,_,x98,_,x100,x101,x102,x103,x104,rfl,rfl,hs3,by decide,hb5,(fun h=>absurd h (by omega)),(fun h=>absurd h (by decide)),h95,rfl,rfl,rfl,h13,h14,jA.below (below_allocR z _),⟨fun _=>own_emptyT z _ hB.size _ _,(fun h=>absurd h (by decide)),(fun h=>absurd h (by decide))⟩,hB.alloc hB.size _⟩)
  · skip
    exact Bool.noConfusion (show true=false from (mem_ready.1 hi).1)
  · skip
    exact Bool.noConfusion (show true=false from (mem_ready.1 hi).1)
  · skip
    have hf:=ready_flags hi rfl
    have hn:=hf.1
    have d6:=hf.2 _ (Array.mem_of_getElem? (i:=2) rfl) rfl
    have d7:=hf.2 _ (Array.mem_of_getElem? (i:=0) rfl) rfl
    obtain rfl:t=1:=by have h:decide (2<=t)=false:=hn;have:=of_decide_eq_false h;have h7:decide (1<=t)=true:=d7;have:=of_decide_eq_true h7;omega
    obtain rfl:s=2:=by have h6:decide (2<=s)=true:=d6;have:=of_decide_eq_true h6;rcases Nat.lt_or_ge s 3 with h | h;omega;exact absurd (h3t h) (by decide)
    refine duty rfl rfl (fun K hK=>?_)
    refine wp_append_Own z (.tmp 97) (.tmp 99) 22 (by rfl) w.heap.size 5 iu _ 1 1 Try.underlying22 hiu hu0 hu1 hu2 (by rfl) (by omega) x97 0 [] (by rfl) (jC.1 rfl) F0 (.slice Ae entry.length ce) entry.length (entry.map bv) (by rfl) (SlAt.below he hB) (map_oneCell _) (by simp [maxLen];omega) (by omega) hB.size ?_
    intro v2 z2 hown2 hgr2 hat2
    rw [Nat.zero_add,List.nil_append] at hown2
    exact hK _ _ (.inl ⟨2,2,b5,b13,b14,_,x91,x92,x93,_,x95,x96,x97,x98,_,v2,x101,x102,x103,x104,rfl,rfl,by decide,by decide,hb5,(fun h=>absurd h (by decide)),(fun _=>by decide),h95,rfl,rfl,rfl,(fun h=>absurd (h13 h).1 (by decide)),(fun h=>absurd (h14 h).1 (by decide)),⟨(fun h=>absurd h (by decide)),fun q=>Own.keep (jA.2.1 q) fun k hk hlt _=>hgr2.block k hlt (fun e=>Own.apart (jA.2.1 q) (jC.1 rfl) u8_bytes.symm k hk e.symm),(fun h=>absurd h (by decide))⟩,⟨(fun h=>absurd h (by decide)),fun _=>hown2,fun q _=>absurd q (by decide)⟩,hB.grown hgr2 hB.size (fun k hk=>(Own.lt (jC.1 rfl) k hk).1)⟩)
  · skip
    have hf:=ready_flags hi rfl
    have hn:=hf.1
    have d10:=hf.2 _ (Array.mem_of_getElem? (i:=0) rfl) rfl
    obtain rfl:t=2:=by have h:decide (3<=t)=false:=hn;have:=of_decide_eq_false h;have h10:decide (2<=t)=true:=d10;have:=of_decide_eq_true h10;omega
    obtain rfl:s=2:=by have:=h2s (by decide);rcases Nat.lt_or_ge s 3 with h | h;omega;exact absurd (h3t h) (by decide)
    obtain ⟨A9,c9,h9,_,_⟩:=Own.shape (jC.2.1 (by decide))
    subst h9
    have hb5_:=hb5 (by decide)
    obtain rfl:=h95 hb5_
    refine duty rfl rfl (fun K hK=>?_)
    go_simp
    refine hK _ _ (.inl ⟨2,3,b5,b13,b14,_,x91,x92,x93,_,_,x96,x97,x98,_,_,_,x102,x103,x104,rfl,rfl,by decide,by decide,hb5,(fun h=>absurd h (by decide)),(fun _=>by decide),(fun _=>rfl),rfl,rfl,rfl,(fun h=>absurd (h13 h).1 (by decide)),(fun h=>absurd (h14 h).1 (by decide)),jA.below (below_allocR z _),⟨(fun h=>absurd h (by decide)),fun _=>(jC.2.1 (by decide)).alloc _,fun _ _=>⟨z.heap.size,rfl,hB.size,heap_alloc_new z _,fun h=>?_⟩⟩,hB.alloc hB.size _⟩)
    exact Nat.lt_irrefl _ (Own.lt (jA.2.1 rfl) _ h).2
  · skip
    have hf:=ready_flags hi rfl
    have hn:=hf.1
    have d6:=hf.2 _ (Array.mem_of_getElem? (i:=0) rfl) rfl
    have d11:=hf.2 _ (Array.mem_of_getElem? (i:=1) rfl) rfl
    obtain rfl:t=3:=by have h11:decide (3<=t)=true:=d11;have:=of_decide_eq_true h11;omega
    obtain rfl:s=2:=by have h:decide (3<=s)=false:=hn;have:=of_decide_eq_false h;have h6:decide (2<=s)=true:=d6;have:=of_decide_eq_true h6;omega
    obtain ⟨g,q1,q2,q3,q4⟩:=jC.2.2 rfl (by decide)
    subst q1
    have hx1:∀ u ∈ [x100],u.oneCell'=true:=fun u hu=>by rw [List.mem_singleton] at hu;rw [hu];exact bytes_one (OwnB.bytes (jC.2.1 (by decide)))
    refine duty rfl rfl (fun K hK=>?_)
    refine wp_append_Own z (.tmp 96) (.tmp 101) 40 (by rfl) w.heap.size 22 ib _ 1 24 Try.underlying40 hib hb0 hb1 hb2 (by rfl) (by omega) x96 ents.length raw (by rfl) (jA.2.1 rfl) (fun k=>k=g) (.slice (some ⟨g,0,none⟩) 1 1) 1 [x100] (by rfl) (blk_slatT q3 (by rfl) (by simp [maxLen])) hx1 (by simp [maxLen];omega) (by omega) hB.size ?_
    intro v2 z2 hown2 hgr2 hat2
    exact hK _ _ (.inl ⟨3,3,b5,b13,b14,_,x91,x92,x93,_,x95,x96,x97,x98,_,x100,_,v2,x103,x104,rfl,rfl,by decide,by decide,(fun _=>hb5 (by decide)),(fun _=>rfl),(fun _=>by decide),h95,rfl,rfl,rfl,(fun h=>absurd (h13 h).1 (by decide)),(fun h=>absurd (h14 h).1 (by decide)),⟨(fun h=>absurd h (by decide)),(fun h=>absurd h (by decide)),fun _=>hown2⟩,⟨(fun h=>absurd h (by decide)),fun _=>Own.keep (jC.2.1 (by decide)) fun k hk hlt _=>hgr2.block k hlt (fun e=>Own.apart (jC.2.1 (by decide)) (jA.2.1 rfl) u8_bytes k hk e.symm),fun _ h=>absurd h (by decide)⟩,hB.grown hgr2 hB.size (fun k hk=>(Own.lt (jA.2.1 rfl) k hk).1)⟩)
  · skip
    have hf:=ready_flags hi rfl
    have hn:=hf.1
    have d12:=hf.2 _ (Array.mem_of_getElem? (i:=13) rfl) rfl
    obtain rfl:s=3:=by have h:decide (3<=s)=true:=d12;have:=of_decide_eq_true h;omega
    have hb5_:=hb5 (by decide)
    obtain rfl:=h95 hb5_
    refine duty rfl rfl (fun K hK=>?_)
    go_simp
    exact hK _ _ (.inl ⟨3,t,b5,true,b14,_,x91,x92,x93,_,_,x96,x97,x98,_,x100,x101,x102,_,x104,rfl,rfl,hs3,ht3,hb5,h3t,h2s,(fun _=>rfl),rfl,rfl,rfl,(fun _=>⟨rfl,rfl⟩),(fun h=>⟨(h14 h).1,(h14 h).2.1,rfl⟩),jA,jC,hB⟩)
  · skip
    have hf:=ready_flags hi rfl
    have hn:=hf.1
    have d13:=hf.2 _ (Array.mem_of_getElem? (i:=0) rfl) rfl
    have hb:b13=true:=d13
    obtain ⟨hs,hx⟩:=h13 hb
    subst hs hx
    have hb5_:=hb5 (by decide)
    obtain rfl:=h95 hb5_
    refine duty rfl rfl (fun K hK=>?_)
    go_simp
    exact hK _ _ (.inl ⟨3,t,b5,b13,true,_,x91,x92,x93,_,_,x96,x97,x98,_,x100,x101,x102,_,_,rfl,rfl,hs3,ht3,hb5,h3t,h2s,(fun _=>rfl),rfl,rfl,rfl,(fun _=>⟨rfl,rfl⟩),(fun _=>⟨rfl,rfl,hb⟩),jA,jC,hB⟩)
  · skip
    have hf:=ready_flags hi rfl
    have hn:=hf.1
    have d14:=hf.2 _ (Array.mem_of_getElem? (i:=0) rfl) rfl
    have hb:b14=true:=d14
    obtain ⟨hs,hx,hb2⟩:=h14 hb
    obtain ⟨-,hx2⟩:=h13 hb2
    subst hx2
    subst hs
    have ht:=h3t (by decide)
    subst ht
    have hb5_:=hb5 (by decide)
    obtain rfl:=h95 hb5_
    subst hx hb hb2 hb5_
    obtain ⟨A9,c9,h9,_,_⟩:=Own.shape (jA.2.2 rfl)
    subst h9
    have c0z:z.cell? ⟨gS,oK+3,none⟩=some (.slice A5 ents.length c5):=(hB.cell (p:=⟨gS,oK+3,none⟩) lS).trans c3
    have f1z:z.frozen? ⟨gS,oK+3,none⟩=false:=(World.frozen?_of_block (hB.block gS lS)).trans f3
    refine duty rfl rfl (fun K hK=>?_)
    go_simp
    exact hK _ _ (.inr ⟨_,x91,x92,x93,_,_,x96,x97,x98,_,x100,x101,_,_,_,z,rfl,rfl,rfl,jA.2.2 rfl,jC.2.1 (by decide),hB⟩)
end Go.Proofs.Ytfdibjgmbdkbcaa
namespace Go.Proofs.Ytfdibjgmbdkbcaa
open Go.RowKit Go.Lib
set_option maxRecDepth 100000 in
set_option maxHeartbeats 8000000 in
theorem rstep_submit [Away] (w:World) (B gF gS:Nat) (f:Flt) (d:Dob) (Ae:Option Addr) (ce:Nat) (F0:Nat->Prop) (hF:RFlt w B gF gS gF f) (hBw:B<=w.heap.size) (he:Bytes w F0 (.slice Ae d.entry.length ce) d.entry) (h1:d.kind=1) (h200:¬ 200<d.entry.length) (hI:Fl.Inv f) :
 Calls Try.prog 113 #[.pointer (some ⟨gF,0,none⟩),.agg #[.int .i64 d.kind,.int .i64 d.n,.int .i64 d.time,.slice Ae d.entry.length ce,.int .i64 d.seg,.int .i64 d.pos,bv d.turn]] w (RStepP w B gF gS (Fl.step f d)):=by
 obtain ⟨W,hW⟩:∃ W,W=(w.alloc (.cells #[.int .i64 d.kind,.int .i64 d.n,.int .i64 d.time,.slice Ae d.entry.length ce,.int .i64 d.seg,.int .i64 d.pos,bv d.turn] 111)).alloc (.cells #[.int .i64 0,.int .i64 0,.int .i64 0,.int .i64 0,.slice none 0 0] 105):=⟨_,rfl⟩
 have hx0:Below w.heap.size w W:=by rw [hW];exact ((Below.refl _ _).alloc (Nat.le_refl _) _).alloc (by simp) _
 have hkD:Blk W w.heap.size 111 #[.int .i64 d.kind,.int .i64 d.n,.int .i64 d.time,.slice Ae d.entry.length ce,.int .i64 d.seg,.int .i64 d.pos,bv d.turn]:=by rw [hW];exact Blk.alloc (heap_alloc_new w _) _
 have hans:Blk W (w.heap.size+1) 105 #[.int .i64 0,.int .i64 0,.int .i64 0,.int .i64 0,.slice none 0 0]:=by
  rw [hW]
  have:=heap_alloc_new (w.alloc (.cells #[.int .i64 d.kind,.int .i64 d.n,.int .i64 d.time,.slice Ae d.entry.length ce,.int .i64 d.seg,.int .i64 d.pos,bv d.turn] 111)) (.cells #[.int .i64 0,.int .i64 0,.int .i64 0,.int .i64 0,.slice none 0 0] 105)
  rw [World.size_alloc] at this
  exact this
 have HW:=Lib.hid hW
 obtain ⟨SA,cS,vb,us,hP⟩:=hF
 have hPW:=(hP.third (ga:=w.heap.size+1) (Nat.le_succ _)).below hx0
 have hgF:gF<w.heap.size:=hP.2.2.2.1.lt
 have hgS:gS<w.heap.size:=hP.2.2.1
 have hansl:=hans.lt
 have hKW:KR w W B gF gS (w.heap.size+1):=KR.of_below hx0 hBw
 have heW:=SlAt.below he hx0
 obtain ⟨R,HR⟩:∃ R,Hid (R=Fl.step f d):=⟨_,Lib.hid rfl⟩
 rw [<-HR.out]
 clear hW he
 have HSU:Hid (R=Fl.submit f d):=Lib.hid (by rw [HR.out];unfold Fl.step;rw [if_pos h1])
 have hk:(d.kind==1)=true:=by rw [beq_iff_eq];exact h1
 have h2B:decide ((200:Int)<(d.entry.length:Int))=false:=decide_eq_false (by omega)
 have hlen8:=hI.len
 have HIN:=Lib.hid (fun (k:Nat) (s:Shd) (hs:f.sh[k]? = some s)=>(hI.sh k s hs).fine)
 have H200:=Lib.hid h200
 have h200':d.entry.length<=200:=by omega
 have hcl:f.sh.length<=cS:=by
  obtain ⟨_,_,_,_,_,h5,_⟩:=hPW
  obtain ⟨_,_,e,h,_⟩:=Own.shape h5
  injection e with _ _ e
  omega
 clear h1 h200 hI
 go_enter Try.func113,Try.ntmps113
 go_upto_region 1 with (fail)
 rw [<-HW.out]
 have d0:W.cell? ⟨w.heap.size,0,none⟩=some (.int .i64 d.kind):=hkD.cell 0
 have d3:W.cell? ⟨w.heap.size,3,none⟩=some (.slice Ae d.entry.length ce):=hkD.cell 3
 have g0_:W.cell? ⟨gF,0,none⟩=some (.slice SA f.sh.length cS):=hPW.2.2.2.1.cell 0
 go_wp2_with fail
 clear d0 d3 g0_
 go_loopg [32] f.sh.length (fun k i wr=>∃ j:Nat,j+k=f.sh.length/\i = .int .i64 (j:Int)/\Hid ((f.sh.take j).all (fun a=>!(Fl.inW d.time a))=true)/\Below W.heap.size W wr)
 case atStart=>exact ⟨0,by omega,rfl,Lib.hid (by simp),Below.refl _ _⟩
 case round =>
  obtain ⟨j,hj,rfl,HA,hx⟩:=hrel
  have hP21:=hPW.below hx
  have hK21:=hKW.trans (KR.of_below hx (Nat.le_trans hBw hKW.size))
  have han21:=hans.below hx hans.lt
  have hD21:=hkD.below hx hkD.lt
  have he21:=SlAt.below heW hx
  clear hPW hKW hans hkD heW
  by_cases hlt:j<f.sh.length
  · obtain ⟨s,hs⟩:∃ s,f.sh[j]? = some s:=⟨_,List.getElem?_eq_getElem hlt⟩
    have hsj:f.sh[j]=s:=(List.getElem?_eq_some_iff.1 hs).2
    have HFN:=Lib.hid (fun h:Fl.inW d.time s=false=>all_snoc (p:=Fl.inW d.time) HA.out hlt (by rw [hsj];exact h))
    have HFY:=Lib.hid (fun h:Fl.inW d.time s=true=>submit_at H200.out (findIdx_at (p:=Fl.inW d.time) HA.out hlt (by rw [hsj];exact h)) hs)
    clear hsj
    obtain ⟨oS,⟨ev,rv,sv⟩,hSA,hu,hnc,hcm,hkl,hne,-,hRS,-⟩:=hP21.row hs
    subst hSA
    obtain ⟨A5,c5,hev,hlc5,hcm5,_⟩:=hRS.1.shape
    obtain ⟨A6,c6,hrv⟩:=hRS.2.1.form
    obtain ⟨A7,c7,hsv,hlc7,hcm7⟩:=hRS.2.2.form
    simp only at hev hrv hsv
    subst hev hrv hsv
    have hkB:(j:Int)<(f.sh.length:Int):=by omega
    have hk0:(0:Int)<=(j:Int):=by omega
    unfold maxLen at hcm hcm5 hcm7
    clear hRS
    by_cases hfr:d.time<s.fr
    · have hfrB:decide (d.time<s.fr)=true:=decide_eq_true hfr
      have HN:=Lib.hid (HFN.out (inW_no (by omega)))
      clear hfr
      have d2:wr.cell? ⟨w.heap.size,2,none⟩=some (.int .i64 d.time):=hD21.cell 2
      have p0:wr.cell? ⟨gS,oS+j*7,none⟩=some (.int .i64 s.fr):=hP21.cellAt (i:=0) hs hu rfl
      have p1:wr.cell? ⟨gS,oS+j*7+1,none⟩=some (.int .i64 s.til):=hP21.cellAt (i:=1) hs hu rfl
      have g0_:wr.cell? ⟨gF,0,none⟩=some (.slice (some ⟨gS,oS,none⟩) f.sh.length cS):=hP21.2.2.2.1.cell 0
      go_wp2_with fail
      go_quiet (fail)
      go_wp2_with fail
      go_roundg (gk-1)
      case measure=>omega
      case rel=>exact ⟨j+1,by omega,by go_num,HN,below_drewN hx nq⟩
    have hfrB:decide (d.time<s.fr)=false:=decide_eq_false hfr
    by_cases htl:s.til<=d.time
    · have htlB:decide (s.til<=d.time)=true:=decide_eq_true htl
      have HN:=Lib.hid (HFN.out (inW_no (by omega)))
      clear hfr htl
      have d2:wr.cell? ⟨w.heap.size,2,none⟩=some (.int .i64 d.time):=hD21.cell 2
      have p0:wr.cell? ⟨gS,oS+j*7,none⟩=some (.int .i64 s.fr):=hP21.cellAt (i:=0) hs hu rfl
      have p1:wr.cell? ⟨gS,oS+j*7+1,none⟩=some (.int .i64 s.til):=hP21.cellAt (i:=1) hs hu rfl
      have g0_:wr.cell? ⟨gF,0,none⟩=some (.slice (some ⟨gS,oS,none⟩) f.sh.length cS):=hP21.2.2.2.1.cell 0
      go_wp2_with fail
      go_quiet (fail)
      go_wp2_with fail
      go_roundg (gk-1)
      case measure=>omega
      case rel=>exact ⟨j+1,by omega,by go_num,HN,below_drewN hx nq⟩
    have htlB:decide (s.til<=d.time)=false:=decide_eq_false htl
    have HSA:=Lib.hid (HSU.out.trans (HFY.out (inW_yes (by omega) (by omega))))
    clear hfr htl HFN HFY HA
    have d2:wr.cell? ⟨w.heap.size,2,none⟩=some (.int .i64 d.time):=hD21.cell 2
    have p0:wr.cell? ⟨gS,oS+j*7,none⟩=some (.int .i64 s.fr):=hP21.cellAt (i:=0) hs hu rfl
    have p1:wr.cell? ⟨gS,oS+j*7+1,none⟩=some (.int .i64 s.til):=hP21.cellAt (i:=1) hs hu rfl
    have g0_:wr.cell? ⟨gF,0,none⟩=some (.slice (some ⟨gS,oS,none⟩) f.sh.length cS):=hP21.2.2.2.1.cell 0
    go_wp2_with fail
    go_quiet (fail)
    have hq22:=below_drewN (Below.refl wr.heap.size wr) nq
    have hP23:=hP21.below hq22
    have hK23:=hK21.trans (KR.of_below hq22 (Nat.le_trans hBw hK21.size))
    have han23:=han21.below hq22 han21.lt
    have hD23:=hD21.below hq22 hD21.lt
    have he23:=SlAt.below he21 hq22
    clear hP21 hK21 han21 hD21 he21
    clear hq22
    generalize (wr.drewN nq)=v22 at *
    clear d2 p0 p1 g0_
    by_cases hst:s.st=1
    rotate_left
    · have hstB:(s.st != 1)=true:=by rw [bne_iff_ne];exact hst
      have HS:Hid (R=(f,Fl.no 8)):=Lib.hid (by rw [HSA.out,if_pos hst])
      clear hst
      have p2:v22.cell? ⟨gS,oS+j*7+2,none⟩=some (.int .i64 s.st):=hP23.cellAt (i:=2) hs hu rfl
      go_wp2_with fail
      clear p2
      refine (rno_any v22 8).mono ?_
      rintro e z1 ⟨rfl,hz1⟩
      have hP1:=hP23.below hz1
      have hK1:=hK23.trans (KR.of_below hz1 (Nat.le_trans hBw hK23.size))
      have han1:=han23.below hz1 han23.lt
      clear hP23 hK23 han23
      have y0_:=han1.cell 0
      have y1_:=han1.cell 1
      have y2_:=han1.cell 2
      have y3_:=han1.cell 3
      have y4_:=han1.cell 4
      have f0_:=han1.frozen 0
      have f1_:=han1.frozen 1
      have f2_:=han1.frozen 2
      have f3_:=han1.frozen 3
      have f4_:=han1.frozen 4
      go_wp2_with fail
      have hW_:set5 z1 (w.heap.size+1) (.int .i64 8) (.int .i64 0) (.int .i64 0) (.int .i64 0) (.slice none 0 0)=(((((z1.setCell ⟨w.heap.size+1,0,none⟩ (.int .i64 8)).setCell ⟨w.heap.size+1,1,none⟩ (.int .i64 0)).setCell ⟨w.heap.size+1,2,none⟩ (.int .i64 0)).setCell ⟨w.heap.size+1,3,none⟩ (.int .i64 0)).setCell ⟨w.heap.size+1,4,none⟩ (.slice none 0 0)):=rfl
      rw [<-hW_]
      have HDN:=rstep_done (r:=R) (rv:=.slice none 0 0) (Nat.le_succ _) hBw hgF hgS (by rw [HS.out];exact hP1) (by rw [HS.out];exact SlAt.nil_ _ _ _) hK1 han1
      rw [HS.out] at HDN ⊢
      obtain ⟨q0_,q1_,q2_,q3_,q4_,hend⟩:(set5 z1 (w.heap.size+1) (.int .i64 8) (.int .i64 0) (.int .i64 0) (.int .i64 0) (.slice none 0 0)).cell? ⟨w.heap.size+1,0,none⟩=some (.int .i64 8)/\(set5 z1 (w.heap.size+1) (.int .i64 8) (.int .i64 0) (.int .i64 0) (.int .i64 0) (.slice none 0 0)).cell? ⟨w.heap.size+1,1,none⟩=some (.int .i64 0)/\(set5 z1 (w.heap.size+1) (.int .i64 8) (.int .i64 0) (.int .i64 0) (.int .i64 0) (.slice none 0 0)).cell? ⟨w.heap.size+1,2,none⟩=some (.int .i64 0)/\(set5 z1 (w.heap.size+1) (.int .i64 8) (.int .i64 0) (.int .i64 0) (.int .i64 0) (.slice none 0 0)).cell? ⟨w.heap.size+1,3,none⟩=some (.int .i64 0)/\(set5 z1 (w.heap.size+1) (.int .i64 8) (.int .i64 0) (.int .i64 0) (.int .i64 0) (.slice none 0 0)).cell? ⟨w.heap.size+1,4,none⟩=some (.slice none 0 0)/\RStepP w B gF gS _ (.returned (.agg #[.int .i64 8,.int .i64 0,.int .i64 0,.int .i64 0,.slice none 0 0])) (set5 z1 (w.heap.size+1) (.int .i64 8) (.int .i64 0) (.int .i64 0) (.int .i64 0) (.slice none 0 0)):=HDN
      clear hW_
      generalize set5 z1 (w.heap.size+1) (.int .i64 8) (.int .i64 0) (.int .i64 0) (.int .i64 0) (.slice none 0 0)=W9 at *
      exact bodyPost_ret (v:=.agg #[.int .i64 8,.int .i64 0,.int .i64 0,.int .i64 0,.slice none 0 0]) (by simp [results,Try.results113,go_sem,q0_,q1_,q2_,q3_,q4_]) rfl hend
    have hstB:(s.st != 1)=false:=by rw [bne_eq_false_iff_eq];exact hst
    have HSB:Hid (R=match s.ents.findIdx? (·==d.entry) with
     | some i=>(f,⟨0,(j:Int),(i:Int),0,[]⟩)
     | none=>if s.ents.length=100 then (f,Fl.no 5) else (⟨f.sh.set j { s with ents:=s.ents++[d.entry] },f.book⟩,⟨0,(j:Int),(s.ents.length:Int),0,[]⟩)):=Lib.hid (by rw [HSA.out,if_neg (by omega)];rfl)
    obtain ⟨hl100,-⟩:=HIN.out j s hs
    have hl100:s.ents.length<=100:=hl100
    clear hst
    have p2:v22.cell? ⟨gS,oS+j*7+2,none⟩=some (.int .i64 s.st):=hP23.cellAt (i:=2) hs hu rfl
    have p3:v22.cell? ⟨gS,oS+j*7+3,none⟩=some (.slice A5 s.ents.length c5):=hP23.cellAt (i:=3) hs hu rfl
    go_wp2_with fail
    clear p2 p3
    generalize gk=gk0 at *
    have hel:=(hP23.rsh hs hu).1
    go_loopg [69] s.ents.length (fun k i wq=>∃ i0:Nat,i0+k=s.ents.length/\i = .int .i64 (i0:Int)/\Hid ((s.ents.take i0).all (fun a=>!(a==d.entry))=true)/\Below v22.heap.size v22 wq)
    case atStart=>exact ⟨0,by omega,rfl,Lib.hid (by simp),Below.refl _ _⟩
    case round =>
     obtain ⟨i,hi,rfl,HB,hy⟩:=hrel
     have hel0:=BList.below hel hy
     have hP24:=hP23.below hy
     have hK24:=hK23.trans (KR.of_below hy (Nat.le_trans hBw hK23.size))
     have han24:=han23.below hy han23.lt
     have hD24:=hD23.below hy hD23.lt
     have he24:=SlAt.below he23 hy
     clear hP23 hK23 han23 hD23 he23
     clear hel
     by_cases hit:i<s.ents.length
     · obtain ⟨b,off,u,hA1,pe,_,hb1,hue⟩:=BList.at_ hel0 hit
       subst hA1
       obtain ⟨Au,cu,hu2⟩:=hue.form
       subst hu2
       have hitB:(i:Int)<(s.ents.length:Int):=by omega
       have hi0:(0:Int)<=(i:Int):=by omega
       have HBY:=Lib.hid (fun h:(s.ents[i]==d.entry)=true=>findIdx_at (p:=(·==d.entry)) HB.out hit h)
       have HBN:=Lib.hid (fun h:(s.ents[i]==d.entry)=false=>all_snoc (p:=(·==d.entry)) HB.out hit h)
       have HSM:=Lib.hid (same_any wr _ _ _ _ s.ents[i] d.entry hue he24)
       generalize s.ents[i]=en at *
       clear HB
       have d3:wr.cell? ⟨w.heap.size,3,none⟩=some (.slice Ae d.entry.length ce):=hD24.cell 3
       cases heq:(en==d.entry) with
       | true =>
         rw [heq] at HSM
         have HS:Hid (R=(f,⟨0,(j:Int),(i:Int),0,[]⟩)):=Lib.hid (by rw [HSB.out,HBY.out heq])
         clear heq HBY HBN
         go_wp2_with fail
         with_reducible refine HSM.out.mono ?_
         rintro e w2 ⟨rfl,m2,rfl⟩
         have hq:=below_drewN (Below.refl wr.heap.size wr) m2
         clear d3 pe hel0 hue HSM
         have hP25:=hP24.below hq
         have hK25:=hK24.trans (KR.of_below hq (Nat.le_trans hBw hK24.size))
         have han25:=han24.below hq han24.lt
         have hD25:=hD24.below hq hD24.lt
         have he25:=SlAt.below he24 hq
         clear hP24 hK24 han24 hD24 he24
         clear hq
         generalize wr.drewN m2=v8 at *
         have y0_:=han25.cell 0
         have y1_:=han25.cell 1
         have y2_:=han25.cell 2
         have y3_:=han25.cell 3
         have y4_:=han25.cell 4
         have f0_:=han25.frozen 0
         have f1_:=han25.frozen 1
         have f2_:=han25.frozen 2
         have f3_:=han25.frozen 3
         have f4_:=han25.frozen 4
         go_wp2_with fail
         have hW_:set5 v8 (w.heap.size+1) (.int .i64 0) (.int .i64 (j:Int)) (.int .i64 (i:Int)) (.int .i64 0) (.slice none 0 0)=(((((v8.setCell ⟨w.heap.size+1,0,none⟩ (.int .i64 0)).setCell ⟨w.heap.size+1,1,none⟩ (.int .i64 (j:Int))).setCell ⟨w.heap.size+1,2,none⟩ (.int .i64 (i:Int))).setCell ⟨w.heap.size+1,3,none⟩ (.int .i64 0)).setCell ⟨w.heap.size+1,4,none⟩ (.slice none 0 0)):=rfl
         rw [<-hW_]
         have HDN:=rstep_done (r:=R) (rv:=.slice none 0 0) (Nat.le_succ _) hBw hgF hgS (by rw [HS.out];exact hP25) (by rw [HS.out];exact SlAt.nil_ _ _ _) hK25 han25
         rw [HS.out] at HDN ⊢
         obtain ⟨q0_,q1_,q2_,q3_,q4_,hend⟩:(set5 v8 (w.heap.size+1) (.int .i64 0) (.int .i64 (j:Int)) (.int .i64 (i:Int)) (.int .i64 0) (.slice none 0 0)).cell? ⟨w.heap.size+1,0,none⟩=some (.int .i64 0)/\(set5 v8 (w.heap.size+1) (.int .i64 0) (.int .i64 (j:Int)) (.int .i64 (i:Int)) (.int .i64 0) (.slice none 0 0)).cell? ⟨w.heap.size+1,1,none⟩=some (.int .i64 (j:Int))/\(set5 v8 (w.heap.size+1) (.int .i64 0) (.int .i64 (j:Int)) (.int .i64 (i:Int)) (.int .i64 0) (.slice none 0 0)).cell? ⟨w.heap.size+1,2,none⟩=some (.int .i64 (i:Int))/\(set5 v8 (w.heap.size+1) (.int .i64 0) (.int .i64 (j:Int)) (.int .i64 (i:Int)) (.int .i64 0) (.slice none 0 0)).cell? ⟨w.heap.size+1,3,none⟩=some (.int .i64 0)/\(set5 v8 (w.heap.size+1) (.int .i64 0) (.int .i64 (j:Int)) (.int .i64 (i:Int)) (.int .i64 0) (.slice none 0 0)).cell? ⟨w.heap.size+1,4,none⟩=some (.slice none 0 0)/\RStepP w B gF gS _ (.returned (.agg #[.int .i64 0,.int .i64 (j:Int),.int .i64 (i:Int),.int .i64 0,.slice none 0 0])) (set5 v8 (w.heap.size+1) (.int .i64 0) (.int .i64 (j:Int)) (.int .i64 (i:Int)) (.int .i64 0) (.slice none 0 0)):=HDN
         clear hW_
         generalize set5 v8 (w.heap.size+1) (.int .i64 0) (.int .i64 (j:Int)) (.int .i64 (i:Int)) (.int .i64 0) (.slice none 0 0)=W9 at *
         exact bodyPost_ret (v:=.agg #[.int .i64 0,.int .i64 (j:Int),.int .i64 (i:Int),.int .i64 0,.slice none 0 0]) (by simp [results,Try.results113,go_sem,q0_,q1_,q2_,q3_,q4_]) rfl hend
       | false =>
         rw [heq] at HSM
         have HN:=Lib.hid (HBN.out heq)
         clear heq HBY HBN
         go_wp2_with fail
         with_reducible refine HSM.out.mono ?_
         rintro e w2 ⟨rfl,m2,rfl⟩
         go_wp2_with fail
         go_roundg (gk-1)
         case measure=>omega
         case rel=>exact ⟨i+1,by omega,by go_num,HN,below_drewN hy m2⟩
     have hitB:decide ((i:Int)<(s.ents.length:Int))=false:=decide_eq_false (by omega)
     have HSC:Hid (R=if s.ents.length=100 then (f,Fl.no 5) else (⟨f.sh.set j { s with ents:=s.ents++[d.entry] },f.book⟩,⟨0,(j:Int),(s.ents.length:Int),0,[]⟩)):=Lib.hid (by
      have h:=HB.out
      rw [List.take_of_length_le (by omega)] at h
      rw [HSB.out,findIdx_no (p:=(·==d.entry)) h])
     clear HB HSB
     by_cases h100:s.ents.length=100
     · have hfB:decide ((100:Int)<=(s.ents.length:Int))=true:=decide_eq_true (by omega)
       have HS:Hid (R=(f,Fl.no 5)):=Lib.hid (by rw [HSC.out,if_pos h100])
       clear h100
       have p3:wr.cell? ⟨gS,oS+j*7+3,none⟩=some (.slice A5 s.ents.length c5):=hP24.cellAt (i:=3) hs hu rfl
       go_wp2_with fail
       clear p3
       refine (rno_any wr 5).mono ?_
       rintro e z1 ⟨rfl,hz1⟩
       have hP1:=hP24.below hz1
       have hK1:=hK24.trans (KR.of_below hz1 (Nat.le_trans hBw hK24.size))
       have han1:=han24.below hz1 han24.lt
       clear hP24 hK24 han24
       have y0_:=han1.cell 0
       have y1_:=han1.cell 1
       have y2_:=han1.cell 2
       have y3_:=han1.cell 3
       have y4_:=han1.cell 4
       have f0_:=han1.frozen 0
       have f1_:=han1.frozen 1
       have f2_:=han1.frozen 2
       have f3_:=han1.frozen 3
       have f4_:=han1.frozen 4
       go_wp2_with fail
       have hW_:set5 z1 (w.heap.size+1) (.int .i64 5) (.int .i64 0) (.int .i64 0) (.int .i64 0) (.slice none 0 0)=(((((z1.setCell ⟨w.heap.size+1,0,none⟩ (.int .i64 5)).setCell ⟨w.heap.size+1,1,none⟩ (.int .i64 0)).setCell ⟨w.heap.size+1,2,none⟩ (.int .i64 0)).setCell ⟨w.heap.size+1,3,none⟩ (.int .i64 0)).setCell ⟨w.heap.size+1,4,none⟩ (.slice none 0 0)):=rfl
       rw [<-hW_]
       have HDN:=rstep_done (r:=R) (rv:=.slice none 0 0) (Nat.le_succ _) hBw hgF hgS (by rw [HS.out];exact hP1) (by rw [HS.out];exact SlAt.nil_ _ _ _) hK1 han1
       rw [HS.out] at HDN ⊢
       obtain ⟨q0_,q1_,q2_,q3_,q4_,hend⟩:(set5 z1 (w.heap.size+1) (.int .i64 5) (.int .i64 0) (.int .i64 0) (.int .i64 0) (.slice none 0 0)).cell? ⟨w.heap.size+1,0,none⟩=some (.int .i64 5)/\(set5 z1 (w.heap.size+1) (.int .i64 5) (.int .i64 0) (.int .i64 0) (.int .i64 0) (.slice none 0 0)).cell? ⟨w.heap.size+1,1,none⟩=some (.int .i64 0)/\(set5 z1 (w.heap.size+1) (.int .i64 5) (.int .i64 0) (.int .i64 0) (.int .i64 0) (.slice none 0 0)).cell? ⟨w.heap.size+1,2,none⟩=some (.int .i64 0)/\(set5 z1 (w.heap.size+1) (.int .i64 5) (.int .i64 0) (.int .i64 0) (.int .i64 0) (.slice none 0 0)).cell? ⟨w.heap.size+1,3,none⟩=some (.int .i64 0)/\(set5 z1 (w.heap.size+1) (.int .i64 5) (.int .i64 0) (.int .i64 0) (.int .i64 0) (.slice none 0 0)).cell? ⟨w.heap.size+1,4,none⟩=some (.slice none 0 0)/\RStepP w B gF gS _ (.returned (.agg #[.int .i64 5,.int .i64 0,.int .i64 0,.int .i64 0,.slice none 0 0])) (set5 z1 (w.heap.size+1) (.int .i64 5) (.int .i64 0) (.int .i64 0) (.int .i64 0) (.slice none 0 0)):=HDN
       clear hW_
       generalize set5 z1 (w.heap.size+1) (.int .i64 5) (.int .i64 0) (.int .i64 0) (.int .i64 0) (.slice none 0 0)=W9 at *
       exact bodyPost_ret (v:=.agg #[.int .i64 5,.int .i64 0,.int .i64 0,.int .i64 0,.slice none 0 0]) (by simp [results,Try.results113,go_sem,q0_,q1_,q2_,q3_,q4_]) rfl hend
     have hfB:decide ((100:Int)<=(s.ents.length:Int))=false:=decide_eq_false (by omega)
     have HS:Hid (R=(⟨f.sh.set j { s with ents:=s.ents++[d.entry] },f.book⟩,⟨0,(j:Int),(s.ents.length:Int),0,[]⟩)):=Lib.hid (by rw [HSC.out,if_neg h100])
     clear h100
     have p3:wr.cell? ⟨gS,oS+j*7+3,none⟩=some (.slice A5 s.ents.length c5):=hP24.cellAt (i:=3) hs hu rfl
     have d3:wr.cell? ⟨w.heap.size,3,none⟩=some (.slice Ae d.entry.length ce):=hD24.cell 3
     have fz3:=hP24.frozenAt hs (oS+j*7+3)
     have hrl0:=(hP24.rsh hs hu).1
     have hanl:=han24.lt
     have hDl:=hD24.lt
     have hgS4:gS<wr.heap.size:=hP24.2.2.1
     go_wp2_with fail
     refine step_region20 _ wr _ _ _ _ _ _ _ _ _ _ _ _ _ _ _ _ _ _ _ _ _ _ _ _ _ _ _ _ _ _ _ _ _ _ _ _ _ _ _ _ _ _ _ _ _ _ _ _ _ _ _ _ _ _ _ _ _ _ _ _ _ _ _ _ _ _ _ _ _ _ _ _ _ _ _ _ _ _ _ _ _ _ _ _ _ _ _ _ _ _ _ _ _ _ _ _ _ _ _ _ _ _ _ _ _ _ _ _ _ _ _ _ _ _ _ _ _ _ _ _ _ _ _ _ _ _ _ _ _ _ _ _ _ _ _ _ _ _ _ _ _ _ _ _ _ _ _ _ _ _ _ _ _ _ _ _ _ _ _ _ _ _ _ _ _ _ _ _ _ _ _ _ _ _ _ _ _ _ _ _ _ _ _ _ _ _ _ _ _ _ _ _ _ _ _ _ _ _ _ _ _ _ _ _ _ _ _ _ _ _ _ _ _ _ _ _ _ _ _ _ _ _ _ _ _ _ _ _ _ _ _ _ _ _ _ _ _ _ _ _ _ _ _ _ _ _ _ _ _ _ _ _ _ _ _ _ _ _ _ _ _ _ _ _ _ _ _ _ _ _ _ _ _ _ _ _ _ _ _ _ _ _ _ _ _ _ _ _ _ _ _ _ _ _ _ _ _ _ _ _ _ _ _ _ _ _ _ _ _ _ _ _ _ _ _ _ _ _ _ _ _ _ _ _ _ _ _ _ _ _ _ _ _ _ _ _ _ _ _ _ _ _ _ _ _ _ w.heap.size gS (oS+j*7) A5 Ae c5 ce s.ents d.entry _ _ hrl0 hl100 he24 h200' p3 d3 hDl hgS4 fz3 (by omega) ?hQ ?_
     case hQ=>exact fun _ _ _ _ _ h=>h
     rintro x90 x91 x92 x93 x94 x95 x96 x97 x98 x99 x100 x101 x102 x103 x104 raw z6 hrl hrr hown hownx hz6
     clear p3 d3 fz3
     obtain ⟨A9,c9,h9,_,hc9⟩:=Own.shape hown
     subst h9
     have hbl:BList z6 (NF gF gS (w.heap.size+1)) (.slice A9 (s.ents.length+1) c9) (s.ents++[d.entry]):=BList.snoc_own hrl hrr hz6 hown hownx (fun _ h=>h) (fun b hb=>NF.new hP24 han24.lt hb)
     obtain ⟨hP7,hs7,hu7,hK7⟩:=(hP24.below hz6).cell (s':={ s with ents:=s.ents++[d.entry] }) (u':=⟨.slice A9 (s.ents.length+1) c9,.slice A6 s.man.root.length c6,.slice A7 s.man.segs.length c7⟩) (x:=(.slice A9 (s.ents.length+1) c9)) hs hu (i:=3) (by decide) rfl (by have h:=(hP24.rsh hs hu).below hz6;exact ⟨hbl,h.2.1,h.2.2⟩)
     have hK8:=(hK24.trans (KR.of_below hz6 (Nat.le_trans hBw hK24.size))).trans hK7
     have han8:Blk (z6.setCell ⟨gS,oS+j*7+3,none⟩ (.slice A9 (s.ents.length+1) c9)) (w.heap.size+1) 105 #[.int .i64 0,.int .i64 0,.int .i64 0,.int .i64 0,.slice none 0 0]:=(han24.below hz6 han24.lt).far (p:=⟨gS,oS+j*7+3,none⟩) (by show _≠gS;omega) _
     clear hown hownx hbl hrr hK7 hP24 hK24 han24 hD24 he24 hrl0 hel0 hz6
     generalize z6.setCell ⟨gS,oS+j*7+3,none⟩ (.slice A9 (s.ents.length+1) c9)=z8 at *
     have p3:z8.cell? ⟨gS,oS+j*7+3,none⟩=some (.slice A9 (s.ents.length+1) c9):=hP7.cellAt (i:=3) hs7 hu7 rfl
     have y0_:=han8.cell 0
     have y1_:=han8.cell 1
     have y2_:=han8.cell 2
     have y3_:=han8.cell 3
     have y4_:=han8.cell 4
     have f0_:=han8.frozen 0
     have f1_:=han8.frozen 1
     have f2_:=han8.frozen 2
     have f3_:=han8.frozen 3
     have f4_:=han8.frozen 4
     go_wp2_with fail
     have hW_:set5 z8 (w.heap.size+1) (.int .i64 0) (.int .i64 (j:Int)) (.int .i64 (s.ents.length:Int)) (.int .i64 0) (.slice none 0 0)=(((((z8.setCell ⟨w.heap.size+1,0,none⟩ (.int .i64 0)).setCell ⟨w.heap.size+1,1,none⟩ (.int .i64 (j:Int))).setCell ⟨w.heap.size+1,2,none⟩ (.int .i64 (s.ents.length:Int))).setCell ⟨w.heap.size+1,3,none⟩ (.int .i64 0)).setCell ⟨w.heap.size+1,4,none⟩ (.slice none 0 0)):=rfl
     rw [<-hW_]
     have HDN:=rstep_done (r:=R) (rv:=.slice none 0 0) (Nat.le_succ _) hBw hgF hgS (by rw [HS.out];exact hP7) (by rw [HS.out];exact SlAt.nil_ _ _ _) hK8 han8
     rw [HS.out] at HDN ⊢
     obtain ⟨q0_,q1_,q2_,q3_,q4_,hend⟩:(set5 z8 (w.heap.size+1) (.int .i64 0) (.int .i64 (j:Int)) (.int .i64 (s.ents.length:Int)) (.int .i64 0) (.slice none 0 0)).cell? ⟨w.heap.size+1,0,none⟩=some (.int .i64 0)/\(set5 z8 (w.heap.size+1) (.int .i64 0) (.int .i64 (j:Int)) (.int .i64 (s.ents.length:Int)) (.int .i64 0) (.slice none 0 0)).cell? ⟨w.heap.size+1,1,none⟩=some (.int .i64 (j:Int))/\(set5 z8 (w.heap.size+1) (.int .i64 0) (.int .i64 (j:Int)) (.int .i64 (s.ents.length:Int)) (.int .i64 0) (.slice none 0 0)).cell? ⟨w.heap.size+1,2,none⟩=some (.int .i64 (s.ents.length:Int))/\(set5 z8 (w.heap.size+1) (.int .i64 0) (.int .i64 (j:Int)) (.int .i64 (s.ents.length:Int)) (.int .i64 0) (.slice none 0 0)).cell? ⟨w.heap.size+1,3,none⟩=some (.int .i64 0)/\(set5 z8 (w.heap.size+1) (.int .i64 0) (.int .i64 (j:Int)) (.int .i64 (s.ents.length:Int)) (.int .i64 0) (.slice none 0 0)).cell? ⟨w.heap.size+1,4,none⟩=some (.slice none 0 0)/\RStepP w B gF gS _ (.returned (.agg #[.int .i64 0,.int .i64 (j:Int),.int .i64 (s.ents.length:Int),.int .i64 0,.slice none 0 0])) (set5 z8 (w.heap.size+1) (.int .i64 0) (.int .i64 (j:Int)) (.int .i64 (s.ents.length:Int)) (.int .i64 0) (.slice none 0 0)):=HDN
     clear hW_
     generalize set5 z8 (w.heap.size+1) (.int .i64 0) (.int .i64 (j:Int)) (.int .i64 (s.ents.length:Int)) (.int .i64 0) (.slice none 0 0)=W9 at *
     exact bodyPost_ret (v:=.agg #[.int .i64 0,.int .i64 (j:Int),.int .i64 (s.ents.length:Int),.int .i64 0,.slice none 0 0]) (by simp [results,Try.results113,go_sem,q0_,q1_,q2_,q3_,q4_]) rfl hend
  · have hltB:decide ((j:Int)<(f.sh.length:Int))=false:=decide_eq_false (by omega)
    have HS:Hid (R=(f,Fl.no 6)):=Lib.hid (by
     have h:=HA.out
     rw [List.take_of_length_le (by omega)] at h
     rw [HSU.out,submit_none H200.out (findIdx_no (p:=Fl.inW d.time) h)])
    clear hx
    go_wp2_with fail
    refine (rno_any wr 6).mono ?_
    rintro e z1 ⟨rfl,hz1⟩
    have hP1:=hP21.below hz1
    have hK1:=hK21.trans (KR.of_below hz1 (Nat.le_trans hBw hK21.size))
    have han1:=han21.below hz1 han21.lt
    clear hP21 hK21 han21
    have y0_:=han1.cell 0
    have y1_:=han1.cell 1
    have y2_:=han1.cell 2
    have y3_:=han1.cell 3
    have y4_:=han1.cell 4
    have f0_:=han1.frozen 0
    have f1_:=han1.frozen 1
    have f2_:=han1.frozen 2
    have f3_:=han1.frozen 3
    have f4_:=han1.frozen 4
    go_wp2_with fail
    have hW_:set5 z1 (w.heap.size+1) (.int .i64 6) (.int .i64 0) (.int .i64 0) (.int .i64 0) (.slice none 0 0)=(((((z1.setCell ⟨w.heap.size+1,0,none⟩ (.int .i64 6)).setCell ⟨w.heap.size+1,1,none⟩ (.int .i64 0)).setCell ⟨w.heap.size+1,2,none⟩ (.int .i64 0)).setCell ⟨w.heap.size+1,3,none⟩ (.int .i64 0)).setCell ⟨w.heap.size+1,4,none⟩ (.slice none 0 0)):=rfl
    rw [<-hW_]
    have HDN:=rstep_done (r:=R) (rv:=.slice none 0 0) (Nat.le_succ _) hBw hgF hgS (by rw [HS.out];exact hP1) (by rw [HS.out];exact SlAt.nil_ _ _ _) hK1 han1
    rw [HS.out] at HDN ⊢
    obtain ⟨q0_,q1_,q2_,q3_,q4_,hend⟩:(set5 z1 (w.heap.size+1) (.int .i64 6) (.int .i64 0) (.int .i64 0) (.int .i64 0) (.slice none 0 0)).cell? ⟨w.heap.size+1,0,none⟩=some (.int .i64 6)/\(set5 z1 (w.heap.size+1) (.int .i64 6) (.int .i64 0) (.int .i64 0) (.int .i64 0) (.slice none 0 0)).cell? ⟨w.heap.size+1,1,none⟩=some (.int .i64 0)/\(set5 z1 (w.heap.size+1) (.int .i64 6) (.int .i64 0) (.int .i64 0) (.int .i64 0) (.slice none 0 0)).cell? ⟨w.heap.size+1,2,none⟩=some (.int .i64 0)/\(set5 z1 (w.heap.size+1) (.int .i64 6) (.int .i64 0) (.int .i64 0) (.int .i64 0) (.slice none 0 0)).cell? ⟨w.heap.size+1,3,none⟩=some (.int .i64 0)/\(set5 z1 (w.heap.size+1) (.int .i64 6) (.int .i64 0) (.int .i64 0) (.int .i64 0) (.slice none 0 0)).cell? ⟨w.heap.size+1,4,none⟩=some (.slice none 0 0)/\RStepP w B gF gS _ (.returned (.agg #[.int .i64 6,.int .i64 0,.int .i64 0,.int .i64 0,.slice none 0 0])) (set5 z1 (w.heap.size+1) (.int .i64 6) (.int .i64 0) (.int .i64 0) (.int .i64 0) (.slice none 0 0)):=HDN
    clear hW_
    generalize set5 z1 (w.heap.size+1) (.int .i64 6) (.int .i64 0) (.int .i64 0) (.int .i64 0) (.slice none 0 0)=W9 at *
    exact bodyPost_ret (v:=.agg #[.int .i64 6,.int .i64 0,.int .i64 0,.int .i64 0,.slice none 0 0]) (by simp [results,Try.results113,go_sem,q0_,q1_,q2_,q3_,q4_]) rfl hend
end Go.Proofs.Ytfdibjgmbdkbcaa
