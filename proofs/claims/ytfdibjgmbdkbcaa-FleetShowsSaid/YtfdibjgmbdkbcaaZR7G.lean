/-
  A row more in the book: the region of yearref5.Step that draws its order. Conditions: what is read.
-/
import Derived.Test.YtfdibjgmbdkbcaaZSt
import Derived.Test.YtfdibjgmbdkbcaaZBD
import Derived.Test.YtfdibjgmbdkbcaaZGq
import Derived.Test.YtfdibjgmbdkbcaaZR7BC
namespace Go.Proofs.Ytfdibjgmbdkbcaa
open Go.RowKit Go.Lib
theorem RdL.raw {α:Type} [Rp α] {w:World} {F:Nat->Prop} {v:Value} {l:List α} (h:RdL w F v l) (hsz:0<Rp.sz α) (hone:∀ ecs (a:α),Rp.rd w F ecs a->∀ u ∈ ecs,u.oneCell'=true):∃ raw:List Value,raw.length=l.length*Rp.sz α/\(∀ u ∈ raw,u.oneCell'=true)/\SlAt w F (Rp.sz α) v l.length raw ∧
 ∀ (i:Nat) (a:α),l[i]? = some a->∃ ecs,Rp.rd w F ecs a/\∀ j u,ecs[j]? = some u->raw[i*Rp.sz α+j]? = some u:=by
 obtain ⟨A,c,hv,hlc,hcm⟩:=h.form
 by_cases hn:0<l.length
 · have key:∀ i (hi:i<l.length),∃ ecs:List Value,ecs.length=Rp.sz α/\Rp.rd w F ecs l[i]/\∃ b off,A=some ⟨b,off,none⟩/\F b/\b<w.heap.size/\∀ j u,ecs[j]? = some u->w.cell? ⟨b,off+i*Rp.sz α+j,none⟩=some u:=by
    intro i hi
    obtain ⟨b,off,c',hv',hF,hb,ecs,hr,hc⟩:=h.at_ hi
    rw [hv] at hv'
    injection hv' with e1 _ e3
    exact ⟨ecs,Rp.len hr,hr,b,off,e1,hF,hb,hc⟩
   obtain ⟨b,off,hA,hF,hb⟩:∃ b off,A=some ⟨b,off,none⟩/\F b/\b<w.heap.size:=by obtain ⟨_,_,_,b,off,h1,h2,h3,_⟩:=key 0 hn;exact ⟨b,off,h1,h2,h3⟩
   have key2:∀ t,t<l.length*Rp.sz α->∃ u,w.cell? ⟨b,off+t,none⟩=some u/\u.oneCell'=true:=by
    intro t ht
    have hti:t / Rp.sz α<l.length:=Nat.div_lt_of_lt_mul (by rw [Nat.mul_comm];exact ht)
    obtain ⟨ecs,h1,h2,b',off',hA',_,_,h3⟩:=key (t / Rp.sz α) hti
    rw [hA] at hA'
    injection hA' with hA'
    injection hA' with hb' ho'
    subst hb' ho'
    have hlt:t % Rp.sz α<ecs.length:=by rw [h1];exact Nat.mod_lt _ hsz
    refine ⟨ecs[t % Rp.sz α],?_,hone _ _ h2 _ (List.getElem_mem hlt)⟩
    have:=h3 (t % Rp.sz α) _ (List.getElem?_eq_getElem hlt)
    rwa [Nat.add_assoc,Nat.div_add_mod'] at this
   have hraw:∀ t,t<l.length*Rp.sz α->((List.range (l.length*Rp.sz α)).map fun t=>(w.cell? ⟨b,off+t,none⟩).getD undef)[t]? = w.cell? ⟨b,off+t,none⟩:=by
    intro t ht
    obtain ⟨u,hu,_⟩:=key2 t ht
    rw [List.getElem?_map,List.getElem?_range ht]
    simp only [Option.map_some,hu,Option.getD_some]
   refine ⟨(List.range (l.length*Rp.sz α)).map fun t=>(w.cell? ⟨b,off+t,none⟩).getD undef,by simp,?_,⟨A,c,hv,hlc,hcm,by simp,fun _=>⟨b,off,hA,hF,hb,?_⟩⟩,?_⟩
   · intro u hu
     obtain ⟨t,ht,rfl⟩:=List.mem_map.1 hu
     obtain ⟨u,hu,h1⟩:=key2 t (List.mem_range.1 ht)
     rw [hu]
     exact h1
   · intro j u hu
     have hj:j<l.length*Rp.sz α:=by
      rcases Nat.lt_or_ge j (l.length*Rp.sz α) with h | h
      · exact h
      · rw [List.getElem?_eq_none (by simpa using h)] at hu;cases hu
     rw [<-hraw j hj];exact hu
   · intro i a ha
     obtain ⟨hi,hia⟩:=List.getElem?_eq_some_iff.1 ha
     obtain ⟨ecs,h1,h2,b',off',hA',_,_,h4⟩:=key i hi
     rw [hA] at hA'
     injection hA' with hA'
     injection hA' with hb' ho'
     subst hb' ho'
     refine ⟨ecs,by rw [<-hia];exact h2,fun j u hu=>?_⟩
     have hj:j<Rp.sz α:=by
      rcases Nat.lt_or_ge j (Rp.sz α) with h | h
      · exact h
      · rw [List.getElem?_eq_none (by omega)] at hu;cases hu
     have hlt:i*Rp.sz α+j<l.length*Rp.sz α:=by
      have:(i+1)*Rp.sz α<=l.length*Rp.sz α:=Nat.mul_le_mul_right _ hi
      rw [Nat.add_mul] at this
      omega
     rw [hraw _ hlt,<-Nat.add_assoc]
     exact h4 j u hu
 · have hl:l=[]:=List.eq_nil_of_length_eq_zero (by omega)
   subst hl
   exact ⟨[],by simp,by simp,⟨A,c,hv,hlc,hcm,by simp,fun h=>absurd h (by simp)⟩,fun i d hd=>by simp at hd⟩
theorem rec_one {w:World} {F:Nat->Prop} (ecs:List Value) (r:Rec) (h:Rp.rd w F ecs r):∀ u ∈ ecs,u.oneCell'=true:=by
 obtain ⟨A,c,hcs,hr⟩:=rd_rec h
 subst hcs
 intro u hu
 simp only [List.mem_cons,List.not_mem_nil,or_false] at hu
 rcases hu with rfl | rfl | rfl | rfl | rfl<;>rfl
theorem own_emptyT (w:World) (B:Nat) (hB:B<=w.heap.size) (e:TypeId) (size:Nat):Own (w.alloc (.cells #[] e)) B e size (.slice (some ⟨w.heap.size,0,none⟩) 0 0) 0 [] :=
 ⟨by simp,.inr ⟨w.heap.size,0,0,#[],rfl,hB,heap_alloc_new w _,Nat.le_refl _,by simp [maxLen],by simp,by simp⟩⟩
theorem blk_slatT {w:World} {g n size:Nat} {e:TypeId} {rx:List Value} (h:Blk w g e rx.toArray) (hl:rx.length=n*size) (hn:n<=maxLen):SlAt w (fun k=>k=g) size (.slice (some ⟨g,0,none⟩) n n) n rx :=
 ⟨_,n,rfl,Nat.le_refl _,hn,hl,fun _=>⟨g,0,rfl,rfl,h.lt,fun j u hu=>by rw [cell_of_row w g _ rx.toArray _ (0,0) h,Nat.zero_add,List.getElem?_toArray];exact hu⟩⟩
section
variable {w w':World} {B n s:Nat} {b:Bool} {raw rx:List Value} {x1 x2 x3 y:Value} {e:TypeId} {size m:Nat}
def JA (w:World) (B:Nat) (e:TypeId) (size n m:Nat) (raw rx:List Value) (s:Nat) (x1 x2 x3:Value):Prop :=
 (s=1->Own w B e size x1 0 [])/\(s=2->Own w B e size x2 n raw)/\(s=3->Own w B e size x3 (n+m) (raw++rx))
theorem JA.below (h:JA w B e size n m raw rx s x1 x2 x3) (hb:Below w.heap.size w w'):JA w' B e size n m raw rx s x1 x2 x3:=⟨fun q=>(h.1 q).below hb,fun q=>(h.2.1 q).below hb,fun q=>(h.2.2 q).below hb⟩
def JB (w:World) (B:Nat) (e:TypeId) (m:Nat) (rx:List Value) (b:Bool) (s:Nat) (x1 x2 y:Value):Prop :=
 b=true->s<3->∃ g,y = .slice (some ⟨g,0,none⟩) m m/\B<=g/\Blk w g e rx.toArray/\(s=1->x1.ownBlock≠some g)/\(s=2->x2.ownBlock≠some g)
theorem JB.below (h:JB w B e m rx b s x1 x2 y) (hb:Below w.heap.size w w'):JB w' B e m rx b s x1 x2 y:=fun e1 e2=>by
 obtain ⟨g,h1,h2,h3,h4,h5⟩:=h e1 e2
 exact ⟨g,h1,h2,h3.below hb h3.lt,h4,h5⟩
end
theorem below_allocR (w:World) (o:Obj):Below w.heap.size w (w.alloc o):=(Below.refl _ _).alloc (Nat.le_refl _) o
set_option maxRecDepth 100000 in
set_option maxHeartbeats 16000000 in
theorem step_region36 (Q:Exit->Act->World->Prop) (w:World) (ps:String) (y1 y2 y4 y5 y6 y7 y8 y9 y11 y13 y14 y15 y16 y17 y18 y19 y20 y21 y22 y23 y24 y25 y26 y27 y28 y29 y30 y31 y32 y33 y34 y35 y36 y37 y38 y39 y40 y41 y42 y43 y44 y45 y46 y47 y48 y49 y50 y51 y52 y53 y54 y55 y56 y57 y58 y59 y60 y61 y62 y63 y64 y65 y66 y67 y68 y69 y70 y71 y72 y73 y74 y75 y76 y77 y78 y79 y80 y81 y82 y83 y84 y85 y86 y87 y88 y89 y90 y91 y92 y93 y94 y95 y96 y97 y98 y99 y100 y101 y102 y103 y104 y105 y106 y107 y108 y109 y110 y111 y112 y113 y114 y115 y116 y117 y118 y119 y120 y121 y122 y123 y124 y125 y126 y127 y128 y129 y130 y131 y132 y133 y134 y135 y136 y137 y138 y139 y140 y141 y142 y143 y144 y145 y146 y147 y148 y149 y150 y151 y152 y153 y154 y155 y156 y157 y158 y159 y160 y161 y162 y163 y164 y165 y166 y167 y168 y169 y170 y171 y172 y173 y174 y175 y176 y177 y178 y179 y180 y181 y182 y183 y184 y185 y186 y187 y188 y189 y190 y191 y192 y193 y194 y195 y196 y197 y198 y199 y200 y201 y202 y203 y204 y205 y206 y207 y208 y209 y210 y211 y212 y213 y214 y215 y216 y217 y218 y219 y220 y221 y222 y223 y224 y225 y226 y227 y228 y229 y230 y231 y232 y233 y234 y235 y236 y237 y238 y239 y240 y241 y242 y243 y244 y245 y246 y247 y248 y249 y250 y251 y252 y253 y254 y255 y256 y257 y258 y259 y260 y261 y262 y263 y264 y265 y266 y267 y268 y269 y270 y271 y272 y273 y274 y275 y276 y277 y278 y279 y280 y281 y282 y283 y284 y285 y286 y287 y288 y289 y290 y291 y292 y293 y294 y295 y296 y297 y298 y299 y300 y301 y302 y303 y304 y305 y306 y307 y308 y309 y310 y311 y312 y313 y314 y315 y316 y317 y318 y319 y320 y321 y322 y323 y324 y325 y326 y327 y328 y329 y330 y331 y332 y333 y334 y335 y336 y337 y338 y339 y340 y341 y342 y343 y344 y345:Value) (ds:List Deferred) (gF gD gS oK gH k len rl:Nat) (fr til:Int) (AH Ab:Option Addr) (cH cb:Nat) (book:List Rec) (F:Nat->Prop)
 (hb:RdL w F (.slice Ab book.length cb) book) (h8:book.length<=8) (c0:w.cell? ⟨gF,1,none⟩=some (.slice Ab book.length cb)) (c1:w.cell? ⟨gD,1,none⟩=some (.int .i64 (k:Int))) (c2:w.cell? ⟨gS,oK,none⟩=some (.int .i64 fr)) (c3:w.cell? ⟨gS,oK+1,none⟩=some (.int .i64 til))
 (c4:w.cell? ⟨gH,0,none⟩=some (.int .i64 (len:Int))) (c5:w.cell? ⟨gH,1,none⟩=some (.slice AH rl cH)) (lF:gF<w.heap.size) (lD:gD<w.heap.size) (lS:gS<w.heap.size) (lH:gH<w.heap.size) (f1:w.frozen? ⟨gF,1,none⟩=false) (nD:gD≠gF) (nS:gS≠gF) (nH:gH≠gF)
 (hQ:∀ (c:List PanicEntry) (a:Act) (d:Tmp) (v:Value) (z:World),Q (.panic c) (a.put (some d) v) z->Q (.panic c) a z)
 (hend:∀ (x179 x180 x181 x182 x183 x184 x185 x186 x187 x188 x189 x190 x191 x192 x193 x194 x195 x196 x197 x198 x199 x200 x201:Value) (raw:List Value) (z:World),raw.length=book.length*5->(∀ (i:Nat) (a:Rec),book[i]? = some a->∃ ecs,Rp.rd w F ecs a/\∀ j u,ecs[j]? = some u->raw[i*5+j]? = some u)->Own z w.heap.size 61 5 x199 (book.length+1) (raw++[.int .i64 (k:Int),.int .i64 fr,.int .i64 til,.int .i64 (len:Int),.slice AH rl cH])->Below w.heap.size w z->Q .normal (Act.mk (List.toArray ((.pointer (some ⟨gF,0,none⟩))::y1::y2::(.pointer (some ⟨gD,0,none⟩))::y4::y5::y6::y7::y8::y9::(.pointer (some ⟨gS,oK,none⟩))::y11::(.pointer (some ⟨gH,0,none⟩))::y13::y14::y15::y16::y17::y18::y19::y20::y21::y22::y23::y24::y25::y26::y27::y28::y29::y30::y31::y32::y33::y34::y35::y36::y37::y38::y39::y40::y41::y42::y43::y44::y45::y46::y47::y48::y49::y50::y51::y52::y53::y54::y55::y56::y57::y58::y59::y60::y61::y62::y63::y64::y65::y66::y67::y68::y69::y70::y71::y72::y73::y74::y75::y76::y77::y78::y79::y80::y81::y82::y83::y84::y85::y86::y87::y88::y89::y90::y91::y92::y93::y94::y95::y96::y97::y98::y99::y100::y101::y102::y103::y104::y105::y106::y107::y108::y109::y110::y111::y112::y113::y114::y115::y116::y117::y118::y119::y120::y121::y122::y123::y124::y125::y126::y127::y128::y129::y130::y131::y132::y133::y134::y135::y136::y137::y138::y139::y140::y141::y142::y143::y144::y145::y146::y147::y148::y149::y150::y151::y152::y153::y154::y155::y156::y157::y158::y159::y160::y161::y162::y163::y164::y165::y166::y167::y168::y169::y170::y171::y172::y173::y174::y175::y176::y177::y178::x179::x180::x181::x182::x183::x184::x185::x186::x187::x188::x189::x190::x191::x192::x193::x194::x195::x196::x197::x198::x199::x200::x201::y202::y203::y204::y205::y206::y207::y208::y209::y210::y211::y212::y213::y214::y215::y216::y217::y218::y219::y220::y221::y222::y223::y224::y225::y226::y227::y228::y229::y230::y231::y232::y233::y234::y235::y236::y237::y238::y239::y240::y241::y242::y243::y244::y245::y246::y247::y248::y249::y250::y251::y252::y253::y254::y255::y256::y257::y258::y259::y260::y261::y262::y263::y264::y265::y266::y267::y268::y269::y270::y271::y272::y273::y274::y275::y276::y277::y278::y279::y280::y281::y282::y283::y284::y285::y286::y287::y288::y289::y290::y291::y292::y293::y294::y295::y296::y297::y298::y299::y300::y301::y302::y303::y304::y305::y306::y307::y308::y309::y310::y311::y312::y313::y314::y315::y316::y317::y318::y319::y320::y321::y322::y323::y324::y325::y326::y327::y328::y329::y330::y331::y332::y333::y334::y335::y336::y337::y338::y339::y340::y341::y342::y343::y344::y345::[])) ds) (z.setCell ⟨gF,1,none⟩ x199)) :
 Code.wp Try.prog (Code.region 36 #[{ dst:=some 179,op:=Op.move (Operand.tmp 0),type:=158,pos:=ps,after:=#[],guard:=none },{ dst:=some 180,op:=Op.buildSlice 62 0 #[],type:=62,pos:=ps,after:=#[],guard:=none },{ dst:=some 181,op:=Op.move (Operand.tmp 0),type:=158,pos:=ps,after:=#[],guard:=none },{ dst:=some 182,op:=Op.nilCheck (Operand.tmp 181),type:=0,pos:=ps,after:=#[{ on:=2,ground:=Ground.data }],guard:=none },{ dst:=some 183,op:=Op.fieldAddr 92 (Operand.tmp 182) 1,type:=0,pos:=ps,after:=#[{ on:=3,ground:=Ground.data }],guard:=none },{ dst:=some 184,op:=Op.load 62 (Operand.tmp 183),type:=62,pos:=ps,after:=#[{ on:=4,ground:=Ground.data }],guard:=none },{ dst:=some 185,op:=Op.call { callee:=Callee.builtin Builtin.append,args:=#[Operand.tmp 180,Operand.tmp 184],argTypes:=#[62,62] },type:=62,pos:=ps,after:=#[{ on:=1,ground:=Ground.data },{ on:=5,ground:=Ground.data }],guard:=none },{ dst:=some 186,op:=Op.fieldAddr 111 (Operand.tmp 3) 1,type:=0,pos:=ps,after:=#[],guard:=none },{ dst:=some 187,op:=Op.load 3 (Operand.tmp 186),type:=3,pos:=ps,after:=#[{ on:=7,ground:=Ground.data }],guard:=none },{ dst:=some 188,op:=Op.move (Operand.tmp 10),type:=162,pos:=ps,after:=#[],guard:=none },{ dst:=some 189,op:=Op.nilCheck (Operand.tmp 188),type:=0,pos:=ps,after:=#[{ on:=9,ground:=Ground.data }],guard:=none },{ dst:=some 190,op:=Op.fieldAddr 156 (Operand.tmp 189) 0,type:=0,pos:=ps,after:=#[{ on:=10,ground:=Ground.data }],guard:=none },{ dst:=some 191,op:=Op.load 3 (Operand.tmp 190),type:=3,pos:=ps,after:=#[{ on:=11,ground:=Ground.data }],guard:=none },{ dst:=some 192,op:=Op.move (Operand.tmp 10),type:=162,pos:=ps,after:=#[],guard:=none },{ dst:=some 193,op:=Op.nilCheck (Operand.tmp 192),type:=0,pos:=ps,after:=#[{ on:=13,ground:=Ground.data }],guard:=none },{ dst:=some 194,op:=Op.fieldAddr 156 (Operand.tmp 193) 1,type:=0,pos:=ps,after:=#[{ on:=14,ground:=Ground.data }],guard:=none },{ dst:=some 195,op:=Op.load 3 (Operand.tmp 194),type:=3,pos:=ps,after:=#[{ on:=15,ground:=Ground.data }],guard:=none },{ dst:=some 196,op:=Op.load 39 (Operand.tmp 12),type:=39,pos:=ps,after:=#[],guard:=none },{ dst:=some 197,op:=Op.build 61 #[(0,Operand.tmp 187),(1,Operand.tmp 191),(2,Operand.tmp 195),(3,Operand.tmp 196)],type:=61,pos:=ps,after:=#[{ on:=8,ground:=Ground.data },{ on:=12,ground:=Ground.data },{ on:=16,ground:=Ground.data },{ on:=17,ground:=Ground.data }],guard:=none },{ dst:=some 198,op:=Op.buildSlice 62 1 #[(0,Operand.tmp 197)],type:=62,pos:=ps,after:=#[{ on:=18,ground:=Ground.data }],guard:=none },{ dst:=some 199,op:=Op.call { callee:=Callee.builtin Builtin.append,args:=#[Operand.tmp 185,Operand.tmp 198],argTypes:=#[62,62] },type:=62,pos:=ps,after:=#[{ on:=6,ground:=Ground.data },{ on:=19,ground:=Ground.data },{ on:=6,ground:=Ground.chain }],guard:=none },{ dst:=some 200,op:=Op.nilCheck (Operand.tmp 179),type:=0,pos:=ps,after:=#[{ on:=0,ground:=Ground.data },{ on:=0,ground:=Ground.phase },{ on:=1,ground:=Ground.phase },{ on:=2,ground:=Ground.phase },{ on:=3,ground:=Ground.phase },{ on:=4,ground:=Ground.phase },{ on:=5,ground:=Ground.phase },{ on:=6,ground:=Ground.phase },{ on:=7,ground:=Ground.phase },{ on:=8,ground:=Ground.phase },{ on:=9,ground:=Ground.phase },{ on:=10,ground:=Ground.phase },{ on:=11,ground:=Ground.phase },{ on:=12,ground:=Ground.phase },{ on:=13,ground:=Ground.phase },{ on:=14,ground:=Ground.phase },{ on:=15,ground:=Ground.phase },{ on:=16,ground:=Ground.phase },{ on:=17,ground:=Ground.phase },{ on:=18,ground:=Ground.phase },{ on:=19,ground:=Ground.phase },{ on:=20,ground:=Ground.phase }],guard:=none },{ dst:=some 201,op:=Op.fieldAddr 92 (Operand.tmp 200) 1,type:=0,pos:=ps,after:=#[{ on:=21,ground:=Ground.data },{ on:=0,ground:=Ground.phase },{ on:=1,ground:=Ground.phase },{ on:=2,ground:=Ground.phase },{ on:=3,ground:=Ground.phase },{ on:=4,ground:=Ground.phase },{ on:=5,ground:=Ground.phase },{ on:=6,ground:=Ground.phase },{ on:=7,ground:=Ground.phase },{ on:=8,ground:=Ground.phase },{ on:=9,ground:=Ground.phase },{ on:=10,ground:=Ground.phase },{ on:=11,ground:=Ground.phase },{ on:=12,ground:=Ground.phase },{ on:=13,ground:=Ground.phase },{ on:=14,ground:=Ground.phase },{ on:=15,ground:=Ground.phase },{ on:=16,ground:=Ground.phase },{ on:=17,ground:=Ground.phase },{ on:=18,ground:=Ground.phase },{ on:=19,ground:=Ground.phase },{ on:=20,ground:=Ground.phase }],guard:=none },{ dst:=none,op:=Op.store 62 (Operand.tmp 201) (Operand.tmp 199),type:=0,pos:=ps,after:=#[{ on:=22,ground:=Ground.data },{ on:=20,ground:=Ground.data },{ on:=20,ground:=Ground.chain },{ on:=0,ground:=Ground.phase },{ on:=1,ground:=Ground.phase },{ on:=2,ground:=Ground.phase },{ on:=3,ground:=Ground.phase },{ on:=4,ground:=Ground.phase },{ on:=5,ground:=Ground.phase },{ on:=6,ground:=Ground.phase },{ on:=7,ground:=Ground.phase },{ on:=8,ground:=Ground.phase },{ on:=9,ground:=Ground.phase },{ on:=10,ground:=Ground.phase },{ on:=11,ground:=Ground.phase },{ on:=12,ground:=Ground.phase },{ on:=13,ground:=Ground.phase },{ on:=14,ground:=Ground.phase },{ on:=15,ground:=Ground.phase },{ on:=16,ground:=Ground.phase },{ on:=17,ground:=Ground.phase },{ on:=18,ground:=Ground.phase },{ on:=19,ground:=Ground.phase },{ on:=20,ground:=Ground.phase }],guard:=none }] true) Q (Act.mk (List.toArray ((.pointer (some ⟨gF,0,none⟩))::y1::y2::(.pointer (some ⟨gD,0,none⟩))::y4::y5::y6::y7::y8::y9::(.pointer (some ⟨gS,oK,none⟩))::y11::(.pointer (some ⟨gH,0,none⟩))::y13::y14::y15::y16::y17::y18::y19::y20::y21::y22::y23::y24::y25::y26::y27::y28::y29::y30::y31::y32::y33::y34::y35::y36::y37::y38::y39::y40::y41::y42::y43::y44::y45::y46::y47::y48::y49::y50::y51::y52::y53::y54::y55::y56::y57::y58::y59::y60::y61::y62::y63::y64::y65::y66::y67::y68::y69::y70::y71::y72::y73::y74::y75::y76::y77::y78::y79::y80::y81::y82::y83::y84::y85::y86::y87::y88::y89::y90::y91::y92::y93::y94::y95::y96::y97::y98::y99::y100::y101::y102::y103::y104::y105::y106::y107::y108::y109::y110::y111::y112::y113::y114::y115::y116::y117::y118::y119::y120::y121::y122::y123::y124::y125::y126::y127::y128::y129::y130::y131::y132::y133::y134::y135::y136::y137::y138::y139::y140::y141::y142::y143::y144::y145::y146::y147::y148::y149::y150::y151::y152::y153::y154::y155::y156::y157::y158::y159::y160::y161::y162::y163::y164::y165::y166::y167::y168::y169::y170::y171::y172::y173::y174::y175::y176::y177::y178::y179::y180::y181::y182::y183::y184::y185::y186::y187::y188::y189::y190::y191::y192::y193::y194::y195::y196::y197::y198::y199::y200::y201::y202::y203::y204::y205::y206::y207::y208::y209::y210::y211::y212::y213::y214::y215::y216::y217::y218::y219::y220::y221::y222::y223::y224::y225::y226::y227::y228::y229::y230::y231::y232::y233::y234::y235::y236::y237::y238::y239::y240::y241::y242::y243::y244::y245::y246::y247::y248::y249::y250::y251::y252::y253::y254::y255::y256::y257::y258::y259::y260::y261::y262::y263::y264::y265::y266::y267::y268::y269::y270::y271::y272::y273::y274::y275::y276::y277::y278::y279::y280::y281::y282::y283::y284::y285::y286::y287::y288::y289::y290::y291::y292::y293::y294::y295::y296::y297::y298::y299::y300::y301::y302::y303::y304::y305::y306::y307::y308::y309::y310::y311::y312::y313::y314::y315::y316::y317::y318::y319::y320::y321::y322::y323::y324::y325::y326::y327::y328::y329::y330::y331::y332::y333::y334::y335::y336::y337::y338::y339::y340::y341::y342::y343::y344::y345::[])) ds) w:=by
 obtain ⟨raw,hrl,hr1,hrs,hrr⟩:=hb.raw (by decide) rec_one
 obtain ⟨rx,hrx⟩:∃ r:List Value,r=[.int .i64 (k:Int),.int .i64 fr,.int .i64 til,.int .i64 (len:Int),.slice AH rl cH]:=⟨_,rfl⟩
 have hrxl:rx.length=5:=by rw [hrx];rfl
 have hrx1:∀ u ∈ rx,u.oneCell'=true:=by
  rw [hrx]
  intro u hu
  simp only [List.mem_cons,List.not_mem_nil,or_false] at hu
  rcases hu with rfl | rfl | rfl | rfl | rfl<;>rfl
 obtain ⟨i0,hi0,hz0,hz1,hz2⟩:=info_parts info_rec
 have HRX:=Lib.hid hrx
 clear hrx
 have hSS:∀ z:World,(∀ b,b<w.heap.size->b≠gF->z.heap[b]? = w.heap[b]?)->(z.cell? ⟨gD,1,none⟩=some (.int .i64 (k:Int))/\z.cell? ⟨gS,oK,none⟩=some (.int .i64 fr)/\z.cell? ⟨gS,oK+1,none⟩=some (.int .i64 til)/\z.cell? ⟨gH,0,none⟩=some (.int .i64 (len:Int))/\z.cell? ⟨gH,1,none⟩=some (.slice AH rl cH)):=fun z hz =>
  ⟨(World.cell?_of_block (hz _ lD nD)).trans c1,(World.cell?_of_block (hz _ lS nS)).trans c2,(World.cell?_of_block (hz _ lS nS)).trans c3,(World.cell?_of_block (hz _ lH nH)).trans c4,(World.cell?_of_block (hz _ lH nH)).trans c5⟩
 have HSS:=Lib.hid hSS
 clear hSS
 refine wp_region_held_drew (S:=fun z=>z.cell? ⟨gD,1,none⟩=some (.int .i64 (k:Int))/\z.cell? ⟨gS,oK,none⟩=some (.int .i64 fr)/\z.cell? ⟨gS,oK+1,none⟩=some (.int .i64 til)/\z.cell? ⟨gH,0,none⟩=some (.int .i64 (len:Int))/\z.cell? ⟨gH,1,none⟩=some (.slice AH rl cH)) (by kernel_rfl) ?_ (fun hHeld=>?_)
 · exact HSS.out _ (fun _ _ _=>rfl)
 clear c1 c2 c3 c4 c5
 refine step_take (i:=0) (v:=?_) rfl (by kernel_rfl) (by kernel_rfl) (by kernel_rfl) (fun c a z h=>hQ c a _ _ z h) (by rfl) ?yh0 (by assumption) ?_
 case yh0=>(intro w hSw;(try dsimp only at hSw);go_simp;(try with_reducible rfl))
 try simp only [Act.put,List.setIfInBounds_toArray,List.set_cons_zero,List.set_cons_succ]
 refine step_take (i:=2) (v:=?_) rfl (by kernel_rfl) (by kernel_rfl) (by kernel_rfl) (fun c a z h=>hQ c a _ _ z h) (by rfl) ?yh2 (by assumption) ?_
 case yh2=>(intro w hSw;(try dsimp only at hSw);go_simp;(try with_reducible rfl))
 try simp only [Act.put,List.setIfInBounds_toArray,List.set_cons_zero,List.set_cons_succ]
 refine step_take (i:=3) (v:=?_) rfl (by kernel_rfl) (by kernel_rfl) (by kernel_rfl) (fun c a z h=>hQ c a _ _ z h) (by rfl) ?yh3 (by assumption) ?_
 case yh3=>(intro w hSw;(try dsimp only at hSw);go_simp;(try with_reducible rfl))
 try simp only [Act.put,List.setIfInBounds_toArray,List.set_cons_zero,List.set_cons_succ]
 refine step_take (i:=4) (v:=?_) rfl (by kernel_rfl) (by kernel_rfl) (by kernel_rfl) (fun c a z h=>hQ c a _ _ z h) (by rfl) ?yh4 (by assumption) ?_
 case yh4=>(intro w hSw;(try dsimp only at hSw);go_simp;(try with_reducible rfl))
 try simp only [Act.put,List.setIfInBounds_toArray,List.set_cons_zero,List.set_cons_succ]
 refine step_take (i:=7) (v:=?_) rfl (by kernel_rfl) (by kernel_rfl) (by kernel_rfl) (fun c a z h=>hQ c a _ _ z h) (by rfl) ?yh7 (by assumption) ?_
 case yh7=>(intro w hSw;(try dsimp only at hSw);go_simp;(try with_reducible rfl))
 try simp only [Act.put,List.setIfInBounds_toArray,List.set_cons_zero,List.set_cons_succ]
 refine step_take (i:=8) (v:=?_) rfl (by kernel_rfl) (by kernel_rfl) (by kernel_rfl) (fun c a z h=>hQ c a _ _ z h) (by rfl) ?yh8 (by assumption) ?_
 case yh8=>(intro w hSw;(try dsimp only at hSw);go_simp;(try with_reducible rfl))
 try simp only [Act.put,List.setIfInBounds_toArray,List.set_cons_zero,List.set_cons_succ]
 refine step_take (i:=9) (v:=?_) rfl (by kernel_rfl) (by kernel_rfl) (by kernel_rfl) (fun c a z h=>hQ c a _ _ z h) (by rfl) ?yh9 (by assumption) ?_
 case yh9=>(intro w hSw;(try dsimp only at hSw);go_simp;(try with_reducible rfl))
 try simp only [Act.put,List.setIfInBounds_toArray,List.set_cons_zero,List.set_cons_succ]
 refine step_take (i:=10) (v:=?_) rfl (by kernel_rfl) (by kernel_rfl) (by kernel_rfl) (fun c a z h=>hQ c a _ _ z h) (by rfl) ?yh10 (by assumption) ?_
 case yh10=>(intro w hSw;(try dsimp only at hSw);go_simp;(try with_reducible rfl))
 try simp only [Act.put,List.setIfInBounds_toArray,List.set_cons_zero,List.set_cons_succ]
 refine step_take (i:=11) (v:=?_) rfl (by kernel_rfl) (by kernel_rfl) (by kernel_rfl) (fun c a z h=>hQ c a _ _ z h) (by rfl) ?yh11 (by assumption) ?_
 case yh11=>(intro w hSw;(try dsimp only at hSw);go_simp;(try with_reducible rfl))
 try simp only [Act.put,List.setIfInBounds_toArray,List.set_cons_zero,List.set_cons_succ]
 refine step_take (i:=12) (v:=?_) rfl (by kernel_rfl) (by kernel_rfl) (by kernel_rfl) (fun c a z h=>hQ c a _ _ z h) (by rfl) ?yh12 (by assumption) ?_
 case yh12=>(intro w hSw;(try dsimp only at hSw);go_simp;(try with_reducible rfl))
 try simp only [Act.put,List.setIfInBounds_toArray,List.set_cons_zero,List.set_cons_succ]
 refine step_take (i:=13) (v:=?_) rfl (by kernel_rfl) (by kernel_rfl) (by kernel_rfl) (fun c a z h=>hQ c a _ _ z h) (by rfl) ?yh13 (by assumption) ?_
 case yh13=>(intro w hSw;(try dsimp only at hSw);go_simp;(try with_reducible rfl))
 try simp only [Act.put,List.setIfInBounds_toArray,List.set_cons_zero,List.set_cons_succ]
 refine step_take (i:=14) (v:=?_) rfl (by kernel_rfl) (by kernel_rfl) (by kernel_rfl) (fun c a z h=>hQ c a _ _ z h) (by rfl) ?yh14 (by assumption) ?_
 case yh14=>(intro w hSw;(try dsimp only at hSw);go_simp;(try with_reducible rfl))
 try simp only [Act.put,List.setIfInBounds_toArray,List.set_cons_zero,List.set_cons_succ]
 refine step_take (i:=15) (v:=?_) rfl (by kernel_rfl) (by kernel_rfl) (by kernel_rfl) (fun c a z h=>hQ c a _ _ z h) (by rfl) ?yh15 (by assumption) ?_
 case yh15=>(intro w hSw;(try dsimp only at hSw);go_simp;(try with_reducible rfl))
 try simp only [Act.put,List.setIfInBounds_toArray,List.set_cons_zero,List.set_cons_succ]
 refine step_take (i:=16) (v:=?_) rfl (by kernel_rfl) (by kernel_rfl) (by kernel_rfl) (fun c a z h=>hQ c a _ _ z h) (by rfl) ?yh16 (by assumption) ?_
 case yh16=>(intro w hSw;(try dsimp only at hSw);go_simp;(try with_reducible rfl))
 try simp only [Act.put,List.setIfInBounds_toArray,List.set_cons_zero,List.set_cons_succ]
 refine step_take (i:=17) (v:=?_) rfl (by kernel_rfl) (by kernel_rfl) (by kernel_rfl) (fun c a z h=>hQ c a _ _ z h) (by rfl) ?yh17 (by assumption) ?_
 case yh17=>(intro w hSw;(try dsimp only at hSw);go_simp;(try with_reducible rfl))
 try simp only [Act.put,List.setIfInBounds_toArray,List.set_cons_zero,List.set_cons_succ]
 refine step_take (i:=18) (v:=?_) rfl (by kernel_rfl) (by kernel_rfl) (by kernel_rfl) (fun c a z h=>hQ c a _ _ z h) (by rfl) ?yh18 (by assumption) ?_
 case yh18=>(intro w hSw;(try dsimp only at hSw);go_simp;(try with_reducible rfl))
 try simp only [Act.put,List.setIfInBounds_toArray,List.set_cons_zero,List.set_cons_succ]
 refine wpAnyH_all (by kernel_rfl) (fun l a z=>(∃ (s:Nat) (b5 b19 b21 b22:Bool) (x179 x180 x181 x182 x183 x184 x185 x186 x187 x188 x189 x190 x191 x192 x193 x194 x195 x196 x197 x198 x199 x200 x201:Value),l=#[true,decide (1<=s),true,true,true,b5,decide (2<=s),true,true,true,true,true,true,true,true,true,true,true,true,b19,decide (3<=s),b21,b22,false]/\a=(Act.mk (List.toArray ((.pointer (some ⟨gF,0,none⟩))::y1::y2::(.pointer (some ⟨gD,0,none⟩))::y4::y5::y6::y7::y8::y9::(.pointer (some ⟨gS,oK,none⟩))::y11::(.pointer (some ⟨gH,0,none⟩))::y13::y14::y15::y16::y17::y18::y19::y20::y21::y22::y23::y24::y25::y26::y27::y28::y29::y30::y31::y32::y33::y34::y35::y36::y37::y38::y39::y40::y41::y42::y43::y44::y45::y46::y47::y48::y49::y50::y51::y52::y53::y54::y55::y56::y57::y58::y59::y60::y61::y62::y63::y64::y65::y66::y67::y68::y69::y70::y71::y72::y73::y74::y75::y76::y77::y78::y79::y80::y81::y82::y83::y84::y85::y86::y87::y88::y89::y90::y91::y92::y93::y94::y95::y96::y97::y98::y99::y100::y101::y102::y103::y104::y105::y106::y107::y108::y109::y110::y111::y112::y113::y114::y115::y116::y117::y118::y119::y120::y121::y122::y123::y124::y125::y126::y127::y128::y129::y130::y131::y132::y133::y134::y135::y136::y137::y138::y139::y140::y141::y142::y143::y144::y145::y146::y147::y148::y149::y150::y151::y152::y153::y154::y155::y156::y157::y158::y159::y160::y161::y162::y163::y164::y165::y166::y167::y168::y169::y170::y171::y172::y173::y174::y175::y176::y177::y178::x179::x180::x181::x182::x183::x184::x185::x186::x187::x188::x189::x190::x191::x192::x193::x194::x195::x196::x197::x198::x199::x200::x201::y202::y203::y204::y205::y206::y207::y208::y209::y210::y211::y212::y213::y214::y215::y216::y217::y218::y219::y220::y221::y222::y223::y224::y225::y226::y227::y228::y229::y230::y231::y232::y233::y234::y235::y236::y237::y238::y239::y240::y241::y242::y243::y244::y245::y246::y247::y248::y249::y250::y251::y252::y253::y254::y255::y256::y257::y258::y259::y260::y261::y262::y263::y264::y265::y266::y267::y268::y269::y270::y271::y272::y273::y274::y275::y276::y277::y278::y279::y280::y281::y282::y283::y284::y285::y286::y287::y288::y289::y290::y291::y292::y293::y294::y295::y296::y297::y298::y299::y300::y301::y302::y303::y304::y305::y306::y307::y308::y309::y310::y311::y312::y313::y314::y315::y316::y317::y318::y319::y320::y321::y322::y323::y324::y325::y326::y327::y328::y329::y330::y331::y332::y333::y334::y335::y336::y337::y338::y339::y340::y341::y342::y343::y344::y345::[])) ds)/\s<=3/\(2<=s->b5=true)/\(3<=s->b19=true)/\(b5=true->x184 = .slice Ab book.length cb)/\x179 = .pointer (some ⟨gF,0,none⟩)/\x183 = .pointer (some ⟨gF,1,none⟩)/\x197 = .agg #[.int .i64 (k:Int),.int .i64 fr,.int .i64 til,.int .i64 (len:Int),.slice AH rl cH]/\(b21=true->s=3/\x200 = .pointer (some ⟨gF,0,none⟩))/\(b22=true->s=3/\x201 = .pointer (some ⟨gF,1,none⟩)/\b21=true)/\JA z w.heap.size 61 5 book.length 1 raw rx s x180 x185 x199/\JB z w.heap.size 61 1 rx b19 s x180 x185 x198/\Below w.heap.size w z)\/(∃ (x179 x180 x181 x182 x183 x184 x185 x186 x187 x188 x189 x190 x191 x192 x193 x194 x195 x196 x197 x198 x199 x200 x201:Value) (z0:World),l=#[true,true,true,true,true,true,true,true,true,true,true,true,true,true,true,true,true,true,true,true,true,true,true,true]/\a=(Act.mk (List.toArray ((.pointer (some ⟨gF,0,none⟩))::y1::y2::(.pointer (some ⟨gD,0,none⟩))::y4::y5::y6::y7::y8::y9::(.pointer (some ⟨gS,oK,none⟩))::y11::(.pointer (some ⟨gH,0,none⟩))::y13::y14::y15::y16::y17::y18::y19::y20::y21::y22::y23::y24::y25::y26::y27::y28::y29::y30::y31::y32::y33::y34::y35::y36::y37::y38::y39::y40::y41::y42::y43::y44::y45::y46::y47::y48::y49::y50::y51::y52::y53::y54::y55::y56::y57::y58::y59::y60::y61::y62::y63::y64::y65::y66::y67::y68::y69::y70::y71::y72::y73::y74::y75::y76::y77::y78::y79::y80::y81::y82::y83::y84::y85::y86::y87::y88::y89::y90::y91::y92::y93::y94::y95::y96::y97::y98::y99::y100::y101::y102::y103::y104::y105::y106::y107::y108::y109::y110::y111::y112::y113::y114::y115::y116::y117::y118::y119::y120::y121::y122::y123::y124::y125::y126::y127::y128::y129::y130::y131::y132::y133::y134::y135::y136::y137::y138::y139::y140::y141::y142::y143::y144::y145::y146::y147::y148::y149::y150::y151::y152::y153::y154::y155::y156::y157::y158::y159::y160::y161::y162::y163::y164::y165::y166::y167::y168::y169::y170::y171::y172::y173::y174::y175::y176::y177::y178::x179::x180::x181::x182::x183::x184::x185::x186::x187::x188::x189::x190::x191::x192::x193::x194::x195::x196::x197::x198::x199::x200::x201::y202::y203::y204::y205::y206::y207::y208::y209::y210::y211::y212::y213::y214::y215::y216::y217::y218::y219::y220::y221::y222::y223::y224::y225::y226::y227::y228::y229::y230::y231::y232::y233::y234::y235::y236::y237::y238::y239::y240::y241::y242::y243::y244::y245::y246::y247::y248::y249::y250::y251::y252::y253::y254::y255::y256::y257::y258::y259::y260::y261::y262::y263::y264::y265::y266::y267::y268::y269::y270::y271::y272::y273::y274::y275::y276::y277::y278::y279::y280::y281::y282::y283::y284::y285::y286::y287::y288::y289::y290::y291::y292::y293::y294::y295::y296::y297::y298::y299::y300::y301::y302::y303::y304::y305::y306::y307::y308::y309::y310::y311::y312::y313::y314::y315::y316::y317::y318::y319::y320::y321::y322::y323::y324::y325::y326::y327::y328::y329::y330::y331::y332::y333::y334::y335::y336::y337::y338::y339::y340::y341::y342::y343::y344::y345::[])) ds)/\z=z0.setCell ⟨gF,1,none⟩ x199/\Own z0 w.heap.size 61 5 x199 (book.length+1) (raw++rx)/\Below w.heap.size w z0)) (fun l a z hT=>?S_) (fun l a z i hT hi=>?step_) (fun l a z hT hall=>?end_) _ _ _ _ ?init_ (of_decide_eq_true (by kernel_rfl))
 case S_ =>
  rcases hT with ⟨s,b5,b19,b21,b22,x179,x180,x181,x182,x183,x184,x185,x186,x187,x188,x189,x190,x191,x192,x193,x194,x195,x196,x197,x198,x199,x200,x201,rfl,rfl,hs3,hb5,hb19,h184,h179,h183,h197,h21,h22,jA,jB,hB⟩ | ⟨x179,x180,x181,x182,x183,x184,x185,x186,x187,x188,x189,x190,x191,x192,x193,x194,x195,x196,x197,x198,x199,x200,x201,z0,rfl,rfl,rfl,hown,hB⟩
  · exact HSS.out z (fun b hb _=>hB.block b hb)
  · exact HSS.out _ (fun b hb hn=>(Below.heap_setCell _ _ _ b hn).trans (hB.block b hb))
 case init_ =>
  exact .inl ⟨0,false,false,false,false,_,_,_,_,_,_,_,_,_,_,_,_,_,_,_,_,_,_,_,_,_,_,_,by kernel_rfl,rfl,by decide,(fun h=>absurd h (by decide)),(fun h=>absurd h (by decide)),(fun h=>absurd h (by decide)),rfl,rfl,rfl,(fun h=>absurd h (by decide)),(fun h=>absurd h (by decide)),⟨(fun h=>absurd h (by decide)),(fun h=>absurd h (by decide)),(fun h=>absurd h (by decide))⟩,(fun h=>absurd h (by decide)),(Below.refl _ _).drew⟩
 case end_ =>
  rcases hT with ⟨s,b5,b19,b21,b22,x179,x180,x181,x182,x183,x184,x185,x186,x187,x188,x189,x190,x191,x192,x193,x194,x195,x196,x197,x198,x199,x200,x201,rfl,rfl,hs3,hb5,hb19,h184,h179,h183,h197,h21,h22,jA,jB,hB⟩ | ⟨x179,x180,x181,x182,x183,x184,x185,x186,x187,x188,x189,x190,x191,x192,x193,x194,x195,x196,x197,x198,x199,x200,x201,z0,rfl,rfl,rfl,hown,hB⟩
  · exact Bool.noConfusion (show false=true from hall 23 (by show 23<24;decide))
  · exact hend x179 x180 x181 x182 x183 x184 x185 x186 x187 x188 x189 x190 x191 x192 x193 x194 x195 x196 x197 x198 x199 x200 x201 raw z0 hrl hrr (by rw [<-HRX.out];exact hown) hB
 case step_ =>
  have hi24:i<24:=(ready_lt hi).1
  rcases hT with ⟨s,b5,b19,b21,b22,x179,x180,x181,x182,x183,x184,x185,x186,x187,x188,x189,x190,x191,x192,x193,x194,x195,x196,x197,x198,x199,x200,x201,rfl,rfl,hs3,hb5,hb19,h184,h179,h183,h197,h21,h22,jA,jB,hB⟩ | ⟨x179,x180,x181,x182,x183,x184,x185,x186,x187,x188,x189,x190,x191,x192,x193,x194,x195,x196,x197,x198,x199,x200,x201,z0,rfl,rfl,rfl,hown,hB⟩
  rotate_left
  · have hn:=(mem_ready.1 hi).1
    rcases (show i=0\/i=1\/i=2\/i=3\/i=4\/i=5\/i=6\/i=7\/i=8\/i=9\/i=10\/i=11\/i=12\/i=13\/i=14\/i=15\/i=16\/i=17\/i=18\/i=19\/i=20\/i=21\/i=22\/i=23 by omega) with rfl | rfl | rfl | rfl | rfl | rfl | rfl | rfl | rfl | rfl | rfl | rfl | rfl | rfl | rfl | rfl | rfl | rfl | rfl | rfl | rfl | rfl | rfl | rfl
    all_goals exact Bool.noConfusion (show true=false from hn)
  subst h179 h183 h197
  rcases (show i=0\/i=1\/i=2\/i=3\/i=4\/i=5\/i=6\/i=7\/i=8\/i=9\/i=10\/i=11\/i=12\/i=13\/i=14\/i=15\/i=16\/i=17\/i=18\/i=19\/i=20\/i=21\/i=22\/i=23 by omega) with rfl | rfl | rfl | rfl | rfl | rfl | rfl | rfl | rfl | rfl | rfl | rfl | rfl | rfl | rfl | rfl | rfl | rfl | rfl | rfl | rfl | rfl | rfl | rfl
  · skip
    exact Bool.noConfusion (show true=false from (mem_ready.1 hi).1)
  · skip
    have hf:=ready_flags hi rfl
    have hn:=hf.1
    obtain rfl:s=0:=by have h:decide (1<=s)=false:=hn;have:=of_decide_eq_false h;omega
    refine duty rfl rfl (fun K hK=>?_)
    go_simp
    refine hK _ _ (.inl ⟨1,b5,b19,b21,b22,_,_,x181,x182,_,x184,x185,x186,x187,x188,x189,x190,x191,x192,x193,x194,x195,x196,_,x198,x199,x200,x201,rfl,rfl,by decide,(fun h=>absurd h (by decide)),(fun h=>absurd h (by decide)),h184,rfl,rfl,rfl,(fun h=>absurd (h21 h).1 (by decide)),(fun h=>absurd (h22 h).1 (by decide)),⟨fun _=>own_emptyT z _ hB.size _ _,(fun h=>absurd h (by decide)),(fun h=>absurd h (by decide))⟩,fun e1 _=>?_,hB.alloc hB.size _⟩)
    obtain ⟨g,q1,q2,q3,_,_⟩:=jB e1 (by decide)
    exact ⟨g,q1,q2,q3.alloc _,fun _ h=>(by have:=q3.lt;injection h with h;have h2:z.heap.size=g:=h;omega),fun h=>absurd h (by decide)⟩
  · skip
    exact Bool.noConfusion (show true=false from (mem_ready.1 hi).1)
  · skip
    exact Bool.noConfusion (show true=false from (mem_ready.1 hi).1)
  · skip
    exact Bool.noConfusion (show true=false from (mem_ready.1 hi).1)
  · skip
    have hf:=ready_flags hi rfl
    have hn:=hf.1
    have c0z:z.cell? ⟨gF,1,none⟩=some (.slice Ab book.length cb):=(hB.cell (p:=⟨gF,1,none⟩) lF).trans c0
    refine duty rfl rfl (fun K hK=>?_)
    go_simp
    exact hK _ _ (.inl ⟨s,true,b19,b21,b22,_,x180,x181,x182,_,_,x185,x186,x187,x188,x189,x190,x191,x192,x193,x194,x195,x196,_,x198,x199,x200,x201,rfl,rfl,hs3,(fun _=>rfl),hb19,(fun _=>rfl),rfl,rfl,rfl,h21,h22,jA,jB,hB⟩)
  · skip
    have hf:=ready_flags hi rfl
    have hn:=hf.1
    have d1:=hf.2 _ (Array.mem_of_getElem? (i:=0) rfl) rfl
    have d5:=hf.2 _ (Array.mem_of_getElem? (i:=1) rfl) rfl
    obtain rfl:s=1:=by have h:decide (2<=s)=false:=hn;have h2:decide (1<=s)=true:=d1;have:=of_decide_eq_false h;have:=of_decide_eq_true h2;omega
    have hb:b5=true:=d5
    obtain rfl:=h184 hb
    refine duty rfl rfl (fun K hK=>?_)
    refine wp_append_Own z (.tmp 180) (.tmp 184) 62 (by rfl) w.heap.size 61 i0 _ 5 56 Try.underlying62 hi0 hz0 hz1 hz2 (by rfl) (by omega) x180 0 [] (by rfl) (jA.1 rfl) F (.slice Ab book.length cb) book.length raw (by rfl) (SlAt.below hrs hB) hr1 (by simp [maxLen];omega) (by omega) hB.size ?_
    intro v2 z2 hown2 hgr2 hat2
    rw [Nat.zero_add,List.nil_append] at hown2
    refine hK _ _ (.inl ⟨2,b5,b19,b21,b22,_,x180,x181,x182,_,_,v2,x186,x187,x188,x189,x190,x191,x192,x193,x194,x195,x196,_,x198,x199,x200,x201,rfl,rfl,by decide,(fun _=>hb),(fun h=>absurd h (by decide)),(fun _=>rfl),rfl,rfl,rfl,(fun h=>absurd (h21 h).1 (by decide)),(fun h=>absurd (h22 h).1 (by decide)),⟨(fun h=>absurd h (by decide)),fun _=>hown2,(fun h=>absurd h (by decide))⟩,fun e1 _=>?_,hB.grown hgr2 hB.size (fun k hk=>(Own.lt (jA.1 rfl) k hk).1)⟩)
    obtain ⟨g,q1,q2,q3,q4,_⟩:=jB e1 (by decide)
    refine ⟨g,q1,q2,q3.keep (hgr2.block g q3.lt (fun h=>q4 rfl h.symm)),fun h=>absurd h (by decide),fun _ h=>?_⟩
    rcases hat2 with h2 | h2
    · exact q4 rfl (h2.symm.trans h)
    · rw [h2] at h;have:=q3.lt;injection h with h;omega
  · skip
    exact Bool.noConfusion (show true=false from (mem_ready.1 hi).1)
  · skip
    exact Bool.noConfusion (show true=false from (mem_ready.1 hi).1)
  · skip
    exact Bool.noConfusion (show true=false from (mem_ready.1 hi).1)
  · skip
    exact Bool.noConfusion (show true=false from (mem_ready.1 hi).1)
  · skip
    exact Bool.noConfusion (show true=false from (mem_ready.1 hi).1)
  · skip
    exact Bool.noConfusion (show true=false from (mem_ready.1 hi).1)
  · skip
    exact Bool.noConfusion (show true=false from (mem_ready.1 hi).1)
  · skip
    exact Bool.noConfusion (show true=false from (mem_ready.1 hi).1)
  · skip
    exact Bool.noConfusion (show true=false from (mem_ready.1 hi).1)
  · skip
    exact Bool.noConfusion (show true=false from (mem_ready.1 hi).1)
  · skip
    exact Bool.noConfusion (show true=false from (mem_ready.1 hi).1)
  · skip
    exact Bool.noConfusion (show true=false from (mem_ready.1 hi).1)
  · skip
    have hf:=ready_flags hi rfl
    have hn:=hf.1
    have hb:b19=false:=hn
    have hs3:s<3:=by rcases Nat.lt_or_ge s 3 with h | h;exact h;exact absurd (hb19 h) (by rw [hb];decide)
    refine duty rfl rfl (fun K hK=>?_)
    go_simp
    refine hK _ _ (.inl ⟨s,b5,true,b21,b22,_,x180,x181,x182,_,x184,x185,x186,x187,x188,x189,x190,x191,x192,x193,x194,x195,x196,_,_,x199,x200,x201,rfl,rfl,by omega,hb5,(fun _=>rfl),h184,rfl,rfl,rfl,h21,h22,jA.below (below_allocR z _),fun _ _=>?_,hB.alloc hB.size _⟩)
    refine ⟨z.heap.size,rfl,hB.size,by rw [HRX.out];exact heap_alloc_new z _,fun e h=>?_,fun e h=>?_⟩
    · exact Nat.lt_irrefl _ (Own.lt (jA.1 e) _ h).2
    · exact Nat.lt_irrefl _ (Own.lt (jA.2.1 e) _ h).2
  · skip
    have hf:=ready_flags hi rfl
    have hn:=hf.1
    have d6:=hf.2 _ (Array.mem_of_getElem? (i:=0) rfl) rfl
    have d19:=hf.2 _ (Array.mem_of_getElem? (i:=1) rfl) rfl
    obtain rfl:s=2:=by have h:decide (3<=s)=false:=hn;have h2:decide (2<=s)=true:=d6;have:=of_decide_eq_false h;have:=of_decide_eq_true h2;omega
    have hb:b19=true:=d19
    obtain ⟨g,q1,q2,q3,_,q5⟩:=jB hb (by decide)
    subst q1
    refine duty rfl rfl (fun K hK=>?_)
    refine wp_append_Own z (.tmp 185) (.tmp 198) 62 (by rfl) w.heap.size 61 i0 _ 5 56 Try.underlying62 hi0 hz0 hz1 hz2 (by rfl) (by omega) x185 book.length raw (by rfl) (jA.2.1 rfl) (fun k=>k=g) (.slice (some ⟨g,0,none⟩) 1 1) 1 rx (by rfl) (blk_slatT q3 (by omega) (by simp [maxLen])) hrx1 (by simp [maxLen];omega) (by omega) hB.size ?_
    intro v2 z2 hown2 hgr2 hat2
    exact hK _ _ (.inl ⟨3,b5,b19,b21,b22,_,x180,x181,x182,_,x184,x185,x186,x187,x188,x189,x190,x191,x192,x193,x194,x195,x196,_,_,v2,x200,x201,rfl,rfl,by decide,(fun _=>hb5 (by decide)),(fun _=>hb),h184,rfl,rfl,rfl,(fun h=>absurd (h21 h).1 (by decide)),(fun h=>absurd (h22 h).1 (by decide)),⟨(fun h=>absurd h (by decide)),(fun h=>absurd h (by decide)),fun _=>hown2⟩,(fun _ h=>absurd h (by decide)),hB.grown hgr2 hB.size (fun k hk=>(Own.lt (jA.2.1 rfl) k hk).1)⟩)
  · skip
    have hf:=ready_flags hi rfl
    have hn:=hf.1
    have d20:=hf.2 _ (Array.mem_of_getElem? (i:=21) rfl) rfl
    obtain rfl:s=3:=by have h:decide (3<=s)=true:=d20;have:=of_decide_eq_true h;omega
    have hb5_:=hb5 (by decide)
    obtain rfl:=h184 hb5_
    refine duty rfl rfl (fun K hK=>?_)
    go_simp
    exact hK _ _ (.inl ⟨3,b5,b19,true,b22,_,x180,x181,x182,_,_,x185,x186,x187,x188,x189,x190,x191,x192,x193,x194,x195,x196,_,x198,x199,_,x201,rfl,rfl,hs3,hb5,hb19,(fun _=>rfl),rfl,rfl,rfl,(fun _=>⟨rfl,rfl⟩),(fun h=>⟨(h22 h).1,(h22 h).2.1,rfl⟩),jA,jB,hB⟩)
  · skip
    have hf:=ready_flags hi rfl
    have hn:=hf.1
    have d21:=hf.2 _ (Array.mem_of_getElem? (i:=0) rfl) rfl
    have hb:b21=true:=d21
    obtain ⟨hs,hx⟩:=h21 hb
    subst hs hx
    have hb5_:=hb5 (by decide)
    obtain rfl:=h184 hb5_
    refine duty rfl rfl (fun K hK=>?_)
    go_simp
    exact hK _ _ (.inl ⟨3,b5,b19,b21,true,_,x180,x181,x182,_,_,x185,x186,x187,x188,x189,x190,x191,x192,x193,x194,x195,x196,_,x198,x199,_,_,rfl,rfl,hs3,hb5,hb19,(fun _=>rfl),rfl,rfl,rfl,(fun _=>⟨rfl,rfl⟩),(fun _=>⟨rfl,rfl,hb⟩),jA,jB,hB⟩)
  · skip
    have hf:=ready_flags hi rfl
    have hn:=hf.1
    have d22:=hf.2 _ (Array.mem_of_getElem? (i:=0) rfl) rfl
    have d20:=hf.2 _ (Array.mem_of_getElem? (i:=1) rfl) rfl
    have d5:=hf.2 _ (Array.mem_of_getElem? (i:=8) rfl) rfl
    have d19:=hf.2 _ (Array.mem_of_getElem? (i:=22) rfl) rfl
    have hb:b22=true:=d22
    have hb3:b5=true:=d5
    have hb4:b19=true:=d19
    obtain ⟨hs,hx,hb2⟩:=h22 hb
    obtain ⟨-,hx2⟩:=h21 hb2
    subst hx2
    obtain rfl:=h184 hb3
    subst hs hx hb hb2 hb3 hb4
    obtain ⟨A9,c9,h9,_,_⟩:=Own.shape (jA.2.2 rfl)
    subst h9
    have c0z:z.cell? ⟨gF,1,none⟩=some (.slice Ab book.length cb):=(hB.cell (p:=⟨gF,1,none⟩) lF).trans c0
    have f1z:z.frozen? ⟨gF,1,none⟩=false:=(World.frozen?_of_block (hB.block gF lF)).trans f1
    refine duty rfl rfl (fun K hK=>?_)
    go_simp
    exact hK _ _ (.inr ⟨_,x180,x181,x182,_,_,x185,x186,x187,x188,x189,x190,x191,x192,x193,x194,x195,x196,_,x198,_,_,_,z,rfl,rfl,rfl,jA.2.2 rfl,hB⟩)
end Go.Proofs.Ytfdibjgmbdkbcaa
