import Derived.Test.YtbbabhaalmkbkaaGreatDoorE2
import Derived.RangeFuncLeaves
import Derived.RangeFuncMany
import Derived.OrdersIn
import Derived.TacticsIn
import Derived.Test.YtbbabhaalmkbkaaGreatDoorE7
import Derived.Test.YtbbabhaalmkbkaaGreatDoorE1
import Derived.Shelf.SlSortCmp.NoneTotal
import Derived.Test.YtbbabhaalmkbkaaGreatDoorProg
set_option linter.unusedSimpArgs false
set_option linter.unusedVariables false
set_option linter.unusedSectionVars false
set_option linter.deprecated false
open Go.Proofs.Tryz renaming isAgg3→kT,sizeOf41→lT,isAgg41→mT,f38→nT,zeroValue41→oT,sizeOf3→pT,isAgg87→qT,isAgg26→rT,underlying39→sT,results14→tT,underlying87→uT,underlying26→vT,isAgg39→wT,isAgg38→kR,sizeOf38→lR,call79→mR,call37→nR,sizeOf26→oR,zeroValue3→pR,zeroValue26→qR,call38→rR,results28→sR,results29→tR
namespace Go.Proofs.YtbbabhaalmkbkaaGreatDoor
section
open Go.RowKit
abbrev FR (r:Option Nat):Fence:={Fence.wide with round:=r}
structure SimD (ds:List Deferred) (n:Nat) (σ:Env) (a:Act):Prop where
 size:a.tmps.size=n
 defers:a.defers=ds
 get: ∀i,a.tmps.getD i undef=σ i
section
variable {P:Program}{n:Nat}{Q:xZ}{σ:Env}{w:World}{ds:List Deferred}{r:Option Nat}{a:Act}
theorem SimD.sim (h:SimD [] n σ a):Sim n σ a:=⟨h.size,h.defers,h.get⟩
theorem SimD.of (h:Sim n σ a):SimD [] n σ a:=⟨h.size,h.defers,h.get⟩
theorem SimD.low (h:SimD ds n σ a):Sim n σ {a with defers:=[]}:=⟨h.size,rfl,h.get⟩
theorem SimD.eval (h:SimD ds n σ a):a.eval=ev σ:=h.low.eval
theorem SimD.put (h:SimD ds n σ a){dst:Option Nat}(hd: ∀d,dst=some d→d<n)(v:Value):SimD ds n (Zr σ dst v) (a.put dst v):=by
 have h1:=h.low.put hd v
 refine⟨?_,?_,?_⟩
 ·have:=h1.size;cases dst<;>exact this
 ·have:=h.defers;cases dst<;>exact this
 ·have:=h1.get;cases dst<;>exact this
theorem SimD.yielded (h:SimD ds n σ a)(ops:Array Oper):yielded ops a.tmps=yl ops σ:=h.low.yielded ops
def opX (P:Program)(o:Oper)(σ:Env)(w:World)(K:Value→World→Prop):Prop:=
 match (execOp (ev σ) o).run P w with
 | .ok (.value v) w'=>K v w'
 | .ok .skip w'=>K undef w'
 | .ok (.enter f args) w'=>Calls P f args w' fun e w''=> ∃v,e=.returned v∧K v w''
 | .ok (.round l f tmps assign body) w'=>RoundIn (FR none) 0 P l f tmps assign body w' fun e w''=> ∃v,e=.returned v∧K v w''
 |_=>False
theorem JS {o:Oper}{K:Value→World→Prop}(h:opV P o σ w K):opX P o σ w K:=by
 unfold opV at h
 unfold opX
 generalize (execOp (ev σ) o).run P w=q at*
 cases q with
 |halt x w'=>cases x<;>exact h.elim
 |ok x w'=>cases x<;>first|exact h|exact h.elim
def xG (o:Oper):Bool:=match o.op with| .defer _=>false|_=>true
theorem Xr {o:Oper}(h:xG o=true): ∀c,o.op≠ .defer c:=by
 intro c hc
 unfold xG at h
 rw[hc]at h
 cases h
theorem Uz {f:FuncId}{args:Array Value}{R:Ending→World→Prop}(h:Calls P f args w R):CallsIn (FR r) 0 P f args w R:=callsIn_wide.2 h
theorem JJ {o:Oper}{K:Value→World→Prop}{next:Act→World→Prop}{Q':Exit→Act→World→Prop}(hs:SimD ds n σ a)(hnd:xG o=true)
 (hn: ∀a' v w',SimD ds n (Zr σ o.dst v) a'→K v w'→next a' w') (hd: ∀d,o.dst=some d→d<n) (h:opX P o σ w K):o.wpIn (FR r) 0 P a w next Q':=by
 unfold Oper.wpIn
 refine⟨fun _ _=>trivial,?_⟩
 rw[Oper.semAt_eq _ _ _ (Xr hnd),hs.eval]
 unfold opX at h
 generalize (execOp (ev σ) o).run P w=q at*
 cases q with
 |halt x w'=>cases x<;>exact h.elim
 |ok x w'=>
  cases x<;>try exact h.elim
  case value v=>exact hn _ _ _ (hs.put hd v) h
  case skip=>exact hn _ _ _ (hs.put hd undef) h
  case enter f args=>
   refine⟨fun h=>(by cases h),CallsIn.mono (Uz h) fun e w''=>?_⟩
   rintro⟨v,rfl,hk⟩
   exact hn _ _ _ (hs.put hd v) hk
  case round l f tmps assign body=>
   refine⟨fun h=>(by cases h),RoundIn.mono h fun e w''=>?_⟩
   rintro⟨v,rfl,hk⟩
   exact hn _ _ _ (hs.put hd v) hk
def YY (P:Program)(ops:Array Oper)(K:Env→World→Prop):List Oper→Env→World→Prop
 |[],σ,w=>K σ w
 |o::rest,σ,w=>if Region.wanted o (yl ops σ)then opX P o σ w (fun v w'=>YY P ops K rest (Zr σ o.dst v) w')else YY P ops K rest (Zr σ o.dst undef) w
theorem JO {o:Oper}{K K':Value→World→Prop}(h: ∀v w',K v w'→K' v w')(hh:opX P o σ w K):opX P o σ w K':=by
 unfold opX at*
 generalize (execOp (ev σ) o).run P w=q at*
 cases q with
 |halt x w'=>cases x<;>exact hh.elim
 |ok x w'=>
  cases x<;>try exact hh.elim
  case value v=>exact h _ _ hh
  case skip=>exact h _ _ hh
  case enter f args=>
   refine Calls.mono hh fun e w''=>?_
   rintro⟨v,rfl,hk⟩
   exact⟨v,rfl,h _ _ hk⟩
  case round l f tmps assign body=>
   refine RoundIn.mono hh fun e w''=>?_
   rintro⟨v,rfl,hk⟩
   exact⟨v,rfl,h _ _ hk⟩
theorem Vj {ops:Array Oper}{K:Env→World→Prop}: ∀{l:List Oper} {σ:Env} {w:World},WPs P ops K l σ w→YY P ops K l σ w
 |[],_,_,h=>h
 |o::rest,σ,w,h=>by
  simp only[WPs]at h
  simp only[YY]
  split
  ·rename_i hw
   rw[if_pos hw]at h
   exact JO (fun v w' hk=>Vj hk) (JS h)
  ·rename_i hw
   rw[if_neg hw]at h
   exact Vj h
theorem stX {ops:Array Oper}{K:Env→World→Prop}{rest:List Oper}{d:Nat}{op:Op}{ty:TypeId}{pos:String}{af:Array Edge}(h:opX P ⟨some d,op,ty,pos,af,none⟩ σ w (fun v w'=>YY P ops K rest (upd σ d v) w')):YY P ops K (⟨some d,op,ty,pos,af,none⟩::rest) σ w:=h
theorem zbj {ops:Array Oper}{K:Env→World→Prop}{rest:List Oper}{d:Nat}{op:Op}{ty:TypeId}{pos:String}{af:Array Edge}(h:opV P ⟨some d,op,ty,pos,af,none⟩ σ w (fun v w'=>YY P ops K rest (upd σ d v) w')):YY P ops K (⟨some d,op,ty,pos,af,none⟩::rest) σ w:=JS h
theorem zaK {ops:Array Oper}{K:Env→World→Prop}(h:K σ w):YY P ops K [] σ w:=h
theorem Wh {ops:Array Oper}{K:Env→World→Prop}{Q':Exit→Act→World→Prop}(hK: ∀a σ w,SimD ds n σ a→K σ w→Q' .normal a w):
 ∀(l:List Oper),yQ n l=true→l.all xG=true→ ∀(σ:Env) (a:Act) (w:World),SimD ds n σ a→YY P ops K l σ w→wpListIn (FR r) 0 P ops Q' l a w
 |[],_,_,σ,a,w,hs,h=>hK a σ w hs h
 |o::rest,hd,hnd,σ,a,w,hs,h=>by
  simp only[yQ,List.all_cons,Bool.and_eq_true]at hd hnd
  have hd1: ∀d,o.dst=some d→d<n:=by
   intro d hd'
   have:=hd.1
   rw[hd']at this
   simpa using this
  have ih:=Wh (ops:=ops) hK rest (by simpa[yQ]using hd.2) hnd.2
  simp only[YY]at h
  simp only[wpListIn,hs.yielded]
  split
  ·rename_i hw
   rw[if_pos hw]at h
   exact JJ hs hnd.1 (fun a' v w' hs' hk=>ih _ a' w' hs' hk) hd1 h
  ·rename_i hw
   rw[if_neg hw]at h
   exact⟨fun _ _=>trivial,ih _ _ _ (hs.put hd1 undef) h⟩
def WPX (r:Option Nat)(ds:List Deferred)(P:Program)(n:Nat)(c:Code)(Q:xZ)(σ:Env)(w:World):Prop:=
 ∀a,SimD ds n σ a→c.wpIn (FR r) 0 P (fun e a' w'=> ∃σ',SimD ds n σ' a'∧Q e σ' w') a w
theorem zaD {c:Code}(h:WPX none [] P n c Q σ w):WP P n c Q σ w:=fun a hs=>
 wp_mono (wpIn_wide.1 (h a (.of hs))) (by rintro e a' w' ⟨σ',h1,h2⟩;exact⟨σ',h1.sim,h2⟩)
theorem YR {id:Nat}{l:List Oper}(hd:(yQ n l&&l.all xG)=true)(h:YY P l.toArray (Q .normal) l σ w):WPX r ds P n (.region id l.toArray false) Q σ w:=by
 intro a hs
 rw[Bool.and_eq_true]at hd
 exact wpIn_region_lit (Wh (fun a σ w hs hk=>⟨σ,hs,hk⟩) l hd.1 hd.2 σ a w hs h)
theorem Um {id:Nat}{l:List Oper}(hd:(yQ n l&&l.all xG)=true)(h:WPs P l.toArray (Q .normal) l σ w):WPX r ds P n (.region id l.toArray false) Q σ w:=YR hd (Vj h)
theorem Zf {id:Nat}{l:List Oper}(hd:(yQ n l&&l.all xG)=true)(h: ∀ops,WPs P ops (Q .normal) l σ w):WPX r ds P n (.region id l.toArray false) Q σ w:=Um hd (h _)
theorem WJ {x y:Code}(h:WPX r ds P n x (Jk (WPX r ds P n y Q) Q) σ w):WPX r ds P n (.seq x y) Q σ w:=by
 intro a hs
 refine wpIn_seq (wpIn_mono (h a hs) ?_)
 rintro e a' w' ⟨σ',hs',hq⟩
 cases e<;>first|exact hq a' hs'|exact⟨σ',hs',hq⟩
theorem Jf (h:Q .normal σ w):WPX r ds P n .skip Q σ w:=fun _ hs=>wpIn_skip ⟨σ,hs,h⟩
theorem zaQ (h:Q .ret σ w):WPX r ds P n .ret Q σ w:=fun _ hs=>wpIn_ret ⟨σ,hs,h⟩
theorem Vt {c:Operand}{x y:Code}{t:Bool}(hc:ev σ c=.bool t)(ht:t=true→WPX r ds P n x Q σ w)(hf:t=false→WPX r ds P n y Q σ w):WPX r ds P n (.cond c x y) Q σ w:=by
 intro a hs
 cases t
 ·exact wpIn_cond_false (by rw[hs.eval];exact hc) (hf rfl a hs)
 ·exact wpIn_cond_true (by rw[hs.eval];exact hc) (ht rfl a hs)
theorem UF {c:Operand}{x y:Code}(hc:ev σ c=.bool true)(ht:WPX r ds P n x Q σ w):WPX r ds P n (.cond c x y) Q σ w:=Vt hc (fun _=>ht) (fun h=>nomatch h)
theorem Ur {c:Operand}{x y:Code}(hc:ev σ c=.bool false)(hf:WPX r ds P n y Q σ w):WPX r ds P n (.cond c x y) Q σ w:=Vt hc (fun h=>nomatch h) (fun _=>hf)
theorem QM {id:Nat}{c:Code}(h:WPX r ds P n c (YN id Q) σ w):WPX r ds P n (.block id c) Q σ w:=by
 intro a hs
 refine wpIn_block (wpIn_mono (h a hs) ?_)
 rintro e a' w' ⟨σ',hs',hq⟩
 cases e<;>try exact⟨σ',hs',hq⟩
 case exit id'=>
  simp only[YN]at hq
  simp only[Exit.inBlock]
  split<;>rename_i hid
  ·rw[if_pos hid]at hq;exact⟨σ',hs',hq⟩
  ·rw[if_neg hid]at hq;exact⟨σ',hs',hq⟩
theorem zar {c:Code}{kv:List (Nat×Value)}(hk:Xq σ kv)(h: ∀ρ,WPX r ds P n c Q (yi ρ kv) w):WPX r ds P n c Q σ w:=by
 rw[yO hk];exact h σ
theorem zal {o:Oper}{w:World}{K:Act→World→Prop}{Q':Exit→Act→World→Prop}(hnd:xG o=true)(h:o.wp P a w K Q'):o.wpIn (FR r) 0 P a w K Q':=by
 unfold Oper.wp at h
 unfold Oper.wpIn
 refine⟨fun _ _=>trivial,?_⟩
 rw[Oper.semAt_eq _ _ _ (Xr hnd)]
 generalize (execOp a.eval o).run P w=q at*
 cases q with
 |halt x w'=>cases x<;>exact h
 |ok x w'=>
  cases x<;>try exact h
  case enter f args=>exact⟨fun h=>(by cases h),Uz h⟩
  case row row args=>
   refine⟨fun h=>(by cases h),fun c cs _=>?_⟩
   obtain⟨v,w',h1,h2⟩:=h c cs
   exact⟨v,w',h1,stepsIn_wide.2 h2⟩
  case round=>exact False.elim h
theorem Yy {ops:Array Oper}{Q':Exit→Act→World→Prop}(hnd: ∀(i:Nat) (o:Oper),ops[i]? =some o→xG o=true)(hQ: ¬LetsOut Q'): ∀(fuel:Nat) (listed:Array Bool) (a:Act) (w:World),wpAny P .any ops Q' fuel listed a w→wpAnyIn (FR r) 0 P .any ops Q' fuel listed a w
 |0,_,_,_,h=>h
 |fuel+1,listed,a,w,h=>by
  refine⟨h.1,fun i hi=>?_⟩
  have h1:=h.2 i hi
  unfold wpOp at h1
  unfold wpOpIn
  split
  ·rename_i ho
   simp only[ho]at h1
   exact Yy hnd hQ fuel _ _ _ h1
  ·rename_i o ho
   simp only[ho]at h1
   split
   ·rename_i hw
    rw[if_pos hw]at h1
    rcases h1 with h1|h1
    ·exact Oper.wpIn_mono (fun a w hk=>Yy hnd hQ fuel _ _ _ hk) (zal (hnd _ _ ho) h1)
    ·exact(hQ h1.2).elim
   ·rename_i hw
    rw[if_neg hw]at h1
    exact⟨fun _ _=>trivial,Yy hnd hQ fuel _ _ _ h1⟩
theorem QC {ops:List Oper}{id:Nat}(W:Nat→(Nat→Value)→World→Prop)(A:Nat→(Nat→Value)→Prop)(pre:List (List Nat))(ss:List Nat)(sees:List (Nat×Nat))(hm:P.follows .mixedOrders=true)(hd:(yQ n ops&&ops.all xG)=true)(hok:drawOk ops pre ops.length=true)
 (hkl:sees.length=ops.length) (hk:seesOk pre ss sees=true) (hsl:(ss.all fun s=>Nat.blt s ops.length)=true)
 (hW: ∀w0:World,w0.heap=w.heap→w0.os=w.os→w0.tape=w.tape→w0.output=w.output∧w.drawn≤w0.drawn→ ∀vals,W 0 vals w0)
 (hloc: ∀k vals vals' w,(∀s∈ss,vals' s=vals s)→W k vals w→W k vals' w)
 (hlocA: ∀i vals vals',(∀j,j=i∨j∈pre.getD i []→vals' j=vals j)→A i vals→A i vals')
 (hob:Wn P ops pre ss sees W A σ 0 ops)
 (hfin: ∀vals w',W ss.length vals w'→(∀j,j<ops.length→A j vals)→WPs P ops.toArray (Q .normal) [] (behind ops vals σ ops.length) w')
 (hQ: ∀σ w,¬Q .outgrown σ w:=by intro σ w h;exact h):
 WPX r [] P n (.region id ops.toArray true) Q σ w:=by
 intro a hs
 rw[Bool.and_eq_true]at hd
 have hf:=drawOk.fit hok
 have hz:dn (Array.replicate ops.toArray.size false)=fun _=>false:=by
  funext i
  simp[dn,Array.getElem?_replicate]
  split<;>rfl
 refine wpIn_mono (wpIn_region_any hm (Yy (Q':=fun e a' w'=> ∃σ'',Sim n σ'' a'∧Q e σ'' w') (fun i o ho=>(List.all_eq_true.1 hd.2) o (List.mem_of_getElem? (by simpa using ho))) (by rintro⟨a0,w0,σ0,_,h0⟩;exact hQ _ _ h0) _ _ _ _ ?_)) (by rintro e a' w' ⟨σ',h1,h2⟩;exact⟨σ',.of h1,h2⟩)
 refine KC (ss:=ss) (vals:=fun _=>undef) hf hd.1 hkl hk (fun s hs=>by
  have:=(List.all_eq_true.1 hsl) s hs;simpa[Nat.blt_eq]using this) hloc hlocA hob hfin _ _ a _ (by simp) ?_ ?_ ?_ ?_ ?_ ?_
 ·intro i hi;rw[hz]at hi;cases hi
 ·intro i hi;rw[hz]at hi;cases hi
 ·simp
 ·have:mixed ops (dn (Array.replicate ops.toArray.size false)) (fun _=>undef) σ=σ:=by
   funext t
   exact xp fun j _=>by rw[hz]
  rw[this];exact hs.sim
 ·have:xd ss (dn (Array.replicate ops.toArray.size false))=0:=ZK fun s _=>by rw[hz]
  rw[this];exact hW {w with drawn:=w.drawn+1} rfl rfl rfl ⟨rfl,Nat.le_succ _⟩ _
 ·intro i hi;rw[hz]at hi;cases hi
abbrev Wx (K:Env→World→Prop):xZ:=fun e σ w=>match e with
 | .normal=>K σ w
 |_=>False
theorem Kh {l p:Nat}{f:FuncId}{tm:Array Value}{v:Value}{assign body:Code}{R:Ending→World→Prop}(hs:tm.size=n∧ ∀i,tm.getD i undef=σ i)(hp:p<n)
 (h:WPX (some l) [] P n assign (Wx fun σ1 w1=> ∃w2,(Instr.beginRound l).run P w1=.ok () w2∧WPX (some l) [] P n body (Wx fun σ2 w3=> ∃v' w4,(Instr.endRound l none).run P w3=.ok v' w4∧R (.returned v') w4) σ1 w2) (upd σ p v) w):
 RoundIn (FR none) 0 P l f ((#[p].zip #[v]).foldl (fun t (p,v)=>t.setIfInBounds p v) tm) assign body w R:=by
 have hs':SimD [] n (upd σ p v) {tmps:=(#[p].zip #[v]).foldl (fun t (p,v)=>t.setIfInBounds p v) tm,defers:=[]}:=by
  have h1:SimD [] n σ {tmps:=tm,defers:=[]}:=⟨hs.1,rfl,hs.2⟩
  have h2:=h1.put (dst:=some p) (fun d hd=>by cases hd;exact hp) v
  have e:(#[p].zip #[v]).foldl (fun t (p,v)=>t.setIfInBounds p v) tm=tm.setIfInBounds p v:=by simp
  rw[e];exact h2
 refine roundIn_of_wpIn trivial (wpIn_mono (h _ hs') ?_)
 rintro e a' w' ⟨σ',hs'',hq⟩
 cases e<;>try exact hq.elim
 obtain⟨w2,hb,hq⟩:=hq
 refine⟨w2,hb,wpIn_mono (hq _ hs'') ?_⟩
 rintro e a'' w'' ⟨σ'',hs3,hq2⟩
 cases e<;>try exact hq2.elim
 exact hq2
def mkD (D:Nat):Deferred:={target:=.collected D,args:=#[]}
def WPZ (P:Program)(n:Nat)(c:Code)(Q:Nat→xZ)(σ:Env)(w:World):Prop:=
 ∀a,SimD [] n σ a→c.wpIn (FR none) 0 P (fun e a' w'=> ∃D σ',SimD [mkD D] n σ' a'∧Q D e σ' w') a w
theorem WW {x y:Code}{Q:Nat→xZ}(h:WP P n x (Wx fun σ w=>WPZ P n y Q σ w) σ w):WPZ P n (.seq x y) Q σ w:=by
 intro a hs
 refine wpIn_seq (wpIn_mono (wpIn_wide.2 (h a hs.sim)) ?_)
 rintro e a' w' ⟨σ',hs',hq⟩
 cases e<;>try exact hq.elim
 exact hq _ (.of hs')
theorem JV {x y:Code}{Q:Nat→xZ}(h:WPZ P n x (fun D=>Wx fun σ w=>WPX none [mkD D] P n y (Q D) σ w) σ w):WPZ P n (.seq x y) Q σ w:=by
 intro a hs
 refine wpIn_seq (wpIn_mono (h a hs) ?_)
 rintro e a' w' ⟨D,σ',hs',hq⟩
 cases e<;>try exact hq.elim
 exact wpIn_mono (hq _ hs') (by rintro e a'' w'' ⟨σ'',h1,h2⟩;exact⟨D,σ'',h1,h2⟩)
theorem QR {c:Code}{id:Nat}{Q:Nat→xZ}(h:WPZ P n c (fun D=>Wx (Q D .normal)) σ w):WPZ P n (.block id c) Q σ w:=by
 intro a hs
 refine wpIn_block (wpIn_mono (h a hs) ?_)
 rintro e a' w' ⟨D,σ',hs',hq⟩
 cases e<;>try exact hq.elim
 exact⟨D,σ',hs',hq⟩
theorem XV {g:Operand}{p:Tmp}{assign body:Code}{gf:FuncId}{lb:List Value}{Q:Nat→xZ}
 (hg:ev σ g=.func (.func gf) #[] lb.toArray) (eg: ∀args w,(callFunc gf args).run P w=.ok (.enter gf args) w)
 (h: ∀fn (tm:Array Value),(tm.size=n∧ ∀i,tm.getD i undef=σ i)→Ret P gf (.func (.yield (w.heap.size+1)) #[] #[]::lb) ((w.alloc (.deferred (some []))).alloc (.loop {state:=.ready,pending:=none,fn,tmps:=tm,params:=#[p],assign,body,defers:=w.heap.size}))
  (fun _ w2=> ∃w3,(Instr.endLoop (w.heap.size+1)).run P w2=.ok none w3∧Q w.heap.size .normal σ w3)):WPZ P n (.rangeFunc g #[p] assign body) Q σ w:=by
 intro a hs
 refine wpIn_rangeFunc ?_
 intro fn hfn
 have hs2:a.tmps.size=n∧ ∀i,a.tmps.getD i undef=σ i:=⟨hs.size,hs.get⟩
 refine⟨w.heap.size+1,[mkD w.heap.size],(w.alloc (.deferred (some []))).alloc (.loop {state:=.ready,pending:=none,fn,tmps:=a.tmps,params:=#[p],assign,body,defers:=w.heap.size}),{target:=.fn (.func gf) lb.toArray,args:=#[.func (.yield (w.heap.size+1)) #[] #[]]},(w.alloc (.deferred (some []))).alloc (.loop {state:=.ready,pending:=none,fn,tmps:=a.tmps,params:=#[p],assign,body,defers:=w.heap.size}),gf,
  #[.func (.yield (w.heap.size+1)) #[] #[]]++lb.toArray,(w.alloc (.deferred (some []))).alloc (.loop {state:=.ready,pending:=none,fn,tmps:=a.tmps,params:=#[p],assign,body,defers:=w.heap.size}),run_enterLoop_outer _ _ _ _ _,?_,fun _ _=>trivial,?_,fun h=>(by cases h),?_⟩
 ·simp only[resolve,hs.eval,hg]
  simp[go_sem]
  rfl
 ·simp[invoke,go_sem,eg]
 ·have h1:=h fn a.tmps hs2
  unfold Ret at h1
  rw[show(Value.func (.yield (w.heap.size+1)) #[] #[]::lb).toArray=#[.func (.yield (w.heap.size+1)) #[] #[]]++lb.toArray by simp]at h1
  refine CallsIn.mono (Uz h1) ?_
  rintro e w2 ⟨v,rfl,w3,h3,h4⟩
  exact⟨none,w3,h3,w.heap.size,σ,⟨hs.size,by simp[hs.defers],hs.get⟩,h4⟩
theorem Uv {f:FuncId}{fn:Func}{c:Code}{args:List Value}{w:World}{R:Value→World→Prop}
 (hf:P.funcs[f]? =some fn) (hb:fn.body=some c) (hn:Nat.ble args.length fn.ntmps=true)
 (h:WPZ P fn.ntmps c (fun D e σ w=>match e with
  | .normal| .ret=> ∃w',(Instr.takeDeferred D).run P w=.ok [] w'∧Yh P fn R .ret σ w'
  |_=>False) (zaT args) w):Ret P f args w R:=by
 have hn':args.length≤fn.ntmps:=Nat.le_of_ble_eq_true hn
 refine callsIn_wide.1 (callsIn_of_wp_marks (n:=0) hf hb trivial (wpIn_mono (h _ ⟨?_,rfl,fun i=>?_⟩) ?_))
 ·simp;omega
 ·simp only[zaT,Array.getD_eq_getD_getElem?,List.getD_eq_getElem?_getD]
  by_cases hi:i<args.length
  ·simp[Array.getElem?_append,hi]
  ·simp only[Array.getElem?_append,List.size_toArray,hi,if_false]
   rw[List.getElem?_eq_none (by omega)]
   simp only[Option.getD_none]
   rw[Array.getElem?_replicate]
   split<;>simp
 ·rintro e a' w' ⟨D,σ',hs',hq⟩
  have key: ∀w',(∃w'',(Instr.takeDeferred D).run P w'=.ok [] w''∧Yh P fn R .ret σ' w'')→LeavesInM Fence.wide 0 P fn a'.tmps (fun e w'=> ∃v,e=.returned v∧R v w') a'.defers .returning w':=by
   rintro w' ⟨w'',h1,v,hr,hR⟩
   rw[hs'.defers]
   exact⟨by simp,.inl ⟨D,w'',rfl,h1,v,hr _ hs'.get,v,rfl,hR⟩⟩
  cases e<;>try exact hq.elim
  case normal=>exact key _ hq
  case ret=>exact key _ hq
def Ye (b:Nat)(o:Obj):HP:=⟨fun w f=>w.heap[b]? =some o∧f b,fun⟨h1,h2⟩ hf=>⟨((hf b h2 (yS h1)).1).trans h1,(hf b h2 (yS h1)).2⟩⟩
def hard:Obj→Bool
 | .cells .. =>false
 |_=>true
variable {G:Nat→Prop}{W w':World}{As:List HP}{o o':Obj}{b:Nat}
theorem Sep.objNew (h:Sep G W As w)(hn:New w w' b o):Sep G W (Ye b o::As) w':=h.push hn.ext (f:=fun i=>i=b) ⟨hn.at_,rfl⟩ (fun i hi=>by have:=hn.eq;omega)
theorem Sep.obj (h:Sep G W As w){i:Nat}(hi:As[i]? =some (Ye b o)):w.heap[b]? =some o:=by
 obtain⟨f,h1,_⟩:=h.get hi;exact h1.1
theorem KB {es:Obj}(hb:w.heap[b]? =some o)(ho:hard o=true):Chg (fun i=>i=b) w (w.putObj b o'):=by
 refine⟨rfl,rfl,rfl,by simp[World.putObj],fun i hi hne=>World.putObj_heap_other hne,?_,Nat.le_refl _⟩
 rintro i ⟨c,T,hc⟩
 have hne:i≠b:=fun e=>by subst e;rw[hb]at hc;cases hc;cases ho
 exact⟨c,T,by rw[World.putObj_heap_other hne];exact hc⟩
theorem Sep.objPut (h:Sep G W As w){i:Nat}(hi:As[i]? =some (Ye b o))(ho:hard o=true):Sep G W (As.set i (Ye b o')) (w.putObj b o'):=
 h.upd hi (fun f hA _=>⟨(KB (es:=o) hA.1 ho).weak (fun j _ hj=>by subst hj;exact hA.2),f,⟨World.putObj_heap_same (yS hA.1),hA.2⟩,fun _ hb=>.inl hb⟩)
theorem Wp (w:World)(o:Obj):New w (w.alloc o) w.heap.size o:=New.mk' w o
end
end
section
open Go.RowKit Go.MapKept
def cA:Code→Code
 | .seq a _=>a
 | .rangeFunc _ _ a _=>a
 |c=>c
def cB:Code→Code
 | .seq _ b=>b
 | .block _ c=>c
 | .rangeFunc _ _ _ b=>b
 |c=>c
def zbO (f:Func):Code:=f.body.getD .skip
section
variable {P:Program}{σ:Env}{w:World}{K:Value→World→Prop}{d:Option Tmp}{ty:TypeId}{pos:String}{af:Array Edge}{g:Option (Nat×Bool)}
variable {G:Nat→Prop}{W:World}{As:List HP}{m it clock:Nat}{es:Array MapEntry}{idx:List Nat}
def Xh (it m:Nat)(es:Array MapEntry)(clock:Nat)(idx:List Nat):HP:=⟨fun w f=>f it∧ ∃seen,w.heap[it]? =some (.mapIter (some m) clock seen clock)∧idx.Nodup∧(∀j∈idx,j<es.size)∧seen.toList=idx.map fun j=>(es.toList[j]?.map (·.born)).getD 0,fun⟨h1,seen,h2,h3⟩ hf=>⟨(hf _ h1 (yS h2)).2,seen,((hf _ h1 (yS h2)).1).trans h2,h3⟩⟩
theorem QD {t kt et:TypeId}{x:Operand}(h:Sep G W As w)(hG:G m)(hm:W.heap[m]? =some (.map es clock))(hU:P.underlying t=some (.map kt et))(hx:ev σ x=.map (some m))
 (hk: ∀w1 it,Sep G W (Xh it m es clock []::As) w1→K (.pointer (some ⟨it,0,none⟩)) w1):opV P ⟨d,.range t x,ty,pos,af,g⟩ σ w K:=by
 have hb:=(h.gb hG).trans hm
 have hn:=New.mk' w (.mapIter (some m) clock #[] clock)
 refine zW (v:=.pointer (some ⟨w.heap.size,0,none⟩)) (w':={w with heap:=w.heap.push (.mapIter (some m) clock #[] clock)}) ?_ (hk _ _ (h.push hn.ext (f:=fun i=>i=w.heap.size) ⟨rfl,#[],hn.at_,List.nodup_nil,by simp,rfl⟩ (fun i hi=>by omega)))
 have:=run_range_map (P:=P) w t kt et m es clock hU hb
 simp[execOp,hx,go_sem]
 rw[this];rfl
theorem Kw {x:Operand}(h:Sep G W (Xh it m es clock idx::As) w)(hG:G m)(hm:W.heap[m]? =some (.map es clock))(hs:Stamped es clock)(hx:ev σ x=.pointer (some ⟨it,0,none⟩))
 (h0:List.Perm idx (List.range es.size)→K (.tuple #[.bool false]) w)
 (h1: ∀w1 j,j<es.size→idx.length<es.size→(idx++[j]).Nodup→Sep G W (Xh it m es clock (idx++[j])::As) w1→ ∀u v,K (.tuple #[.bool true,u,v]) w1):opV P ⟨d,.next x false,ty,pos,af,g⟩ σ w K:=by
 have hb:=(h.gb hG).trans hm
 obtain⟨f0,⟨hf0,seen,hit,hn,hlt,hseen⟩,hfl,hT⟩:=h.take (i:=0) rfl
 have hmi:m≠it:=fun e=>(hfl it hf0).1 (e▸hG)
 rcases run_next_at (P:=P) w ty it m clock clock seen es clock hit hb hs.1 (Nat.le_refl _)with⟨hz,hr⟩|⟨e,hel,w1,hal,hr⟩
 ·refine zW (v:=.tuple #[.bool false]) (w':=w) (by simp[execOp,hx,hr,go_sem]) (h0 (zaj hn hlt fun j hj=>?_))
  have hj':j<es.toList.length:=by simpa using hj
  have h2:=all_seen es seen hz _ (List.getElem_mem hj')
  have h3:(es.toList[j]).born∈seen.toList:=by simpa[Array.contains_iff_mem]using h2
  rw[hseen,List.mem_map]at h3
  obtain⟨i,hi,hbi⟩:=h3
  have hi':i<es.toList.length:=by simpa using hlt i hi
  rw[List.getElem?_eq_getElem hi']at hbi
  have h4:(es.toList[i]).born=(es.toList[j]).born:=hbi
  have h5:=List.pairwise_map.1 hs.2.1
  have:i=j:=by
   rcases Nat.lt_trichotomy i j with h|h|h
   ·exact absurd h4 (List.pairwise_iff_getElem.1 h5 i j hi' hj' h)
   ·exact h
   ·exact absurd h4.symm (List.pairwise_iff_getElem.1 h5 j i hj' hi' h)
  rwa [←this]
 ·obtain⟨hmem,hns⟩:=mem_left hel
  obtain⟨j,hj,rfl⟩:=List.getElem_of_mem hmem
  have hjl:j<es.size:=by simpa using hj
  have hji:j∉idx:=by
   intro h
   have:(es.toList[j]).born∈seen.toList:=by
    rw[hseen,List.mem_map]
    exact⟨j,h,by rw[List.getElem?_eq_getElem hj];rfl⟩
   have h3:seen.contains (es.toList[j]).born=true:=by
    have h4:(es.toList[j]).born∈seen:=by simpa using this
    simpa using h4
   rw[hns]at h3;cases h3
  have hnd:(idx++[j]).Nodup:=by
   rw[List.nodup_append]
   exact⟨hn,by simp,fun a ha b hb=>by simp at hb;subst hb;exact fun e=>hji (e▸ha)⟩
  have hall: ∀i∈idx++[j],i<es.size:=by
   intro i hi
   rcases List.mem_append.1 hi with h|h
   ·exact hlt i h
   ·simp at h;subst h;exact hjl
  have hle:=ZR _ _ hnd hall
  have hw1:w1.heap=w.heap∧w1.os=w.os∧w1.tape=w.tape∧w1.output=w.output∧w.drawn≤w1.drawn:=by
   rcases hal with rfl|rfl
   ·exact⟨rfl,rfl,rfl,rfl,Nat.le_refl _⟩
   ·exact⟨rfl,rfl,rfl,rfl,Nat.le_succ _⟩
  have hlt2:=yS hit
  have hcell: ∀i,i≠it→(ChangeMaps.setBlock w1 it (.mapIter (some m) clock (seen.push (es.toList[j]).born) clock)).heap[i]? =w.heap[i]? :=by
   intro i hne
   show(w1.heap.setIfInBounds it _)[i]? =_
   rw[hw1.1]
   simp[Ne.symm hne]
  have hchg:Chg f0 w (ChangeMaps.setBlock w1 it (.mapIter (some m) clock (seen.push (es.toList[j]).born) clock)):=by
   refine⟨hw1.2.1,hw1.2.2.1,hw1.2.2.2.1,?_,fun i hi hne=>hcell i (fun e=>hne (e▸hf0)),?_,hw1.2.2.2.2⟩
   ·show _≤(w1.heap.setIfInBounds it _).size
    rw[hw1.1];simp
   ·rintro i ⟨c,T,hc⟩
    have hne:i≠it:=fun e=>by subst e;rw[hit]at hc;cases hc
    exact⟨c,T,by rw[hcell i hne];exact hc⟩
  refine zW (v:=.tuple #[.bool true,(es.toList[j]).key,(es.toList[j]).val]) (w':=ChangeMaps.setBlock w1 it (.mapIter (some m) clock (seen.push (es.toList[j]).born) clock)) (by simp[execOp,hx,hr,go_sem]) (h1 _ j hjl (by simp at hle;omega) hnd (hT _ (Xh it m es clock (idx++[j])) f0 hchg ⟨hf0,seen.push (es.toList[j]).born,?_,hnd,hall,?_⟩ (fun _ hb=>.inl hb)) _ _)
  ·show(w1.heap.setIfInBounds it _)[it]? =_
   rw[hw1.1];simp[hlt2]
  ·rw[Array.toList_push,hseen,List.map_append,List.map_cons,List.map_nil,List.getElem?_eq_getElem hj];rfl
theorem QE {x:Operand}{j:Nat}(h:Sep G W (Xh it m es clock (idx++[j])::As) w)(hG:G m)(hm:W.heap[m]? =some (.map es clock))(hs:Stamped es clock)(hx:ev σ x=.pointer (some ⟨it,0,none⟩))(hj:j<es.toList.length){v:Value}(hv:es.toList[j].val=v)
 (hk:K (.tuple #[es.toList[j].key,v]) w):opV P ⟨d,.entry x,ty,pos,af,g⟩ σ w K:=by
 subst hv
 have hb:=(h.gb hG).trans hm
 obtain⟨f0,⟨hf0,seen,hit,hn,hlt,hseen⟩,_⟩:=h.get (i:=0) rfl
 have hsn: ∃seen0:Array Nat,seen=seen0.push (es.toList[j]).born:=by
  refine⟨(idx.map fun j=>(es.toList[j]?.map (·.born)).getD 0).toArray,?_⟩
  apply Array.ext'
  rw[hseen,Array.toList_push,List.map_append,List.map_cons,List.map_nil,List.getElem?_eq_getElem hj];rfl
 obtain⟨seen0,rfl⟩:=hsn
 have hrun:=run_entry_at (P:=P) w it m clock seen0 es clock _ hit hb (List.getElem_mem hj) hs.2.1
 exact zW (v:=.tuple #[es.toList[j].key,es.toList[j].val]) (w':=w) (by simp[execOp,hx,hrun,go_sem]) hk
theorem JC {x y:Operand}{ts:Array TypeId}{l:Nat}{rec:Loop}{v:Value}{p:Tmp}(hx:ev σ x=.func (.yield l) #[] #[])(hy:ev σ y=v)(hl:w.heap[l]? =some (.loop rec))(hp:rec.params=#[p])
 (h:RoundIn (FR none) 0 P l rec.fn ((#[p].zip #[v]).foldl (fun t (p,v)=>t.setIfInBounds p v) rec.tmps) rec.assign rec.body w (fun e w''=> ∃v,e=.returned v∧K v w'')):opX P ⟨d,.call ⟨.value x,#[y],ts⟩,ty,pos,af,g⟩ σ w K:=by
 have hr:=run_yield (P:=P) (args:=#[v]) hl (by simp[hp])
 have:(execOp (ev σ) ⟨d,.call ⟨.value x,#[y],ts⟩,ty,pos,af,g⟩).run P w=.ok (.round l rec.fn ((rec.params.zip #[v]).foldl (fun t (p,v)=>t.setIfInBounds p v) rec.tmps) rec.assign rec.body) w:=by
  simp[execOp,resolve,hx,Deferred.ofValue,invoke,hy,go_sem,hr]
 unfold opX
 rw[this,hp]
 exact h
end
end
section
set_option maxRecDepth 8000
set_option maxHeartbeats 4000000
open Go.Proofs Go.RowKit
section
variable {G:Nat→Prop}{W w:World}{Rs:List HP}
theorem zaw {l bm m clock:Nat}{es:Array MapEntry}{rec:Loop}{p:Tmp}{A:List Nat→HP}(hG:G m)(hm:W.heap[m]? =some (.map es clock))(hs:MapKept.Stamped es clock)(hp:rec.params=#[p])
 (hval: ∀j (hj:j<es.toList.length),∃(x:Ev) (vd:Value),es.toList[j].val=.agg (x.cells vd).toArray∧vd.oneCell'=true)
 (hY: ∀idx j (hj:j<es.toList.length) (v:Value) (Fr:List HP) (w:World),es.toList[j].val=v→idx.length<es.size→(idx++[j]).Nodup→Sep G W (A idx::Ye l (.loop rec)::Fr) w→RoundIn (FR none) 0 Tryz.prog l rec.fn ((#[p].zip #[v]).foldl (fun t (p,v)=>t.setIfInBounds p v) rec.tmps) rec.assign rec.body w (fun e w'=>e=.returned (.bool true)∧Sep G W (A (idx++[j])::Ye l (.loop rec)::Fr) w'))
 (hS0:Sep G W (A []::Ye l (.loop rec)::Blk bm #[.map (some m)] 87::Rs) w):
 Ret Tryz.prog 75 [.func (.yield l) #[] #[],.pointer (some ⟨bm,0,none⟩)] w (fun r w'=> ∃idx,List.Perm idx (List.range es.size)∧Sep G W (A idx::Ye l (.loop rec)::Blk bm #[.map (some m)] 87::Rs) w'):=by
 refine zi (args:=[.func (.yield l) #[] #[],Ix bm 0]) Tryz.func75 rfl rfl ?_
 refine za (R0 fun _=>st (lD (.map (some m)) qT rfl (zb (hS0.b2) rfl) (st (QD hS0 hG hm uT rfl ?_))))
 intro w1 it h
 refine zd (zx (yq (fun mq σ s=> ∃(idx:List Nat) (ρ:Env),mq=es.size-idx.length∧σ=yi ρ [(0,.func (.yield l) #[] #[]),(6,Ix it 0)]∧Sep G W (Xh it m es clock idx::A idx::Ye l (.loop rec)::Blk bm #[.map (some m)] 87::Rs) s) ⟨[],_,rfl,sSf,h⟩ ?_))
 rintro _ _ w2 ⟨idx,ρ,rfl,rfl,b⟩
 refine za (R0 fun _=>st (Kw b hG hm hs rfl ?_ ?_))
 intro hperm
 refine st (zk (vs:=[.bool false]) (i:=0) (v:=.bool false) rfl rfl (zd (za (zg rfl (yr (yg (VZ Tryz.results75 ?_)))))))
 exact⟨idx,hperm,b.sel 4 [1,2,3] (Nat.le_add_left _ _) rfl rfl⟩
 intro w3 j hj hlt hnd c u v
 have hj':j<es.toList.length:=by simpa using hj
 obtain⟨x,vd,hcv,hone⟩:=hval j hj'
 refine st (zk (vs:=[.bool true,u,v]) (i:=0) (v:=.bool true) rfl rfl (zd (za (zh rfl (zl (zx (za (R0 fun _=>st (QE c hG hm hs rfl hj' hcv (st (zk (vs:=[es.toList[j].key,.agg (x.cells vd).toArray]) (i:=1) (v:=.agg (x.cells vd).toArray) rfl rfl (st (zt oT ?_)))))))))))))
 intro w4 b4 n
 have d:=c.new n
 refine stn (zq (v:=.agg (x.cells vd).toArray) (c':=(x.cells vd).toArray) lT rfl rfl (d.b0) (ye ⟨rfl,rfl,rfl,hone,rfl,rfl,rfl,rfl,rfl,rfl,trivial⟩) yqc rfl ?_)
 intro y o
 have f:=d.put (i:=0) rfl o
 refine zd (za (zaD (YR kr (zbj (mV (.func (.yield l) #[] #[]) (zbj (zf (k:=10) mT lT rfl rfl (CellsAt.all (f.b0)) ?_)))))))
 have g:Sep G W (A idx::Ye l (.loop rec)::Blk bm #[.map (some m)] 87::Xh it m es clock (idx++[j])::Rs) y:=f.sel 5 [2,3,4,1] (Nat.le_add_left _ _) rfl rfl
 refine stX (JC (l:=l) (rec:=rec) (p:=p) (v:=.agg (x.cells vd).toArray) rfl rfl (g.obj (i:=1) rfl) hp (RoundIn.mono (hY idx j hj' _ _ _ hcv hlt hnd g) ?_))
 rintro e w6 ⟨rfl,q⟩
 refine⟨_,rfl,?_⟩
 refine zbj (yF (a:=true) rfl (zaK (zg rfl (zl ?_))))
 exact⟨_,by simp;omega,idx++[j],_,rfl,sSf,q.sel 4 [3,0,1,2] (Nat.le_add_left _ _) rfl rfl⟩
end
end
section
set_option maxRecDepth 8000
set_option maxHeartbeats 4000000
open Go.Proofs Go.RowKit
def Zt (f:Func):Code:=cB (cB (cA (cB (cB (zbO f)))))
theorem Qz {G:Nat→Prop}{W w:World}{Fr:List HP}{l b6 bis bo:Nat}{fis:FuncId}{caps:List Value}{p:Ev→Bool}(hfis: ∀args w,(callFunc fis args).run Tryz.prog w=.ok (.enter fis args) w)(hIs: ∀{w:World} {Rs:List HP} {x:Ev} {dx0:Value} (hdx0:RdS W G dx0 x.deps) (ox:x.Ok),Sep G W Rs w→Ret Tryz.prog fis (.agg (x.cells dx0).toArray::caps) w (fun r w'=>r=(.bool (p x):Value)∧Sep G W Rs w')){x:Ev}{vd:Value}(hd:RdS W G vd x.deps)(ok:x.Ok){vo:Value}{M:List Ev}(hML:M.length≤1000000){ρ:Env}{K:Env→World→Prop}(hk: ∀σ' w' vo' M',M'=M++(if p x=true then[x]else[])→Sep G W (Blk bis #[.func (.func fis) #[] caps.toArray] 93::Blk bo #[vo'] 26::RowE (α:=Ev) own 41 vo' M'::Fr) w'→K σ' w')(hS0:Sep G W (Blk b6 (x.cells vd).toArray 41::Blk bis #[.func (.func fis) #[] caps.toArray] 93::Blk bo #[vo] 26::RowE (α:=Ev) own 41 vo M::Fr) w):WPX (some l) [] Tryz.prog 24 (cB (Zt nT)) (Wx K) (yi ρ [(3,.pointer (some ⟨bis,0,none⟩)),(5,.pointer (some ⟨bo,0,none⟩)),(6,.pointer (some ⟨b6,0,none⟩))]) w:=by
 have hds:_*8≤_:=hd.small
 have hr1:=hS0.row (i:=3) rfl
 have hr1s:_*96≤_:=hr1.2
 refine QM ?_
 refine WJ ?_
 refine Zf (by kernel_rfl) (fun _=>?_)
 refine st (xH (v:=.func (.func fis) #[] caps.toArray) Tryz.isAgg93 rfl (zb (hS0.blk (i:=1) rfl) rfl) ?_)
 refine st (zf (k:=10) mT lT rfl rfl (CellsAt.all (hS0.blk (i:=0) rfl)) ?_)
 refine st (zG (f:=fis) (vals:=[.agg (x.cells vd).toArray]) (cap:=caps) (show _=(.func (.func fis) #[] caps.toArray:Value)from rfl) rfl hfis (hIs hd ok hS0) ?_)
 rintro _ w2 ⟨rfl,hS3⟩
 refine zd ?_
 cases hc4:p x
 ·skip
  refine Ur rfl ?_
  refine Jf ?_
  have hS5:Sep G W ((Blk bis #[.func (.func fis) #[] caps.toArray] 93)::(Blk bo #[vo] 26)::(RowE (α:=Ev) own 41 vo M)::Fr) w2:=hS3.sel 4 [1,2,3] (Nat.le_add_left _ _) rfl rfl
  exact hk _ _ _ _ (by simp only[*,Bool.false_eq_true,if_false,List.append_nil]) hS5
 ·skip
  refine UF rfl ?_
  refine QC (WF [fun vals wq=>Sep G W ((Blk b6 (x.cells vd).toArray 41)::(Blk bis #[.func (.func fis) #[] caps.toArray] 93)::(Blk bo #[vo] 26)::(RowE (α:=Ev) own 41 vo M)::Fr) wq,fun vals wq=> ∃(v28:Value),(vals 2=(.agg (x.cells v28).toArray:Value))∧Sep G W ((RowE (α:=Int) own 3 v28 x.deps)::(Blk b6 (x.cells vd).toArray 41)::(Blk bis #[.func (.func fis) #[] caps.toArray] 93)::(Blk bo #[vo] 26)::(RowE (α:=Ev) own 41 vo M)::Fr) wq,fun vals wq=> ∃(v28:Value) (b41:Nat),(vals 2=(.agg (x.cells v28).toArray:Value))∧(vals 3=((.slice (some ⟨b41,0,none⟩) 1 1):Value))∧Sep G W ((Blk b41 (x.cells v28).toArray 41)::(RowE (α:=Int) own 3 v28 x.deps)::(Blk b6 (x.cells vd).toArray 41)::(Blk bis #[.func (.func fis) #[] caps.toArray] 93)::(Blk bo #[vo] 26)::(RowE (α:=Ev) own 41 vo M)::Fr) wq,fun vals wq=> ∃(v28:Value) (b41:Nat) (v54:Value),(vals 2=(.agg (x.cells v28).toArray:Value))∧(vals 3=((.slice (some ⟨b41,0,none⟩) 1 1):Value))∧(vals 4=(v54:Value))∧Sep G W ((RowE (α:=Ev) own 41 v54 (M++[x]))::(Blk b6 (x.cells vd).toArray 41)::(Blk bis #[.func (.func fis) #[] caps.toArray] 93)::(Blk bo #[vo] 26)::Fr) wq,fun vals wq=> ∃(v28:Value) (b41:Nat) (v54:Value),(vals 2=(.agg (x.cells v28).toArray:Value))∧(vals 3=((.slice (some ⟨b41,0,none⟩) 1 1):Value))∧(vals 4=(v54:Value))∧Sep G W ((RowE (α:=Ev) own 41 v54 (M++[x]))::(Blk b6 (x.cells vd).toArray 41)::(Blk bis #[.func (.func fis) #[] caps.toArray] 93)::(Blk bo #[v54] 26)::Fr) wq]) (AF [Vl 0 (vo),Vl 1 (.agg (x.cells vd).toArray),fun _=>True,fun _=>True,fun _=>True,fun _=>True]) [[],[],[1],[1,2],[0,1,2,3],[0,1,2,3,4]] [2,3,4,5] [(0,2),(0,0),(0,0),(1,1),(2,2),(3,3)] (by kernel_rfl) (by kernel_rfl) (by kernel_rfl) rfl (by kernel_rfl) (by kernel_rfl) (fun _ h1 h2 h3 h4 _=>hS3.same h1 h2 h3 h4) ?_ (xb ⟨dA,dA,dT,dT,dT,dT,trivial⟩) ⟨?_,?_,?_,?_,?_,?_,trivial⟩ ?_
  ·intro k vals vals' w hv h
   have e: ∀j∈([2,3,4,5]:List Nat),vals' j=vals j:=hv
   match k,h with
   |0,h=>exact h
   |1,h=>exact(by simpa only[WF,List.getElem?_cons_zero,List.getElem?_cons_succ,e 2 (by decide)]using h)
   |2,h=>exact(by simpa only[WF,List.getElem?_cons_zero,List.getElem?_cons_succ,e 2 (by decide),e 3 (by decide)]using h)
   |3,h=>exact(by simpa only[WF,List.getElem?_cons_zero,List.getElem?_cons_succ,e 2 (by decide),e 3 (by decide),e 4 (by decide)]using h)
   |4,h=>exact(by simpa only[WF,List.getElem?_cons_zero,List.getElem?_cons_succ,e 2 (by decide),e 3 (by decide),e 4 (by decide)]using h)
   |_+5,_=>trivial
  ·intro k71 vals w72 h75 h76 hW74 hA73
   have hkk:=JI h75 h76
   rcases hkk with rfl|rfl|rfl
   ·skip
    have hS77:Sep _ _ _ _:=hW74
    refine obl rfl ?_
    exact xH (v:=vo) rT rfl (zb (hS77.blk (i:=2) rfl) rfl) (fun vals' hv _=>⟨rfl,hv⟩)
   ·skip
    obtain⟨v28,he32,hS78⟩:=hW74
    refine obl rfl ?_
    exact xH (v:=vo) rT rfl (zb (hS78.blk (i:=3) rfl) rfl) (fun vals' hv _=>⟨rfl,hv⟩)
   ·skip
    obtain⟨v28,b41,he32,he44,hS79⟩:=hW74
    refine obl rfl ?_
    exact xH (v:=vo) rT rfl (zb (hS79.blk (i:=4) rfl) rfl) (fun vals' hv _=>⟨rfl,hv⟩)
  ·intro k80 vals w81 h84 h85 hW83 hA82
   obtain rfl:k80=0:=Nat.le_antisymm h85 h84
   have hS86:Sep _ _ _ _:=hW83
   refine obl rfl ?_
   exact zf (k:=10) mT lT rfl rfl (CellsAt.all (hS86.blk (i:=0) rfl)) (fun vals' hv _=>⟨rfl,hv⟩)
  ·intro k20 vals w21 h24 h25 hW23 hA22
   obtain rfl:k20=0:=Nat.le_antisymm h25 h24
   have hS26:Sep _ _ _ _:=hW23
   have e27:=hA22 1 (by decide)
   refine obl rfl ?_
   refine(zG (f:=37) (vals:=[.agg (x.cells vd).toArray]) (cap:=[]) rfl (yK ⟨e27,trivial⟩) nR (Wo (e:=x) hd ok hS26) ?_)
   rintro _ w29 ⟨v28,rfl,hS30⟩
   have hr31:=hS30.row (i:=0) rfl
   have hr31s:_*8≤_:=hr31.2
   intro vals' hv hv'
   refine⟨?_,trivial⟩
   show ∃(v28:Value),(vals' 2=(.agg (x.cells v28).toArray:Value))∧Sep G W ((RowE (α:=Int) own 3 v28 x.deps)::(Blk b6 (x.cells vd).toArray 41)::(Blk bis #[.func (.func fis) #[] caps.toArray] 93)::(Blk bo #[vo] 26)::(RowE (α:=Ev) own 41 vo M)::Fr) w29
   exact⟨v28,hv,hS30⟩
  ·intro k33 vals w34 h37 h38 hW36 hA35
   obtain rfl:k33=1:=Nat.le_antisymm h38 h37
   obtain⟨v28,he32,hS39⟩:=hW36
   refine obl rfl ?_
   refine(zY (k:=10) (parts':=[(0,.agg (x.cells v28).toArray)]) (c:=(x.cells v28).toArray) vT lT oT (by decide) (ZE ⟨rfl,he32,trivial⟩) (by kernel_rfl) ?_)
   intro w42 b41 hn40
   have hS43:=hS39.new hn40
   intro vals' hv hv'
   refine⟨?_,trivial⟩
   show ∃(v28:Value) (b41:Nat),(vals' 2=(.agg (x.cells v28).toArray:Value))∧(vals' 3=((.slice (some ⟨b41,0,none⟩) 1 1):Value))∧Sep G W ((Blk b41 (x.cells v28).toArray 41)::(RowE (α:=Int) own 3 v28 x.deps)::(Blk b6 (x.cells vd).toArray 41)::(Blk bis #[.func (.func fis) #[] caps.toArray] 93)::(Blk bo #[vo] 26)::(RowE (α:=Ev) own 41 vo M)::Fr) w42
   exact⟨v28,b41,(by rw[hv' 2 (by decide)];exact he32),hv,hS43⟩
  ·intro k45 vals w46 h49 h50 hW48 hA47
   obtain rfl:k45=2:=Nat.le_antisymm h50 h49
   obtain⟨v28,b41,he32,he44,hS51⟩:=hW48
   have e52:=hA47 0 (by decide)
   refine obl rfl ?_
   have hbk56:=hS51.blk (i:=0) rfl
   have hS57:Sep G W ((RowE (α:=Ev) own 41 vo M)::(RowE (α:=Int) own 3 v28 x.deps)::(Blk b6 (x.cells vd).toArray 41)::(Blk bis #[.func (.func fis) #[] caps.toArray] 93)::(Blk bo #[vo] 26)::Fr) w46:=hS51.sel 6 [5,1,2,3,4] (Nat.le_add_left _ _) rfl rfl
   refine(xg (src:=own) (bytes:=96) (x1:=x) hS57 zbn e52 he44 hbk56 (fun _ _ hN=>⟨_,rfl,RowE.soft hN,ok⟩) (by first|omega|(simp only[List.length_append,List.length_cons,List.length_nil,List.length_take,List.length_drop];omega)) rfl ?_)
   intro v54 w53 hS55
   have hr58:=hS55.row (i:=0) rfl
   have hr58s:_*96≤_:=hr58.2
   intro vals' hv hv'
   refine⟨?_,trivial⟩
   show ∃(v28:Value) (b41:Nat) (v54:Value),(vals' 2=(.agg (x.cells v28).toArray:Value))∧(vals' 3=((.slice (some ⟨b41,0,none⟩) 1 1):Value))∧(vals' 4=(v54:Value))∧Sep G W ((RowE (α:=Ev) own 41 v54 (M++[x]))::(Blk b6 (x.cells vd).toArray 41)::(Blk bis #[.func (.func fis) #[] caps.toArray] 93)::(Blk bo #[vo] 26)::Fr) w53
   exact⟨v28,b41,v54,(by rw[hv' 2 (by decide)];exact he32),(by rw[hv' 3 (by decide)];exact he44),hv,hS55⟩
  ·intro k60 vals w61 h64 h65 hW63 hA62
   obtain rfl:k60=3:=Nat.le_antisymm h65 h64
   obtain⟨v28,b41,v54,he32,he44,he59,hS66⟩:=hW63
   refine obl rfl ?_
   have hr69:=hS66.row (i:=0) rfl
   have hr69s:_*96≤_:=hr69.2
   refine(yz (v:=v54) (c:=[vo]) (c':=[v54]) oR rfl he59 (hS66.blk (i:=3) rfl) hr69.1.one rfl rfl ?_)
   intro w67 hp68
   have hS70:=hS66.pt3 hp68
   intro vals' hv hv'
   refine⟨?_,trivial⟩
   show ∃(v28:Value) (b41:Nat) (v54:Value),(vals' 2=(.agg (x.cells v28).toArray:Value))∧(vals' 3=((.slice (some ⟨b41,0,none⟩) 1 1):Value))∧(vals' 4=(v54:Value))∧Sep G W ((RowE (α:=Ev) own 41 v54 (M++[x]))::(Blk b6 (x.cells vd).toArray 41)::(Blk bis #[.func (.func fis) #[] caps.toArray] 93)::(Blk bo #[v54] 26)::Fr) w67
   exact⟨v28,b41,v54,(by rw[hv' 2 (by decide)];exact he32),(by rw[hv' 3 (by decide)];exact he44),(by rw[hv' 4 (by decide)];exact he59),hS70⟩
  intro vals w87 hW88 hA89
  obtain⟨v28,b41,v54,he32,he44,he59,hS90⟩:=hW88
  refine zZ (kv:=[(3,.pointer (some ⟨bis,0,none⟩)),(5,.pointer (some ⟨bo,0,none⟩)),(6,.pointer (some ⟨b6,0,none⟩)),(13,.func (.func fis) #[] caps.toArray),(14,.agg (x.cells vd).toArray),(15,.bool true)]) ⟨rfl,rfl,rfl,rfl,rfl,rfl,trivial⟩ (fun ρw87=>?_)
  refine zd ?_
  have hS91:Sep G W ((Blk bis #[.func (.func fis) #[] caps.toArray] 93)::(Blk bo #[v54] 26)::(RowE (α:=Ev) own 41 v54 (M++[x]))::Fr) w87:=hS90.sel 4 [2,3,0] (Nat.le_add_left _ _) rfl rfl
  exact hk _ _ _ _ (by simp only[*,if_true]) hS91
end
section
open Go.Proofs Go.RowKit Go.Sort Go.Shelf
theorem Ks {w w':World}(h:Ext w w'): ∃q os,w'=grow (w.drewN q) os:=by
 obtain⟨hs,ht,hd,ho,hp⟩:=w
 obtain⟨hs',ht',hd',ho',hp'⟩:=w'
 refine⟨hd'-hd,(hs'.toList.drop hs.size).toArray,?_⟩
 have e1:ho'=ho:=h.os
 have e2:ht'=ht:=h.tape
 have e3:hp'=hp:=h.output
 have e4:hd≤hd':=h.drawn
 have e5:hs.size≤hs'.size:=h.size
 have e6: ∀b,b<hs.size→hs'[b]? =hs[b]? :=fun b hb=>h.block b hb (fun h=>h)
 have eh:hs'=hs++(hs'.toList.drop hs.size).toArray:=by
  apply Array.ext_getElem?
  intro i
  rw[Array.getElem?_append]
  split
  ·rename_i hi;exact e6 i hi
  ·rename_i hi
   simp only[List.getElem?_toArray,List.getElem?_drop,Array.getElem?_toList]
   rw[show hs.size+(i-hs.size)=i by omega]
 have ed:hd'=hd+(hd'-hd):=by omega
 subst e1 e2 e3
 simp only[grow,World.drewN]
 rw[←eh,←ed]
theorem KG {P:Program}{α:Type}[Inhabited α]{g k:Nat}{cap:List Value}{enc:α→List Value}{cf:α→α→Int}{blk off size:Nat}{w:World}
 (h: ∀W (x y:α),(∃d:Array α,d.size=size∧ ∃m os,W=sortWorldK enc k w blk off m d os)→Ret P g ([.agg (enc x).toArray,.agg (enc y).toArray]++cap) W (fun r W'=>r=.int .i64 (cf x y)∧Ext W W')):CmpLays P g cap.toArray enc k cf blk off size w:=by
 intro m os dk hs x y
 have:=h _ x y ⟨dk,hs,m,os,rfl⟩
 unfold Ret at this
 have e:([Value.agg (enc x).toArray,Value.agg (enc y).toArray]++cap).toArray=#[.agg (enc x).toArray,.agg (enc y).toArray]++cap.toArray:=by simp
 rw[e]at this
 refine Calls.mono this ?_
 rintro e w' ⟨v,rfl,rfl,hx⟩
 exact⟨rfl,Ks hx⟩
theorem YV {w:World}{b:Nat}{f:Array Value→Array Value}{c:Array Value}{T:TypeId}{fz:Nat×Nat}(h:w.heap[b]? =some (.cells c T fz)):(mapBlock w b f).heap[b]? =some (.cells (f c) T fz):=by
 unfold mapBlock
 simp[Array.getElem?_modify,h,onCells]
theorem ZI {w:World}{b i:Nat}{f:Array Value→Array Value}(h:i≠b):(mapBlock w b f).heap[i]? =w.heap[i]? :=by
 unfold mapBlock
 simp[Array.getElem?_modify,Ne.symm h]
theorem Zh {w:World}{b:Nat}{f:Array Value→Array Value}:(mapBlock w b f).heap.size=w.heap.size:=by
 unfold mapBlock;simp
theorem Xl {α:Type}[Inhabited α]{enc:α→List Value}{k blk off m:Nat}{w:World}{d:Array α}{os:Array Obj}(hb:blk<w.heap.size):Chg (fun i=>i=blk) w (sortWorldK enc k w blk off m d os):=by
 unfold sortWorldK putRowK putRow
 have hs:w.heap.size≤(grow (mapBlock (Sort.ahead w m) blk (putCells id off (flatK enc k d))) os).heap.size:=by
  show _≤(_++os).size
  rw[Array.size_append,Zh]
  exact Nat.le_add_right _ _
 have hg: ∀i,i<w.heap.size→(grow (mapBlock (Sort.ahead w m) blk (putCells id off (flatK enc k d))) os).heap[i]? =(mapBlock (Sort.ahead w m) blk (putCells id off (flatK enc k d))).heap[i]? :=by
  intro i hi
  show(_++os)[i]? =_
  rw[Array.getElem?_append,if_pos (by rw[Zh];exact hi)]
 refine⟨rfl,rfl,rfl,hs,fun i hi hne=>?_,?_,Nat.le_add_right _ _⟩
 ·rw[hg i hi,ZI hne];rfl
 ·rintro i ⟨c,T,hc⟩
  have hi:=(Array.getElem?_eq_some_iff.1 hc).1
  by_cases h:i=blk
  ·subst h
   exact⟨_,T,by rw[hg i hi];exact YV (w:=Sort.ahead w m) hc⟩
  ·exact⟨c,T,by rw[hg i hi,ZI h];exact hc⟩
theorem WZ {α:Type}[Inhabited α]{enc:α→List Value}{k blk off m:Nat}{w:World}{d:Array α}{os:Array Obj}{c:Array Value}{T:TypeId}(hb:w.heap[blk]? =some (.cells c T)):
 (sortWorldK enc k w blk off m d os).heap[blk]? =some (.cells (putCells id off (flatK enc k d) c) T):=by
 unfold sortWorldK putRowK putRow
 have hi:=(Array.getElem?_eq_some_iff.1 hb).1
 show(_++os)[blk]? =_
 rw[Array.getElem?_append,if_pos (by rw[Zh];exact hi)]
 exact YV (w:=Sort.ahead w m) hb
theorem Qp {α:Type}[Rep α]{w:World}{F:Nat→Prop}{enc:α→List Value}: ∀{L:List α},(∀x∈L,Rep.rd w F (enc x) x)→Els w F (L.map enc) L
 |[],_=>trivial
 |x::L,h=>⟨h x (List.mem_cons_self ..),Qp fun y hy=>h y (List.mem_cons_of_mem _ hy)⟩
theorem Us {α:Type}[Rep α][Inhabited α]{P:Program}{ρ:Ren}(L:SlLaysF0.n6 P ρ)(aE: ∀w,(isAgg (ρ.t 24)).run P w=.ok true w)(zE: ∀w,(sizeOf (ρ.t 24)).run P w=.ok (Rep.k α) w)
 {enc:α→List Value} (henc: ∀w F cs (x:α),Rep.rd w F cs x→cs=enc x) (hlen: ∀x,(enc x).length=Rep.k α) (hone: ∀x,∀u∈enc x,u.oneCell'=true) {cf:α→α→Int} (hO:SWO (ltOf cf)) {g:Nat} {cap:List Value} (eg: ∀args w,(callFunc g args).run P w=.ok (.enter g args) w)
 {T:TypeId} {lo:Nat} {w:World} {F:Nat→Prop} {v:Value} {l:List α} (ho:OwnS T lo w F v l)
 (hcmp: ∀W (x y:α),Ret P g ([.agg (enc x).toArray,.agg (enc y).toArray]++cap) W (fun r W'=>r=.int .i64 (cf x y)∧Ext W W'))
 (hre: ∀w' (x:α) (F:Nat→Prop) cs,Rep.rd w F cs x→Rep.rd w' F cs x) (hbs:l.length<4611686018427387904):
 Ret P (ρ.f 6) ([v,.func (.func g) #[] cap.toArray]) w (fun r w'=>r=.tuple #[]∧Chg (fun b=>v.ownBlock=some b) w w'∧ ∃l',l'.Perm l∧l'.Pairwise (fun a b=>ltOf cf b a=false)∧OwnS T lo w' F v l'):=by
 by_cases hne:l=[]
 ·subst hne
  obtain⟨a0,c0,rfl,_,_⟩:=ho.isSl
  have hc:=AnyF.slices_SortFunc_none L a0 c0 (.func (.func g) #[] cap.toArray) w
  unfold Ret
  refine Calls.mono hc ?_
  rintro e w' ⟨he,rfl⟩
  exact⟨.tuple #[],he,rfl,Chg.refl _ _,[],List.Perm.refl _,List.Pairwise.nil,ho⟩
 obtain⟨css,hE,hown⟩:=ho.css
 rcases hown.2 with⟨rfl,h0⟩|⟨gb,capn,cur,rfl,hg,hb,hn,hm,hs,ht⟩
 ·exact absurd (List.length_eq_zero_iff.1 h0) hne
 have hblk:=(Array.getElem?_eq_some_iff.1 hb).1
 have hcs: ∀i (h:i<l.length),CellsAt w gb (i*Rep.k α) (enc l[i])∧Rep.rd w F (enc l[i]) l[i]:=by
  intro i hi
  obtain⟨cs,hr,hc⟩:=hE.at_ i hi
  have e:=henc w F cs _ hr
  subst e
  refine⟨fun j hj=>?_,hr⟩
  have h3:=hc j hj
  rw[←ht,List.getElem?_take]at h3
  split at h3
  ·exact xJ hb (by simpa using h3)
  ·cases h3
 have kpos:0<Rep.k α:=Rep.kpos
 have hH:HoldsK enc (Rep.k α) w gb 0 l.toArray:=by
  intro j hj
  have hj':j<l.length*Rep.k α:=by simpa using hj
  have hd:j/Rep.k α<l.length:=(Nat.div_lt_iff_lt_mul kpos).2 hj'
  have hm':j%Rep.k α<(enc l[j/Rep.k α]).length:=by rw[hlen];exact Nat.mod_lt _ kpos
  have h1:=(hcs (j/Rep.k α) hd).1 (j%Rep.k α) hm'
  refine⟨?_,by simp[World.frozen?,hb]⟩
  rw[get_flatK _ _ _ _ (by simpa using hj'),Nat.zero_add]
  rw[show j/Rep.k α*Rep.k α+j%Rep.k α=j by rw[Nat.mul_comm];exact Nat.div_add_mod j (Rep.k α)]at h1
  rw[h1]
  have e1:l.toArray[j/Rep.k α]! =l[j/Rep.k α]:=by rw[getElem!_pos l.toArray (j/Rep.k α) (by simpa using hd)];simp
  have e2:(enc l[j/Rep.k α])[j%Rep.k α]! =(enc l[j/Rep.k α])[j%Rep.k α]:=getElem!_pos (enc l[j/Rep.k α]) (j%Rep.k α) hm'
  rw[e1,e2];rfl
 have hc:=AnyQ.slices_SortFunc L (Rep.k α) aE zE enc hlen hone cf hO g cap.toArray gb 0 capn l.toArray w eg (KG fun W x y _=>hcmp W x y) hH hblk (by simpa using hbs)
 have ea:([Value.slice (some ⟨gb,0,none⟩) l.length capn,.func (.func g) #[] cap.toArray]).toArray=#[Value.slice (some ⟨gb,0,none⟩) l.toArray.size capn,.func (.func g) #[] cap.toArray]:=by simp
 unfold Ret
 rw[ea]
 refine Calls.mono hc ?_
 rintro e w' ⟨he,d',n,os,hp,hsd,hw⟩
 refine⟨.tuple #[],he,rfl,?_,d'.toList,?_,?_,?_⟩
 ·have hgo:(fun b=>(Value.slice (some ⟨gb,0,none⟩) l.length capn).ownBlock=some b)=fun b=>b=gb:=by funext b;simp[Value.ownBlock,eq_comm]
  rw[hgo,hw];exact Xl hblk
 ·have h2:=hp.2.2
  have hsz:d'.size=l.length:=by simpa using hp.1
  simp at h2
  rwa [List.take_of_length_le (by simp[hsz])]at h2
 ·rw[List.pairwise_iff_getElem]
  intro i j hi hj hij
  have hsz:d'.size=l.length:=by simpa using hp.1
  have hi':i<d'.size:=by simpa using hi
  have hj':j<d'.size:=by simpa using hj
  have:=hsd i j (Nat.zero_le _) hij (by simpa[hsz]using hj')
  rw[getElem!_pos d' j hj',getElem!_pos d' i hi']at this
  simpa using this
 ·have hsz:d'.size=l.length:=by simpa using hp.1
  have hperm:d'.toList.Perm l:=by
   have h2:=hp.2.2
   simp at h2
   rwa [List.take_of_length_le (by simp[hsz])]at h2
  have hrd: ∀x∈d'.toList,Rep.rd w' F (enc x) x:=by
   intro x hx
   obtain⟨i,hi,rfl⟩:=List.getElem_of_mem (hperm.subset hx)
   exact hre w' _ F _ (hcs i hi).2
  have hE':Els w' F (d'.toList.map enc) d'.toList:=Qp hrd
  have hfl:=hE'.flat
  have hlen':d'.toList.length=l.length:=by simpa using hsz
  have hcur:(putCells id 0 (flatK enc (Rep.k α) d') cur).size=cur.size:=by simp[putCells]
  have hchg:Chg (fun i=>i=gb) w w':=by rw[hw];exact Xl hblk
  have hle:l.length*Rep.k α≤cur.size:=by rw[hs];exact Nat.mul_le_mul_right _ hn
  refine⟨⟨_,hE',by rw[hfl],.inr ⟨gb,capn,_,by rw[hlen'],hg,by rw[hw];exact WZ hb,by rw[hlen'];exact hn,hm,by rw[hcur];exact hs,?_⟩⟩,ho.apart,fun b hb'=>⟨Nat.lt_of_lt_of_le (ho.bound b hb').1 hchg.size,fun hl=>hchg.soft b ((ho.bound b hb').2 hl)⟩,by rw[hlen'];exact ho.small⟩
  refine List.ext_getElem? fun j=>?_
  rw[hlen',List.getElem?_take]
  split
  ·rename_i hj
   have hd:j/Rep.k α<d'.toList.length:=by rw[hlen'];exact(Nat.div_lt_iff_lt_mul kpos).2 hj
   obtain⟨cs,hr,hc⟩:=hE'.at_ (j/Rep.k α) hd
   have e:=henc w' F cs _ hr
   subst e
   have hm':j%Rep.k α<(enc (d'.toList[j/Rep.k α])).length:=by rw[hlen];exact Nat.mod_lt _ kpos
   have h1:=hc (j%Rep.k α) hm'
   rw[show j/Rep.k α*Rep.k α+j%Rep.k α=j by rw[Nat.mul_comm];exact Nat.div_add_mod j (Rep.k α)]at h1
   rw[h1]
   have hjc:j<cur.size:=by omega
   have hjk:j<d'.size*Rep.k α:=by rw[hsz];exact hj
   have hd2:j/Rep.k α<d'.size:=by simpa using hd
   rw[Array.getElem?_toList,Array.getElem?_eq_getElem (by rw[hcur];exact hjc)]
   simp only[putCells,Array.getElem_mapIdx,Nat.zero_le,true_and,Nat.zero_add,size_flatK,hjk,if_true,Nat.sub_zero,id]
   have e1:d'[j/Rep.k α]! =d'[j/Rep.k α]:=getElem!_pos d' (j/Rep.k α) hd2
   have e0:d'.toList[j/Rep.k α]=d'[j/Rep.k α]:=by simp
   rw[e0]at hm'
   have e2:(enc d'[j/Rep.k α])[j%Rep.k α]! =(enc d'[j/Rep.k α])[j%Rep.k α]:=getElem!_pos (enc d'[j/Rep.k α]) (j%Rep.k α) hm'
   rw[get_flatK _ _ _ _ hjk,e1,e2]
   simp
  ·rename_i hj
   rw[List.getElem?_eq_none (by rw[hfl,hlen'];omega)]
end
section
open Go.Proofs Go.Shelf
def Vy:Go.Shelf.Ren:=⟨fun|6=>58|15=>77|14=>76|28=>97|29=>98|20=>89|21=>90|22=>91|23=>92|24=>93|25=>94|26=>95|27=>96|46=>105|47=>106|48=>107|49=>108|50=>109|57=>111|n=>n,fun|22=>26|24=>41|25=>129|3=>3|39=>143|0=>0|53=>162|55=>164|4=>4|46=>156|45=>155|50=>147|5=>5|9=>9|66=>168|70=>172|76=>174|77=>175|n=>n,fun|n=>n⟩
theorem zav:Go.Proofs.SlLaysF0.n6 Tryz.prog Vy:={
 mixed:=by kernel_rfl,
 f6:=⟨Tryz.f58.name,by decide,Tryz.func58.trans (congrArg some (by kernel_rfl))⟩,
 f14:=⟨Tryz.f76.name,by decide,Tryz.func76.trans (congrArg some (by kernel_rfl))⟩,
 f15:=Tryz.func77.trans (congrArg some (by kernel_rfl)),
 f20:=⟨Tryz.f89.name,by decide,Tryz.func89.trans (congrArg some (by kernel_rfl))⟩,
 f21:=⟨Tryz.f90.name,by decide,Tryz.func90.trans (congrArg some (by kernel_rfl))⟩,
 f22:=⟨Tryz.f91.name,by decide,Tryz.func91.trans (congrArg some (by kernel_rfl))⟩,
 f23:=⟨Tryz.f92.name,by decide,Tryz.func92.trans (congrArg some (by kernel_rfl))⟩,
 f24:=⟨Tryz.f93.name,by decide,Tryz.func93.trans (congrArg some (by kernel_rfl))⟩,
 f25:=⟨Tryz.f94.name,by decide,Tryz.func94.trans (congrArg some (by kernel_rfl))⟩,
 f26:=⟨Tryz.f95.name,by decide,Tryz.func95.trans (congrArg some (by kernel_rfl))⟩,
 f27:=⟨Tryz.f96.name,by decide,Tryz.func96.trans (congrArg some (by kernel_rfl))⟩,
 f28:=Tryz.func97.trans (congrArg some (by kernel_rfl)),
 f29:=Tryz.func98.trans (congrArg some (by kernel_rfl)),
 f46:=⟨Tryz.f105.name,by decide,Tryz.func105.trans (congrArg some (by kernel_rfl))⟩,
 f47:=Tryz.func106.trans (congrArg some (by kernel_rfl)),
 f48:=Tryz.func107.trans (congrArg some (by kernel_rfl)),
 f49:=⟨Tryz.f108.name,by decide,Tryz.func108.trans (congrArg some (by kernel_rfl))⟩,
 f50:=⟨Tryz.f109.name,by decide,Tryz.func109.trans (congrArg some (by kernel_rfl))⟩,
 f57:=⟨Tryz.f111.name,by decide,Tryz.func111.trans (congrArg some (by kernel_rfl))⟩,
 t0:=Tryz.underlying0,
 a0:=Tryz.isAgg0,
 z0:=Tryz.sizeOf0,
 v0:=Tryz.zeroValue0,
 t3:=Tryz.underlying3,
 a3:=kT,
 z3:=pT,
 v3:=pR,
 t4:=Tryz.underlying4,
 a4:=Tryz.isAgg4,
 z4:=Tryz.sizeOf4,
 v4:=Tryz.zeroValue4,
 t5:=Tryz.underlying5,
 a5:=Tryz.isAgg5,
 z5:=Tryz.sizeOf5,
 v5:=Tryz.zeroValue5,
 t9:=Tryz.underlying9,
 a9:=Tryz.isAgg9,
 z9:=Tryz.sizeOf9,
 v9:=Tryz.zeroValue9,
 t22:=vT,
 a22:=rT,
 z22:=oR,
 v22:=qR,
 t25:=Tryz.underlying129,
 a25:=Tryz.isAgg129,
 z25:=Tryz.sizeOf129,
 v25:=Tryz.zeroValue129,
 t39:=Tryz.underlying143,
 a39:=Tryz.isAgg143,
 z39:=Tryz.sizeOf143,
 v39:=Tryz.zeroValue143,
 t45:=Tryz.underlying155,
 a45:=Tryz.isAgg155,
 z45:=Tryz.sizeOf155,
 v45:=Tryz.zeroValue155,
 t46:=Tryz.underlying156,
 a46:=Tryz.isAgg156,
 z46:=Tryz.sizeOf156,
 v46:=Tryz.zeroValue156,
 t50:=Tryz.underlying147,
 a50:=Tryz.isAgg147,
 z50:=Tryz.sizeOf147,
 v50:=Tryz.zeroValue147,
 t53:=Tryz.underlying162,
 a53:=Tryz.isAgg162,
 z53:=Tryz.sizeOf162,
 v53:=Tryz.zeroValue162,
 t55:=Tryz.underlying164,
 a55:=Tryz.isAgg164,
 z55:=Tryz.sizeOf164,
 v55:=Tryz.zeroValue164,
 t66:=Tryz.underlying168,
 a66:=Tryz.isAgg168,
 z66:=Tryz.sizeOf168,
 v66:=Tryz.zeroValue168,
 t70:=Tryz.underlying172,
 a70:=Tryz.isAgg172,
 z70:=Tryz.sizeOf172,
 v70:=Tryz.zeroValue172,
 t76:=Tryz.underlying174,
 a76:=Tryz.isAgg174,
 z76:=Tryz.sizeOf174,
 v76:=Tryz.zeroValue174,
 t77:=Tryz.underlying175,
 a77:=Tryz.isAgg175,
 z77:=Tryz.sizeOf175,
 v77:=Tryz.zeroValue175
}
end
section
set_option maxRecDepth 8000
set_option maxHeartbeats 4000000
open Go.Proofs Go.RowKit Go.Sort Go.Shelf
theorem Vp {G:Nat→Prop}{W w:World}{Rs:List HP}{a:Ev}{da:Value}{b:Ev}{db:Value}(hS0:Sep G W Rs w):Ret Tryz.prog 59 [.agg (a.cells da).toArray,.agg (b.cells db).toArray] w (fun r w'=>r=(.int .i64 ((ZM a b)):Value)∧Sep G W Rs w'):=by
 refine zi (args:=[.agg (a.cells da).toArray,.agg (b.cells db).toArray]) Tryz.func59 rfl rfl ?_
 refine za (R0 fun _=>st (zN (v:=.agg (a.cells da).toArray) rfl ?_))
 intro w3 b2 aQ
 refine st (zN (v:=.agg (b.cells db).toArray) rfl ?_)
 intro w7 C aR
 refine st (aS (Iv 0) (zd (za ?_)))
 refine WD4 ((fun TT q=>WF [fun vals n=>Sep G W (q::TT) n,fun vals n=>(vals 4=(Iv ((yA a.lam b.lam)):Value))∧Sep G W (q::TT) n,fun vals n=>(vals 4=(Iv ((yA a.lam b.lam)):Value))∧(vals 11=(Iv ((yA a.origin b.origin)):Value))∧Sep G W (q::TT) n,fun vals n=>(vals 4=(Iv ((yA a.lam b.lam)):Value))∧(vals 11=(Iv ((yA a.origin b.origin)):Value))∧(vals 18=(Iv ((yA a.seq b.seq)):Value))∧Sep G W (q::TT) n,fun vals n=> ∃(e:Nat),(vals 4=(Iv ((yA a.lam b.lam)):Value))∧(vals 11=(Iv ((yA a.origin b.origin)):Value))∧(vals 18=(Iv ((yA a.seq b.seq)):Value))∧(vals 19=((Iy e 3 3):Value))∧Sep G W ((Blk e #[Iv ((yA a.lam b.lam)),Iv ((yA a.origin b.origin)),Iv ((yA a.seq b.seq))] 3)::q::TT) n,fun vals n=> ∃(e:Nat),(vals 4=(Iv ((yA a.lam b.lam)):Value))∧(vals 11=(Iv ((yA a.origin b.origin)):Value))∧(vals 18=(Iv ((yA a.seq b.seq)):Value))∧(vals 19=((Iy e 3 3):Value))∧(vals 20=(Iv ((orL [(yA a.lam b.lam),(yA a.origin b.origin),(yA a.seq b.seq)])):Value))∧Sep G W ((RowE (α:=Int) own 3 (Iy e 3 3) [(yA a.lam b.lam),(yA a.origin b.origin),(yA a.seq b.seq)])::q::TT) n]) ((Blk b2 (a.cells da).toArray 41)::Rs) (Blk C (b.cells db).toArray 41)) (AF [Vl 0 (Ix b2 2),Vl 1 (Iv (a.lam)),Vl 2 (Ix C 2),Vl 3 (Iv (b.lam)),fun _=>True,Vl 5 (Ix b2 0),Vl 6 (Ix b2 0),Vl 7 (Iv (a.origin)),Vl 8 (Ix C 0),Vl 9 (Ix C 0),Vl 10 (Iv (b.origin)),fun _=>True,Vl 12 (Ix b2 0),Vl 13 (Ix b2 1),Vl 14 (Iv (a.seq)),Vl 15 (Ix C 0),Vl 16 (Ix C 1),Vl 17 (Iv (b.seq)),fun _=>True,fun _=>True,fun _=>True,Vl 21 (Iv ((orL [(yA a.lam b.lam),(yA a.origin b.origin),(yA a.seq b.seq)])))]) [[],[0],[],[2],(rg 4),[],[5],[5,6],[],[8],[8,9],(rg 11),[],[12],[12,13],[],[15],[15,16],(rg 18),(rg 19),(rg 20),(rg 21)] [4,11,18,19,20] [(0,0),(0,0),(0,0),(0,0),(0,0),(0,1),(0,1),(0,1),(0,1),(0,1),(0,1),(1,1),(0,2),(0,2),(0,2),(0,2),(0,2),(0,2),(2,2),(3,3),(4,4),(5,5)] ((hS0.new aQ).new aR) ⟨fun _ _ _ _ _ _ _=>obl rfl (Zi rfl dR),ob1 0 fun _ _ (N:Sep _ _ _ _) O=>obl rfl (lD (Iv (a.lam)) kT (O 0 dc) (zb (N.b1) rfl) dR),fun _ _ _ _ _ _ _=>obl rfl (Zi rfl dR),ob1 0 fun _ _ (P:Sep _ _ _ _) Q=>obl rfl (lD (Iv (b.lam)) kT (Q 2 dc) (zb (P.b0) rfl) dR),?_,fun _ _ _ _ _ _ _=>obl rfl (yD rfl dR),fun _ _ _ _ _ _ R=>obl rfl (xD (R 5 dc) dR),?_,fun _ _ _ _ _ _ _=>obl rfl (yD rfl dR),fun _ _ _ _ _ _ S=>obl rfl (xD (S 8 dc) dR),?_,?_,fun _ _ _ _ _ _ _=>obl rfl (yD rfl dR),fun _ _ _ _ _ _ T=>obl rfl (Zz (T 12 dc) dR),?_,fun _ _ _ _ _ _ _=>obl rfl (yD rfl dR),fun _ _ _ _ _ _ U=>obl rfl (Zz (U 15 dc) dR),?_,?_,?_,?_,?_,trivial⟩ ?_
 refine ob1 0 fun vals _ (aB:Sep _ _ _ _) L=>(obl rfl ((zG (f:=79) (vals:=[Iv (a.lam),Iv (b.lam)]) (cap:=[]) rfl (yK ⟨(L 1 dc),(L 3 dc),trivial⟩) mR (UC aB) ?_)))
 rintro _ w46 ⟨rfl,aC⟩
 exact fun j s h=>⟨(zv s aC),trivial⟩
 refine fun t _ _ aD aE D E=>?_
 have hkk:=xA aD aE
 rcases hkk with rfl|rfl
 have V:Sep _ _ _ _:=D
 exact obl rfl (lD (Iv (a.origin)) kT (E 6 dc) (zb (V.b1) rfl) dR)
 obtain⟨d,X⟩:=D
 exact obl rfl (lD (Iv (a.origin)) kT (E 6 dc) (zb (X.b1) rfl) dR)
 refine fun u _ _ aH aI F H=>?_
 have hkk:=xA aH aI
 rcases hkk with rfl|rfl
 have Y:Sep _ _ _ _:=F
 exact obl rfl (lD (Iv (b.origin)) kT (H 9 dc) (zb (Y.b0) rfl) dR)
 obtain⟨d,Z⟩:=F
 exact obl rfl (lD (Iv (b.origin)) kT (H 9 dc) (zb (Z.b0) rfl) dR)
 refine ob1 1 fun vals _ aJ M=>?_
 obtain⟨d,aK⟩:=aJ
 refine obl rfl ((zG (f:=79) (vals:=[Iv (a.origin),Iv (b.origin)]) (cap:=[]) rfl (yK ⟨(M 7 dc),(M 10 dc),trivial⟩) mR (UC aK) ?_))
 rintro _ w100 ⟨rfl,aa⟩
 exact fun j s h=>⟨(zv ((h 4 dc).trans d) (zv s aa)),trivial⟩
 refine fun o _ _ aL aM x y=>?_
 have hkk:=JI aL aM
 rcases hkk with rfl|rfl|rfl
 have ab:Sep _ _ _ _:=x
 exact obl rfl (lD (Iv (a.seq)) kT (y 13 dc) (zb (ab.b1) rfl) dR)
 obtain⟨d,ac⟩:=x
 exact obl rfl (lD (Iv (a.seq)) kT (y 13 dc) (zb (ac.b1) rfl) dR)
 obtain⟨d,g,ad⟩:=x
 exact obl rfl (lD (Iv (a.seq)) kT (y 13 dc) (zb (ad.b1) rfl) dR)
 refine fun p _ _ aN aO z A=>?_
 have hkk:=JI aN aO
 rcases hkk with rfl|rfl|rfl
 have ae:Sep _ _ _ _:=z
 exact obl rfl (lD (Iv (b.seq)) kT (A 16 dc) (zb (ae.b0) rfl) dR)
 obtain⟨d,af⟩:=z
 exact obl rfl (lD (Iv (b.seq)) kT (A 16 dc) (zb (af.b0) rfl) dR)
 obtain⟨d,g,ag⟩:=z
 exact obl rfl (lD (Iv (b.seq)) kT (A 16 dc) (zb (ag.b0) rfl) dR)
 refine ob1 2 fun vals _ ah I=>?_
 obtain⟨d,g,ai⟩:=ah
 refine obl rfl ((zG (f:=79) (vals:=[Iv (a.seq),Iv (b.seq)]) (cap:=[]) rfl (yK ⟨(I 14 dc),(I 17 dc),trivial⟩) mR (UC ai) ?_))
 rintro _ w154 ⟨rfl,aj⟩
 exact fun j s h=>⟨(zv ((h 4 dc).trans d) (zv ((h 11 dc).trans g) (zv s aj))),trivial⟩
 refine ob1 3 fun _ _ ak _=>?_
 obtain⟨d,g,i,al⟩:=ak
 refine obl rfl ((zY (k:=1) (parts':=[(0,Iv ((yA a.lam b.lam))),(1,Iv ((yA a.origin b.origin))),(2,Iv ((yA a.seq b.seq)))]) (c:=#[Iv ((yA a.lam b.lam)),Iv ((yA a.origin b.origin)),Iv ((yA a.seq b.seq))]) sT pT pR dc (ZE ⟨rfl,d,rfl,g,rfl,i,trivial⟩) kr ?_))
 intro w166 e am
 exact fun j s h=>⟨(exiA e (zv ((h 4 dc).trans d) (zv ((h 11 dc).trans g) (zv ((h 18 dc).trans i) (zv s (al.new am)))))),trivial⟩
 refine ob1 4 fun vals _ an _=>?_
 obtain⟨e,d,g,i,m,ao⟩:=an
 refine obl rfl ?_
 have J:Sep _ _ ((RowE (α:=Int) own 3 (Iy e 3 3) [(yA a.lam b.lam),(yA a.origin b.origin),(yA a.seq b.seq)])::_) _:=Sep.blkRow (src:=own) (l:=[(yA a.lam b.lam),(yA a.origin b.origin),(yA a.seq b.seq)]) (css:=[[Iv ((yA a.lam b.lam))],[Iv ((yA a.origin b.origin))],[Iv ((yA a.seq b.seq))]]) ao rfl ⟨fun _ _=>⟨rfl,(Vk a.lam b.lam)⟩,fun _ _=>⟨rfl,(Vk a.origin b.origin)⟩,fun _ _=>⟨rfl,(Vk a.seq b.seq)⟩,trivial⟩ yqa (show 3≤maxLen by decide)
 have ap:=J.r0
 have hr177s:_*8≤_:=ap.2
 obtain⟨G178,aq,hB181,ar,au⟩:=J.lend
 have B:=RowE.rd aq
 have hrd184s:_*8≤_:=B.small
 refine(zG (f:=78) (vals:=[(Iy e 3 3)]) (cap:=[]) rfl (yK ⟨m,trivial⟩) Tryz.call78 (Da_or (l:=[(yA a.lam b.lam),(yA a.origin b.origin),(yA a.seq b.seq)]) (vl:=(Iy e 3 3)) B ar) ?_)
 rintro _ w185 ⟨rfl,av⟩
 have aw:=au _ _ av
 exact fun j s h=>⟨(exiA e (zv ((h 4 dc).trans d) (zv ((h 11 dc).trans g) (zv ((h 18 dc).trans i) (zv ((h 19 dc).trans m) (zv s aw)))))),trivial⟩
 refine ob1 5 fun _ _ ax _=>?_
 obtain⟨e,d,g,i,m,K,hS326⟩:=ax
 exact obl rfl (ya (v:=Iv ((orL [(yA a.lam b.lam),(yA a.origin b.origin),(yA a.seq b.seq)]))) K dR)
 intro vals w327 ay az
 obtain⟨e,d,g,i,m,K,aA⟩:=ay
 have aP:=az 21 dc
 refine zZ (kv:=[(0,.agg (a.cells da).toArray),(1,.agg (b.cells db).toArray),(2,Ix b2 0),(3,Ix C 0),(4,Iv ((orL [(yA a.lam b.lam),(yA a.origin b.origin),(yA a.seq b.seq)])))]) ⟨rfl,rfl,rfl,rfl,(by exact aP),trivial⟩ (fun ρw327=>(zd (zj (zK Tryz.results59 (show _=(Iv ((orL [(yA a.lam b.lam),(yA a.origin b.origin),(yA a.seq b.seq)])):Value)from rfl) ?_))))
 refine⟨rfl,(aA.s3_)⟩
theorem JA {W:World}{a b:Ev}{da db:Value}:Ret Tryz.prog 59 [.agg (a.cells da).toArray,.agg (b.cells db).toArray] W (fun r W'=>r=.int .i64 (ZM a b)∧Ext W W'):=
 Ret.mono (Vp (Sep.start W)) (fun v w' ⟨h1,h2⟩=>⟨h1,h2.fin⟩)
abbrev EvP:=Ev×{v:Value//v.oneCell'=true}
instance:Inhabited EvP:=⟨(default,⟨.slice none 0 0,rfl⟩)⟩
def EvP.cells (s:EvP):List Value:=s.1.cells s.2.1
instance:Rep EvP where
 k:=10
 rd _ _ cs s:=cs=s.cells
 bytes:=96
 bpos:=by decide
 kpos:=by decide
 len h:=by rw[h];rfl
 one h:=by rw[h];rename_i s;exact ye ⟨rfl,rfl,rfl,s.2.2,rfl,rfl,rfl,rfl,rfl,rfl,trivial⟩
 mono h _:=h
theorem Wm {w:World}{F:Nat→Prop}: ∀{css:List (List Value)} {l:List Ev},Els w F css l→ ∃ls:List EvP,ls.map (·.1)=l∧Els w F css ls∧ ∀s∈ls,RdS w F s.2.1 s.1.deps∧s.1.Ok
 |[],[],_=>⟨[],rfl,trivial,fun _ h=>by cases h⟩
 |cs::css,x::l,h=>by
  obtain⟨⟨d,e,h1,h2⟩,h3⟩:=h
  obtain⟨ls,h4,h5,h6⟩:=Wm h3
  refine⟨(x,⟨d,h1.sl.one⟩)::ls,by simp[h4],⟨e,h5⟩,fun s hs=>?_⟩
  rcases List.mem_cons.1 hs with rfl|hs
  ·exact⟨h1,h2⟩
  ·exact h6 s hs
 |[],_::_,h=>h.elim
 |_::_,[],h=>h.elim
theorem VB {w:World}{F:Nat→Prop}: ∀{css:List (List Value)} {ls:List EvP},Els w F css ls→(∀s∈ls,RdS w F s.2.1 s.1.deps∧s.1.Ok)→Els w F css (ls.map (·.1))
 |[],[],_,_=>trivial
 |cs::css,s::ls,h,hs=>by
  obtain⟨h1,h2⟩:=h
  have h3:=hs s (List.mem_cons_self ..)
  exact⟨⟨_,h1,h3.1,h3.2⟩,VB h2 (fun s hs'=>hs s (List.mem_cons_of_mem _ hs'))⟩
 |[],_::_,h,_=>h.elim
 |_::_,[],h,_=>h.elim
theorem xz {a b:Ev}:ZM a b<0↔a.lam<b.lam∨a.lam=b.lam∧(a.origin<b.origin∨a.origin=b.origin∧a.seq<b.seq):=by
 unfold ZM orL orL orL orL yA
 by_cases h1:a.lam<b.lam<;>by_cases h2:b.lam<a.lam<;>by_cases h3:a.origin<b.origin<;>by_cases h4:b.origin<a.origin<;>by_cases h5:a.seq<b.seq<;>by_cases h6:b.seq<a.seq<;>simp only[h1,h2,h3,h4,h5,h6,if_true,if_false]<;>simp<;>omega
theorem KY:SWO (ltOf fun a b:EvP=>ZM a.1 b.1):=by
 refine⟨fun x=>?_,fun x y z h1 h2=>?_,fun x y z h1 h2=>?_⟩
 ·simp only[ltOf,decide_eq_false_iff_not,xz];omega
 ·simp only[ltOf,decide_eq_true_eq,xz]at*;omega
 ·simp only[ltOf,decide_eq_false_iff_not,xz]at*;omega
theorem QP {G:Nat→Prop}{W w:World}{Rs:List HP}{v:Value}{l:List Ev}(hl:l.length<4611686018427387904)(hS:Sep G W (RowE (α:=Ev) own 41 v l::Rs) w):
 Ret Tryz.prog 58 [v,.func (.func 59) #[] #[]] w (fun r w'=> ∃l':List Ev,r=(.tuple #[]:Value)∧l'.Perm l∧l'.Pairwise (fun a b=> ¬ZM b a<0)∧Sep G W (RowE (α:=Ev) own 41 v l'::Rs) w'):=by
 obtain⟨f,hA,hfl,hT⟩:=hS.take (i:=0) rfl
 have ho:=RowE.toOwn hA
 obtain⟨⟨css,hE,hown⟩,ha,hB,hs⟩:=ho
 obtain⟨ls,rfl,hE2,hrd⟩:=Wm hE
 have ho2:OwnS 41 0 w (fun b=>(f b∧v.ownBlock≠some b)∧Soft w b) v ls:=⟨⟨css,hE2,by rw[List.length_map]at hown;exact hown⟩,ha,hB,by rw[List.length_map]at hs;exact hs⟩
 refine Ret.mono (Us (α:=EvP) (enc:=EvP.cells) zav mT lT (fun _ _ _ _ h=>h) (fun _=>rfl) (fun s=>ye ⟨rfl,rfl,rfl,s.2.2,rfl,rfl,rfl,rfl,rfl,rfl,trivial⟩) KY (cap:=[]) Tryz.call59 ho2 (fun _ _ _=>JA) (fun _ _ _ _ h=>h) (by simpa using hl)) ?_
 rintro r w' ⟨rfl,hc,ls',hp,hso,ho3⟩
 refine⟨ls'.map (·.1),rfl,hp.map _,?_,?_⟩
 ·rw[List.pairwise_map]
  refine hso.imp fun{a b} h=>?_
  simpa[ltOf]using h
 ·obtain⟨⟨css',hE',hown'⟩,ha',hB',hs'⟩:=ho3
  have hF: ∀b,((f b∧v.ownBlock≠some b)∧Soft w b)→b<w.heap.size→w'.heap[b]? =w.heap[b]? ∧((f b∧v.ownBlock≠some b)∧Soft w b):=fun b hb hlt=>⟨hc.block b hlt hb.1.2,hb⟩
  have hr': ∀s∈ls',RdS w' (fun b=>(f b∧v.ownBlock≠some b)∧Soft w b) s.2.1 s.1.deps∧s.1.Ok:=fun s hs=>⟨(hrd s (hp.subset hs)).1.mono hF,(hrd s (hp.subset hs)).2⟩
  have ho4:OwnS (α:=Ev) 41 0 w' (fun b=>(f b∧v.ownBlock≠some b)∧Soft w b) v (ls'.map (·.1)):=⟨⟨css',VB hE' hr',by rw[List.length_map];exact hown'⟩,ha',hB',by rw[List.length_map];exact hs'⟩
  have hvf: ∀b,v.ownBlock=some b→f b:=by
   obtain⟨_,_,_,h3,_⟩:=hA
   exact h3
  exact hT w' _ f (hc.weak fun b _ hb=>hvf b hb) (RowE.ofOwn ho4 (fun b hb=>⟨hb.1.1,hc.soft b hb.2⟩) hvf) (fun _ hb=>.inl hb)
theorem QI {G:Nat→Prop}{W w:World}{Rs:List HP}{m:Nat}(hS0:Sep G W Rs w):Ret Tryz.prog 57 [.map (some m)] w (fun r w'=> ∃(bm:Nat),r=(.func (.func 75) #[] #[.pointer (some ⟨bm,0,none⟩)]:Value)∧Sep G W ((Blk bm #[.map (some m)] 87)::Rs) w'):=by
 refine zi (args:=[.map (some m)]) Tryz.func57 rfl rfl ?_
 refine za (R0 fun _=>st (zN (v:=.map (some m)) rfl ?_))
 intro w3 b2 a
 refine st (aS .nilFunc (zd (za (R0 fun _=>st (Zc (vals:=[Ix b2 0]) rfl (st (aS (.func (.func 75) #[] #[Ix b2 0]) (zd (zj (zK Tryz.results57 (show _=(.func (.func 75) #[] #[Ix b2 0]:Value)from rfl) ?_))))))))))
 refine⟨b2,rfl,(hS0.new a)⟩
def idE (e:Ev):Int×Int:=(e.origin,e.seq)
def Srt (L:List Ev):Prop:=L.Pairwise fun a b=>ZM a b<0
theorem xQ: ∀{L:List Ev} {x:Ev},(L.map idE).Nodup→x∈L→ym L (idE x)=some x
 |y::L,x,hn,hx=>by
  unfold ym
  rw[List.find?_cons]
  rcases List.mem_cons.1 hx with rfl|hx
  ·simp[idE]
  ·have hn2:=List.nodup_cons.1 (show(idE y::L.map idE).Nodup from hn)
   have hne: ¬(y.origin=(idE x).1∧y.seq=(idE x).2):=fun h=>hn2.1 (List.mem_map.2 ⟨x,hx,by unfold idE;rw[h.1,h.2];rfl⟩)
   rw[decide_eq_false hne]
   exact xQ hn2.2 hx
theorem Uc {L:List Ev}{k:Int×Int}:(ym L k).isSome=true↔k∈L.map idE:=by
 constructor
 ·intro h
  obtain⟨x,hx⟩:=Option.isSome_iff_exists.1 h
  obtain⟨h1,h2,h3⟩:=ZL hx
  exact List.mem_map.2 ⟨x,h1,by unfold idE;rw[h2,h3]⟩
 ·intro h
  cases hg:ym L k with
  |some x=>rfl
  |none=>
   obtain⟨x,hx,rfl⟩:=List.mem_map.1 h
   exfalso
   unfold ym at hg
   rw[List.find?_eq_none]at hg
   exact hg x hx (by simp[idE])
theorem KN {κ β:Type}[DecidableEq κ]{R:List (κ×β)}{k:κ}:(yw R k).isSome=true↔k∈R.map (·.1):=by
 unfold yw
 rw[Option.isSome_map,List.find?_isSome]
 constructor
 ·rintro⟨p,hp,hk⟩
  exact List.mem_map.2 ⟨p,hp,by simpa using hk⟩
 ·intro h
  obtain⟨p,hp,rfl⟩:=List.mem_map.1 h
  exact⟨p,hp,by simp⟩
theorem Vv {κ β:Type}[DecidableEq κ]: ∀{R:List (κ×β)} {p:κ×β},(R.map (·.1)).Nodup→p∈R→yw R p.1=some p.2
 |q::R,p,hn,hp=>by
  unfold yw
  rw[List.find?_cons]
  rcases List.mem_cons.1 hp with rfl|hp
  ·simp
  ·have hn2:=List.nodup_cons.1 (show(q.1::R.map (·.1)).Nodup from hn)
   have hne: ¬q.1=p.1:=fun h=>hn2.1 (List.mem_map.2 ⟨p,hp,h.symm⟩)
   rw[decide_eq_false hne]
   exact Vv hn2.2 hp
theorem XS {l:List Ev}: ∀{S:List Ev},l.Perm S→S.Pairwise (fun a b=>ZM a b<0)→l.Pairwise (fun a b=> ¬ZM b a<0)→l=S:=by
 induction l with
 |nil=>intro S hp _ _;exact(List.nil_perm.1 hp).symm
 |cons a l ih=>
  intro S hp hS hl
  cases S with
  |nil=>exact absurd hp.length_eq (by simp)
  |cons s S=>
   rw[List.pairwise_cons]at hS hl
   have ha:a∈s::S:=hp.subset (List.mem_cons_self ..)
   have hs:s∈a::l:=hp.symm.subset (List.mem_cons_self ..)
   have e:a=s:=by
    rcases List.mem_cons.1 ha with h|h
    ·exact h
    ·rcases List.mem_cons.1 hs with h2|h2
     ·exact h2.symm
     ·exact absurd (hS.1 a h) (hl.1 s h2)
   subst e
   rw[ih ((List.perm_cons a).1 hp) hS.2 hl.2]
def Zx (R:List ((Int×Int)×Value))(L:List Ev)(j:Nat):Ev:=(ym L ((R[j]?.map (·.1)).getD default)).getD default
section
variable {G:Nat→Prop}{W w:World}{Rs:List HP}{m n clock:Nat}{L:List Ev}{R:List ((Int×Int)×Value)}{es:Array MapEntry}
theorem SetR.place (h:SetR W G m R L)(hn:(R.map (·.1)).Nodup)(he:EntsV yR es.toList R){j:Nat}(hj:j<es.toList.length): ∃vd,es.toList[j].val=.agg ((Zx R L j).cells vd).toArray∧(Zx R L j).Ok∧RdS W G vd (Zx R L j).deps:=by
 obtain⟨p,hp,hk,hv⟩:=he.at_ (List.getElem?_eq_getElem hj)
 obtain⟨x,vd,h1,h2,h3,h4,_⟩:=h.at_ p.1
 have hl:=Vv hn (List.mem_of_getElem? hp)
 rw[hl]at h2
 have e:Zx R L j=x:=by unfold Zx;rw[hp,h1];rfl
 rw[e]
 exact⟨vd,hv.trans h2,h3,h4⟩
theorem SetR.perm (h:SetR W G m R L)(hn:(R.map (·.1)).Nodup)(hid:(L.map idE).Nodup):((List.range R.length).map (Zx R L)).Perm L:=by
 have h1:(R.map (·.1)).Perm (L.map idE):=(List.perm_ext_iff_of_nodup hn hid).2 fun k=>by
  rw[←KN,←Uc]
  obtain⟨x,vd,_,_,_,_,h5⟩:=h.at_ k
  rw[h5]
 have h2:=h1.map (fun k=>(ym L k).getD default)
 have e1:(L.map idE).map (fun k=>(ym L k).getD default)=L:=by
  rw[List.map_map]
  conv=>rhs;rw[←List.map_id L]
  refine List.map_congr_left fun x hx=>?_
  show(ym L (idE x)).getD default=id x
  rw[xQ hid hx];rfl
 rw[e1]at h2
 have e2:(List.range R.length).map (Zx R L)=(R.map (·.1)).map (fun k=>(ym L k).getD default):=by
  refine List.ext_getElem (by simp) (fun i h3 h4=>?_)
  simp at h3
  simp[Zx,h3]
 rw[e2];exact h2
end
def zbe (bis bo:Nat)(fis:FuncId)(caps:List Value)(p:Ev→Bool)(f:Nat→Ev)(idx:List Nat):HP:=Ex1 fun vo=>Star [Blk bis #[.func (.func fis) #[] caps.toArray] 93,Blk bo #[vo] 26,RowE (α:=Ev) own 41 vo ((idx.map f).filter p)]
theorem Qg {G:Nat→Prop}{W w:World}{Rs:List HP}{b:Nat}{n:Nat}{L:List Ev}(hb:(SetO b n L).p W G){fis:FuncId}{caps:List Value}{p:Ev→Bool}(hfis: ∀args w,(callFunc fis args).run Tryz.prog w=.ok (.enter fis args) w)(hIs: ∀{w:World} {Rs:List HP} {x:Ev} {dx0:Value} (hdx0:RdS W G dx0 x.deps) (ox:x.Ok),Sep G W Rs w→Ret Tryz.prog fis (.agg (x.cells dx0).toArray::caps) w (fun r w'=>r=(.bool (p x):Value)∧Sep G W Rs w'))(hS0:Sep G W Rs w)(hid:(L.map idE).Nodup)(hsr:Srt L)(hL:L.length≤1000000):Ret Tryz.prog 38 [.pointer (some ⟨b,0,none⟩),.func (.func fis) #[] caps.toArray] w (fun r w'=> ∃(v:Value),r=(v:Value)∧Sep G W ((RowE (α:=Ev) own 41 v (L.filter p))::Rs) w'):=by
 obtain⟨vv,m,R,hbk,hvv,hr⟩:=SetO.sh hb
 obtain⟨es,clock,hes,hst,hent,hclk⟩:=hr.is
 have hnR:(R.map (·.1)).Nodup:=IsMap.nodup hr.is
 have hlen:es.size=R.length:=by have:=hent.len;simpa using this
 have hpl:=hr.perm hnR hid
 have hRL:R.length=L.length:=by have:=hpl.length_eq;simpa using this
 refine Uv (args:=[.pointer (some ⟨b,0,none⟩),.func (.func fis) #[] caps.toArray]) Tryz.func38 rfl rfl ?_
 refine WW ?_
 refine yx (by kernel_rfl) (fun _=>?_)
 refine st (zN (v:=.func (.func fis) #[] caps.toArray) rfl ?_)
 intro w1 bis hn1
 have hS1:=hS0.new hn1
 refine st (ya (v:=(.slice none 0 0)) rfl ?_)
 refine zd ?_
 refine WW ?_
 refine yx (by kernel_rfl) (fun _=>?_)
 refine st (zt qR ?_)
 intro w2 bo hn2
 have hS2:=hS1.new hn2
 refine zd ?_
 refine JV ?_
 refine WW ?_
 refine yx (by kernel_rfl) (fun _=>?_)
 refine st (zV (v:=.pointer (some ⟨b,0,none⟩)) rfl ?_)
 refine st (zB (b:=b) (o:=0) rfl ?_)
 refine st (Ve rfl ?_)
 refine st (xH (v:=.map (some m)) qT rfl (zb (hS2.gblk hbk) rfl) ?_)
 refine st (zG (f:=57) (vals:=[.map (some m)]) (cap:=[]) rfl rfl Tryz.call57 (QI hS2) ?_)
 rintro _ w3 ⟨bm,rfl,hS3⟩
 refine zd ?_
 refine QR ?_
 refine XV (gf:=75) (lb:=[.pointer (some ⟨bm,0,none⟩)]) rfl Tryz.call75 ?_
 intro fn tm htm
 have hS4:=(hS3.objNew (Wp w3 (.deferred (some [])))).objNew (Wp _ (.loop {state:=.ready,pending:=none,fn,tmps:=tm,params:=#[12],assign:=cA (Zt nT),body:=cB (Zt nT),defers:=w3.heap.size}))
 rw[show(w3.alloc (.deferred (some []))).heap.size=w3.heap.size+1 from World.size_alloc ..]at hS4
 have hS5:=hS4.rowNil (α:=Ev) own 41
 have hS6:=Sep.closeStar (Bs:=[Blk bis #[.func (.func fis) #[] caps.toArray] 93,Blk bo #[.slice none 0 0] 26,RowE (α:=Ev) own 41 (.slice none 0 0) []]) (hS5.sel 6 [5,4,0,1,3,2] (Nat.le_add_left _ _) rfl rfl)
 have hS7:Sep G W (zbe bis bo fis caps p (Zx R L) []::_) _:=Sep.closeEx (A:=fun vo=>Star [Blk bis #[.func (.func fis) #[] caps.toArray] 93,Blk bo #[vo] 26,RowE (α:=Ev) own 41 vo ((([]:List Nat).map (Zx R L)).filter p)]) (.slice none 0 0) hS6
 refine Ret.mono (zaw (A:=zbe bis bo fis caps p (Zx R L)) hr.gm hes hst rfl (fun j hj=>?_) ?_ hS7) ?_
 ·obtain⟨vd,h1,_,h3⟩:=hr.place hnR hent hj
  exact⟨_,vd,h1,h3.sl.one⟩
 ·intro idx j hj v Fr w8 hv hlt hnd hS8
  obtain⟨vd,hcv,hok,hrd⟩:=hr.place hnR hent hj
  rw[hcv]at hv
  subst hv
  refine Kh (n:=24) htm (by decide) ?_
  refine Zf (by kernel_rfl) (fun _=>?_)
  refine st (zt oT ?_)
  intro w9 b6 hn9
  have hS9:=hS8.new hn9
  refine stn (zq (v:=.agg ((Zx R L j).cells vd).toArray) (c':=((Zx R L j).cells vd).toArray) lT rfl rfl (hS9.blk (i:=0) rfl) (ye ⟨rfl,rfl,rfl,hrd.sl.one,rfl,rfl,rfl,rfl,rfl,rfl,trivial⟩) (Nat.le_of_ble_eq_true rfl) rfl ?_)
  intro w10 hp10
  have hS10:=hS9.put (i:=0) rfl hp10
  refine zd ?_
  refine⟨_,run_beginRound (hS10.obj (i:=2) rfl) rfl,?_⟩
  have hS11:=hS10.objPut (i:=2) (o':=.loop {state:=.busy,pending:=none,fn,tmps:=tm,params:=#[12],assign:=cA (Zt nT),body:=cB (Zt nT),defers:=w3.heap.size}) rfl rfl
  obtain⟨vo,hS12⟩:=(hS11.sel 3 [1,0,2] (Nat.le_add_left _ _) rfl rfl).openEx
  have hS13:=hS12.openStar
  have hS14:=hS13.sel 5 [3,0,1,2,4] (Nat.le_add_left _ _) rfl rfl
  refine zar (kv:=[(3,.pointer (some ⟨bis,0,none⟩)),(5,.pointer (some ⟨bo,0,none⟩)),(6,.pointer (some ⟨b6,0,none⟩))]) ⟨rfl,rfl,rfl,trivial⟩ (fun ρ=>Qz hfis hIs hrd hok ?_ ?_ hS14)
  ·have:=List.length_filter_le p (idx.map (Zx R L))
   rw[List.length_map]at this
   omega
  ·intro σ' w15 vo' M' hM hS15
   refine⟨_,_,run_endRound none (hS15.obj (i:=3) rfl),rfl,?_⟩
   have hS16:=hS15.objPut (i:=3) (o':=.loop {state:=.ready,pending:=none,fn,tmps:=tm,params:=#[12],assign:=cA (Zt nT),body:=cB (Zt nT),defers:=w3.heap.size}) rfl rfl
   have hM2:M'=((idx++[j]).map (Zx R L)).filter p:=by
    rw[hM,List.map_append,List.filter_append,List.map_cons,List.map_nil,List.filter_cons,List.filter_nil]
   rw[hM2]at hS16
   have hS17:=Sep.closeStar (Bs:=[Blk bis #[.func (.func fis) #[] caps.toArray] 93,Blk bo #[vo'] 26,RowE (α:=Ev) own 41 vo' (((idx++[j]).map (Zx R L)).filter p)]) hS16
   exact Sep.closeEx (A:=fun vo=>Star [Blk bis #[.func (.func fis) #[] caps.toArray] 93,Blk bo #[vo] 26,RowE (α:=Ev) own 41 vo (((idx++[j]).map (Zx R L)).filter p)]) vo' hS17
 ·rintro _ w9 ⟨idx,hperm,hS9⟩
  refine⟨_,run_endLoop (hS9.obj (i:=1) rfl) (by simp),?_⟩
  have hS10:=hS9.objPut (i:=1) (o':=.loop {state:=.exhausted,pending:=none,fn,tmps:=tm,params:=#[12],assign:=cA (Zt nT),body:=cB (Zt nT),defers:=w3.heap.size}) rfl rfl
  obtain⟨vo,hS11⟩:=hS10.openEx
  have hS12:=hS11.openStar
  have hS13:=hS12.sel 6 [2,1,5] (Nat.le_add_left _ _) rfl rfl
  have hpf:((idx.map (Zx R L)).filter p).Perm (L.filter p):=by
   have h1:=(hperm.map (Zx R L))
   rw[hlen]at h1
   exact(h1.trans hpl).filter p
  refine WJ ?_
  refine Zf (by kernel_rfl) (fun _=>?_)
  refine st (xH (v:=vo) rT rfl (zb (hS13.blk (i:=1) rfl) rfl) ?_)
  refine st (zG (f:=58) (vals:=[vo,.func (.func 59) #[] #[]]) (cap:=[]) rfl rfl Tryz.call58 (QP (by have h1:=hpf.length_eq;have h2:=List.length_filter_le p L;omega) hS13) ?_)
  rintro _ w14 ⟨l',rfl,hp',hso',hS14⟩
  refine zd ?_
  refine WJ ?_
  refine Zf (by kernel_rfl) (fun _=>?_)
  refine st (xH (v:=vo) rT rfl (zb (hS14.blk (i:=1) rfl) rfl) ?_)
  refine st (ya (v:=vo) rfl ?_)
  refine zd ?_
  refine zaQ ?_
  refine⟨_,run_takeDeferred (hS14.obj (i:=2) rfl),zK Tryz.results38 (show _=(vo:Value)from rfl) ⟨vo,rfl,?_⟩⟩
  have hS15:=hS14.objPut (i:=2) (o':=.deferred none) rfl rfl
  have hl':l'=L.filter p:=XS (hp'.trans hpf) (hsr.filter p) hso'
  rw[hl']at hS15
  exact hS15.sel 3 [0] (Nat.le_add_left _ _) rfl rfl
end
section
set_option maxRecDepth 8000
set_option maxHeartbeats 4000000
open Go.Proofs Go.RowKit
def Zk (key:Int)(e:Ev):Bool:=(!decide (key=0))&&decide (e.key=key)
def yP (L:List Ev)(key:Int):Option Ev:=L.find? (Zk key)
def DepO (d:Value)(l:List Int):HP:=⟨fun w f=>RdS w (fun b=>f b∧Soft w b) d l,fun h hf=>h.mono fun b hb hlt=>⟨(hf b hb.1 hlt).1,(hf b hb.1 hlt).2,hb.2.keep (hf b hb.1 hlt).1⟩⟩
theorem DepO.rd {d:Value}{l:List Int}{w:World}{f:Nat→Prop}(h:(DepO d l).p w f):RdS w f d l:=RdS.weak h (fun _ _ hb=>hb.1)
section
variable {G:Nat→Prop}{W w:World}{As:List HP}{T:TypeId}{v:Value}{l:List Ev}
theorem Sep.depo (h:Sep G W (RowE (α:=Ev) own T v l::As) w){i:Nat}(hi:i<l.length): ∃d,CellsAt w (sb v) (so v+i*10) ((l.getD i default).cells d)∧(l.getD i default).Ok∧Sep G W (DepO d (l.getD i default).deps::As) w:=by
 obtain⟨f,hA,hfl,hT⟩:=h.take (i:=0) rfl
 obtain⟨cs,hc,he⟩:=RowE.elem hA hi
 rw[←zF default hi]at he
 obtain⟨d,rfl,hd,ho⟩:=he
 refine⟨d,hc,ho,hT w _ f (Chg.refl _ _) ?_ (fun _ hb=>.inl hb)⟩
 exact RdS.weak hd (fun b _ hb=>hb)
theorem Sep.depSl {d:Value}{l:List Int}(h:Sep G W As w){i:Nat}(hi:As[i]? =some (DepO d l)):IsSl d l.length:=by
 obtain⟨f,h1,_⟩:=h.get hi;exact h1.sl
theorem Sep.depoNil (h:Sep G W As w):Sep G W (DepO (.slice none 0 0) []::As) w:=h.push (Chg.refl _ _) (f:=fun _=>False) (RdS.nil _ _) (fun _ h=>h.elim)
end
theorem zaG {G:Nat→Prop}{W w:World}{Rs:List HP}{e:Ev}{de0:Value}(hde0:RdS W G de0 e.deps)(oe:e.Ok)(hS0:Sep G W Rs w):Ret Tryz.prog 39 [.agg (e.cells de0).toArray] w (fun r w'=>r=(.bool true:Value)∧Sep G W Rs w'):=by
 have hde0s:_*8≤_:=hde0.small
 refine zi (args:=[.agg (e.cells de0).toArray]) Tryz.func39 rfl rfl ?_
 refine za (R0 fun _=>st (zN (v:=.agg (e.cells de0).toArray) rfl ?_))
 intro w3 b2 a
 refine st (aS (.bool false) (zd (za (R0 fun _=>st (aS (.bool true) (zd (zj (zK Tryz.results39 (show _=(.bool true:Value)from rfl) ?_))))))))
 refine⟨rfl,((hS0.new a).s1_)⟩
theorem zat {G:Nat→Prop}{W w:World}{Rs:List HP}{e:Ev}{de0:Value}(hde0:RdS W G de0 e.deps)(oe:e.Ok){bx:Nat}{key:Int}(hbx:(Blk bx #[.int .i64 key] 3).p W G)(hS0:Sep G W Rs w):Ret Tryz.prog 52 [.agg (e.cells de0).toArray,.pointer (some ⟨bx,0,none⟩)] w (fun r w'=>r=(.bool (Zk key e):Value)∧Sep G W Rs w'):=by
 have hde0s:_*8≤_:=hde0.small
 refine zi (args:=[.agg (e.cells de0).toArray,Ix bx 0]) Tryz.func52 rfl rfl ?_
 refine za (R0 fun _=>st (zN (v:=.agg (e.cells de0).toArray) rfl ?_))
 intro w3 b2 g
 have d:=hS0.new g
 refine st (aS (.bool false) (zd (za (zz kr (st (lD (Iv key) kT rfl (zb (d.gblk hbx) rfl) (st (yh (k:=.i64) (a:=key) (b:=0) rfl rfl (st (mV (.bool (!decide (key=0))) (stc (V:=Ix b2 9) rfl rfl (fun h=>?_) ?_)))))))))))
 have hl6:=zy h
 exact YF rfl ⟨rfl,rfl⟩
 refine stc (V:=Iv (e.key)) rfl rfl (fun f=>?_) ?_
 have hl8:=zy f
 exact lD (Iv (e.key)) kT (if_pos f) (zb (d.b0) rfl) ⟨rfl,rfl⟩
 refine stc (V:=Iv key) rfl rfl (fun i=>?_) ?_
 have hl10:=zy i
 exact lD (Iv key) kT rfl (zb (d.gblk hbx) rfl) ⟨rfl,rfl⟩
 refine stc (V:=.bool (decide (e.key=key))) rfl rfl (fun c=>?_) ?_
 have hl12:=zy c
 exact yc (k:=.i64) (a:=e.key) (b:=key) (if_pos c) (if_pos c) ⟨rfl,rfl⟩
 refine st (zC (b:= !decide (key=0)) (b':=decide (e.key=key)) rfl (fun hbp=>(if_pos hbp)) (st (aS (.bool ((!decide (key=0))&&(decide (e.key=key)))) (zd (zj (zK Tryz.results52 (show _=(.bool ((!decide (key=0))&&(decide (e.key=key))):Value)from rfl) ?_))))))
 refine⟨rfl,(d.s1_)⟩
theorem Jv {G:Nat→Prop}{W w:World}{Rs:List HP}{b:Nat}{n:Nat}{L:List Ev}(hb:(SetO b n L).p W G)(hS0:Sep G W Rs w)(hid:(L.map idE).Nodup)(hsr:Srt L)(hL:L.length≤1000000):Ret Tryz.prog 15 [.pointer (some ⟨b,0,none⟩)] w (fun r w'=> ∃(v:Value),r=(v:Value)∧Sep G W ((RowE (α:=Ev) own 41 v L)::Rs) w'):=by
 refine zi (args:=[Ix b 0]) Tryz.func15 rfl rfl ?_
 obtain⟨vv1,m2,R3,hb4,e,hr6⟩:=SetO.sh hb
 have hsm7:(zr n L).length*8≤140737488355328:=e.small
 refine za (R0 fun _=>st (aS (Iz) (zd (za (R0 fun _=>st (mV (Ix b 0) (st (cL rR (Qg (p:=fun _=>true) (caps:=[]) hb Tryz.call39 (fun f g h=>zaG f g h) hS0 (hid) (hsr) (hL)) ?_))))))))
 rintro c w9 ⟨_,rfl,a⟩
 have d:=a.r0
 have hr11s:_*96≤_:=d.2
 refine st (aS c (zd (zj (zK Tryz.results15 (show _=(c:Value)from rfl) ?_))))
 rw[List.filter_eq_self.2 (fun _ _=>rfl)]at a
 refine⟨c,rfl,a⟩
end
section
set_option maxRecDepth 8000
set_option maxHeartbeats 4000000
open Go.Proofs Go.RowKit
theorem Kz {L:List Ev}{key:Int}(h:((L.filter (Zk key)).length:Nat)=0):yP L key=none:=by
 have h1:=List.length_eq_zero_iff.1 h
 unfold yP
 rw[←List.head?_filter,h1];rfl
theorem Ko {L:List Ev}{key:Int}(h:0<(L.filter (Zk key)).length):yP L key=some ((L.filter (Zk key)).getD 0 default):=by
 unfold yP
 rw[←List.head?_filter]
 cases hl:L.filter (Zk key)with
 |nil=>rw[hl]at h;exact absurd h (Nat.lt_irrefl 0)
 |cons x l=>rfl
theorem KW {G:Nat→Prop}{W w:World}{Rs:List HP}{b:Nat}{n:Nat}{L:List Ev}(hb:(SetO b n L).p W G){key:Int}(hkey:InR key)(hS0:Sep G W Rs w)(hid:(L.map idE).Nodup)(hsr:Srt L)(hL:L.length≤1000000):Ret Tryz.prog 28 [.pointer (some ⟨b,0,none⟩),.int .i64 (key)] w (fun r w'=> ∃(d:Value),r=(.tuple #[.agg (((yP L key).getD default).cells d).toArray,.bool (yP L key).isSome]:Value)∧Sep G W ((DepO d (((yP L key).getD default).deps))::Rs) w'):=by
 refine zi (args:=[Ix b 0,Iv key]) Tryz.func28 rfl rfl ?_
 let S:=((⟨0,0,0,[],0,0,0,0,0,0⟩:Ev).cells (Iz))
 obtain⟨vv1,m2,R3,hb4,K,hr6⟩:=SetO.sh hb
 have hsm7:(zr n L).length*8≤140737488355328:=K.small
 refine za (R0 fun _=>st (zN (v:=Iv key) rfl ?_))
 intro w10 t M
 refine st (zt oT ?_)
 intro w14 l u
 refine st (aS (.bool false) (zd (za (R0 fun _=>st (mV (Ix b 0) (st (Zc (vals:=[Ix t 0]) rfl ?_)))))))
 obtain⟨G17,x,y,z,m⟩:=(((hS0.new M).new u).mv1).lend
 refine st (cL rR (Qg (p:=Zk key) (caps:=[Ix t 0]) (HP.base hb y) Tryz.call52 (fun N O P=>zat N O x P) z (hid) (hsr) (hL)) ?_)
 rintro h w24 ⟨_,rfl,c⟩
 have f:=c.r0
 have hr26s:_*96≤_:=f.2
 refine st (aS h (zd (za (za (R0 fun _=>st (mV h (st (zR (n:=(L.filter (Zk key)).length) vT rfl f.1 (st (yc (k:=.i64) (a:=(((L.filter (Zk key)).length:Nat):Int)) (b:=0) rfl rfl (zd ?_)))))))))))
 cases e:decide ((((L.filter (Zk key)).length:Nat):Int)=0)
 have e:=fD e
 refine zg rfl (zl (za (R0 fun _=>st (mV h ?_))))
 have A:0<(L.filter (Zk key)).length:=bo
 refine st (zm (k:=10) (i:=0) vT lT rfl f.1 rfl A ?_)
 have B:0<(L.filter (Zk key)).length:=by omega
 obtain⟨j,C,ok31,g⟩:=c.depo B
 refine st (zf (k:=10) mT lT rfl rfl C ?_)
 have s:=(DepO.rd (Sep.get g (i:=0) rfl).choose_spec.1).sl
 refine stn (zq (v:=.agg (((L.filter (Zk key)).getD 0 default).cells j).toArray) (c':=(((L.filter (Zk key)).getD 0 default).cells j).toArray) lT rfl rfl (g.b1) (ye ⟨rfl,rfl,rfl,s.one,rfl,rfl,rfl,rfl,rfl,rfl,trivial⟩) yqc rfl ?_)
 intro Q D
 have o:=g.pt1 D
 refine st (aS (.bool true) (zd (zj (ZJ (b:=l) sR mT lT rfl rfl (CellsAt.all (o.b1)) (show _=(.bool true:Value)from rfl) ?_))))
 have E:=m _ _ o
 have F:Sep G W ((DepO j (((L.filter (Zk key)).getD 0 default).deps))::Rs) Q:=E.sel 3 [1] (Nat.le_add_left _ _) rfl rfl
 rw[Ko (L:=L) (key:=key) (by omega)]
 refine⟨j,?_,F⟩
 rfl
 have e:=tD e
 refine zh rfl (za (R0 fun _=>?_))
 have ok39:Ev.Ok (⟨0,0,0,[],0,0,0,0,0,0⟩:Ev):=⟨(show InR (0)from dc),(show InR (0)from dc),(show InR (0)from dc),(show InR (0)from dc),(show InR (0)from dc),(show InR (0)from dc),(show InR (0)from dc),(show InR (0)from dc),(show InR (0)from dc)⟩
 refine st (zP (parts':=[]) (v:=.agg S.toArray) rfl (by simp+zetaDelta [Instr.build,Instr.fill,Ev.cells,go_sem,Mv.cells,Fld.cells,Typ.cells,Prj.cells,Dcl.cells,Cel.cells,AskR.cells,CelS.cells,Ev.cells,Ent.cells,Sta.cells]) (stn (zq (v:=.agg S.toArray) (c':=S.toArray) lT rfl rfl (c.b1) (ye ⟨rfl,rfl,rfl,rfl,rfl,rfl,rfl,rfl,rfl,rfl,trivial⟩) yqc rfl ?_)))
 intro R H
 have q:=c.pt1 H
 refine st (aS (.bool false) (zd (zj (ZJ (b:=l) sR mT lT rfl rfl (CellsAt.all (q.b1)) (show _=(.bool false:Value)from rfl) ?_))))
 have I:=m _ _ q
 have J:Sep G W ((DepO (Iz) [])::(Blk t #[Iv key] 3)::(RowE (α:=Ev) own 41 h (L.filter (Zk key)))::(Blk l S.toArray 41)::Rs) R:=I.depoNil
 rw[Kz (L:=L) (key:=key) (by omega)]
 refine⟨(Iz),?_,(J.s4_a)⟩
 rfl
def Zb (e:Ev):List Ev→List Ev
 |[]=>[e]
 |x::l=>if ltE e x=true then e::x::l else x::Zb e l
def Jq (n:Nat)(L:List Ev)(e:Ev):Bool:=(List.range n).all (xw L e)
def xT (n:Nat)(L:List Ev)(e:Ev):Int:=if yv e n≠0 then yv e n else if(ym L (e.origin,e.seq)).isSome=true then 16 else if e.seq≠((xM L e.origin.toNat:Nat):Int)+1 then 9 else if Jq n L e=true then 0 else 9
def addL (n:Nat)(L:List Ev)(e:Ev):List Ev:=if xT n L e=0 then Zb e L else L
section
variable {n:Nat}{L:List Ev}{e:Ev}
theorem zbb (h: ¬yv e n=0):xT n L e=yv e n:=by unfold xT;rw[if_pos h]
theorem zaX (h:yv e n=0)(h2:(ym L (e.origin,e.seq)).isSome=true):xT n L e=16:=by unfold xT;rw[if_neg (by simpa using h),if_pos h2]
theorem zba (h:yv e n=0)(h2:(ym L (e.origin,e.seq)).isSome=false)(h3: ¬e.seq=((xM L e.origin.toNat:Nat):Int)+1):xT n L e=9:=by unfold xT;rw[if_neg (by simpa using h),if_neg (by rw[h2];decide),if_pos h3]
theorem zaV (h:yv e n=0)(h2:(ym L (e.origin,e.seq)).isSome=false)(h3:e.seq=((xM L e.origin.toNat:Nat):Int)+1){k:Nat}(hk:k<n)(h4:xw L e k=false):xT n L e=9:=by
 unfold xT
 rw[if_neg (by simpa using h),if_neg (by rw[h2];decide),if_neg (by simpa using h3),if_neg (fun h5=>?_)]
 have:=(List.all_eq_true.1 h5) k (List.mem_range.2 hk)
 rw[h4]at this;cases this
theorem Jw (h:yv e n=0)(h2:(ym L (e.origin,e.seq)).isSome=false)(h3:e.seq=((xM L e.origin.toNat:Nat):Int)+1)(h4: ∀i,i<n→xw L e i=true):xT n L e=0:=by
 unfold xT
 rw[if_neg (by simpa using h),if_neg (by rw[h2];decide),if_neg (by simpa using h3),if_pos (show Jq n L e=true from List.all_eq_true.2 fun i hi=>h4 i (List.mem_range.1 hi))]
theorem Xd (h: ¬xT n L e=0):addL n L e=L:=if_neg h
theorem Jp (h:xT n L e=0):addL n L e=Zb e L:=if_pos h
theorem xU (h:yv e n=0):(0≤e.origin∧e.origin<n)∧(1≤e.seq∧1≤e.lam)∧e.deps.length=n∧e.deps.getD e.origin.toNat 0=e.seq-1:=by
 unfold yv at h
 split at h
 ·cases h
 ·rename_i h1
  split at h
  ·cases h
  ·rename_i h2
   have h1':(((((decide (e.origin<0)||decide ((n:Int)≤e.origin))||decide (min e.seq e.lam<1))||decide (min e.agg e.key<0))|| !decide (((e.deps.length:Nat):Int)=n))||YG e.deps)=false:=by simpa using h1
   simp only[Bool.or_eq_false_iff,decide_eq_false_iff_not,Bool.not_eq_false',decide_eq_true_eq]at h1'
   have h2':e.deps.getD e.origin.toNat 0=e.seq-1:=by simpa using h2
   obtain⟨⟨⟨⟨⟨a1,a2⟩,a3⟩,a4⟩,a5⟩,a6⟩:=h1'
   exact⟨⟨by omega,by omega⟩,⟨by omega,by omega⟩,by omega,h2'⟩
theorem insE_perm: ∀{L:List Ev},(Zb e L).Perm (e::L)
 |[]=>List.Perm.refl _
 |x::l=>by
  unfold Zb
  split
  ·exact List.Perm.refl _
  ·exact((insE_perm (L:=l)).cons x).trans (List.Perm.swap ..)
theorem JL:(Zb e L).length=L.length+1:=insE_perm.length_eq
theorem Qc {o:Nat}:xM L o≤L.length:=List.length_filter_le ..
theorem WY {o:Nat}:xM (Zb e L) o=xM L o+if e.origin=(o:Int)then 1 else 0:=by
 unfold xM
 rw[((insE_perm (e:=e) (L:=L)).filter _).length_eq,List.filter_cons]
 by_cases h:e.origin=(o:Int)
 ·rw[if_pos (by simpa using h),if_pos h];rfl
 ·rw[if_neg (by simpa using h),if_neg h];rfl
theorem zaJ (h0:0≤e.origin)(h1:e.origin<n):(zr n L).set e.origin.toNat (((xM L e.origin.toNat:Nat):Int)+1)=zr n (Zb e L):=by
 refine List.ext_getElem (by simp[zr]) (fun i h2 h3=>?_)
 simp only[List.length_set,xl]at h2
 rw[List.getElem_set]
 simp only[zr,List.getElem_map,List.getElem_range]
 rw[WY]
 by_cases h:e.origin.toNat=i
 ·rw[if_pos h,if_pos (by omega),←h];omega
 ·rw[if_neg h,if_neg (by omega)];omega
theorem KU {A B:List Ev}(h:A.Perm B):zS A=zS B:=by
 unfold zS
 induction h with
 |nil=>rfl
 |cons x _ ih=>simp only[List.foldr_cons,ih]
 |swap x y l=>simp only[List.foldr_cons];omega
 |trans _ _ h1 h2=>exact h1.trans h2
theorem zak:max (zS L) e.lam=zS (Zb e L):=by rw[KU insE_perm];rfl
theorem VN (h:(ym L (e.origin,e.seq)).isSome=false):ZD (ym L) (e.origin,e.seq) e=ym (Zb e L):=by
 funext k
 unfold ZD
 induction L with
 |nil=>
  simp only[Zb,ym,List.find?_cons,List.find?_nil]
  obtain⟨a,b⟩:=k
  by_cases hk:(e.origin,e.seq)=(a,b)
  ·rw[if_pos hk];cases hk;simp
  ·rw[if_neg hk];simp only[Prod.mk.injEq]at hk;simp[hk]
 |cons x l ih=>
  have hx: ¬(x.origin=e.origin∧x.seq=e.seq)∧(ym l (e.origin,e.seq)).isSome=false:=by
   unfold ym at h
   rw[List.find?_cons]at h
   by_cases hx:x.origin=e.origin∧x.seq=e.seq
   ·rw[decide_eq_true hx]at h;cases h
   ·rw[decide_eq_false hx]at h;exact⟨hx,h⟩
  obtain⟨a,b⟩:=k
  have ih:=ih hx.2
  simp only[Zb]
  by_cases hlt:ltE e x=true
  ·rw[if_pos hlt]
   by_cases hk:(e.origin,e.seq)=(a,b)
   ·rw[if_pos hk];cases hk;simp[ym]
   ·rw[if_neg hk];simp only[Prod.mk.injEq]at hk;simp[ym,hk]
  ·rw[if_neg hlt]
   unfold ym at ih⊢
   rw[List.find?_cons,List.find?_cons]
   by_cases hxa:x.origin=a∧x.seq=b
   ·have hk: ¬(e.origin,e.seq)=(a,b):=fun hk=>by cases hk;exact hx.1 hxa
    rw[if_neg hk,decide_eq_true hxa]
   ·rw[decide_eq_false hxa];exact ih
end
end
section
set_option maxRecDepth 8000
set_option maxHeartbeats 4000000
open Go.Proofs Go.RowKit
theorem yqe {p:Prop}(h:p:=by first|omega|(refine⟨?_,?_⟩<;>omega)):p:=h
section
variable {G:Nat→Prop}{W w:World}{As:List HP}{vd:Value}{e:Ev}
theorem zbi (ho:e.Ok)(h:Sep G W (RowE (α:=Int) own 3 vd e.deps::As) w):Sep G W (EV (.agg (e.cells vd).toArray) e::As) w:=h.impl (i:=0) rfl (fun _ h=>⟨vd,rfl,ho,h⟩)
theorem QV {m:Nat}{X:Int×Int→Option Ev}{k:Int×Int}(h:Sep G W (MapO yR EV m X::As) w)(hX:(X k).isSome=false):Sep G W (xX yR EV YU m X k YU::As) w:=by
 obtain⟨v,hv,h1⟩:=h.mapoTake YU k
 have hn:X k=none:=by rwa [Option.isSome_eq_false_iff,Option.isNone_iff_eq_none]at hX
 obtain rfl:=hv hn
 exact h1.sel 2 [0] (Nat.le_add_left _ _) rfl rfl
end
theorem Jc {G:Nat→Prop}{W w:World}{Rs:List HP}{b:Nat}{n:Nat}{L:List Ev}{e:Ev}{de0:Value}(hde0:RdS W G de0 e.deps)(oe:e.Ok)(hS0:Sep G W ((SetO b n L)::Rs) w)(hL:L.length≤1000000)(hlen: ∀y∈L,y.deps.length=n):Ret Tryz.prog 14 [.pointer (some ⟨b,0,none⟩),.agg (e.cells de0).toArray] w (fun r w'=> ∃(L1:List Ev),r=(.int .i64 ((xT n L e)):Value)∧(L1=addL n L e)∧Sep G W ((SetO b n L1)::Rs) w'):=by
 have hde0s:_*8≤_:=hde0.small
 refine zi (args:=[Ix b 0,.agg (e.cells de0).toArray]) Tryz.func14 rfl rfl ?_
 refine za ?_
 obtain⟨G1,cO,cP,dr,Z⟩:=hS0.lend
 obtain⟨M,m8,R9,N,F,ae⟩:=SetO.sh cO
 have hsm13:(zr n L).length*8≤140737488355328:=F.small
 have af:(zr n L).length=n:=xl
 refine R0 fun _=>st (zN (v:=.agg (e.cells de0).toArray) rfl ?_)
 intro w16 q cS
 let ad:=Blk q (e.cells de0).toArray 41
 refine st (aS (Iv 0) (zd (za (za ?_))))
 refine WD4 ((fun B=>WF [fun vals x=>Sep G1 w (B::Rs) x,fun vals x=>(vals 6=(Iv ((yv e (((zr n L).length:Nat):Int))):Value))∧Sep G1 w (B::Rs) x]) ad) (AF [Vl 0 (.agg (e.cells de0).toArray),Vl 1 (Ix b 0),Vl 2 (Ix b 0),Vl 3 (Ix b 0),Vl 4 (M),Vl 5 (Iw ((zr n L).length)),fun _=>True,Vl 7 (Iv ((yv e (((zr n L).length:Nat):Int))))]) [[],[],[1],[1,2],[1,2,3],[1,2,3,4],(rg 6),(rg 7)] [6] [(0,0),(0,0),(0,0),(0,0),(0,0),(0,0),(0,0),(1,1)] (dr.new cS) ⟨ob1 0 fun _ _ (cT:Sep _ _ _ _) _=>obl rfl (zf (k:=10) mT lT rfl rfl (CellsAt.all (cT.b0)) dR),fun _ _ _ _ _ _ _=>obl rfl (mV (Ix b 0) dR),fun _ _ _ _ _ _ cU=>obl rfl (zB (b:=b) (o:=0) (cU 1 dc) dR),fun _ _ _ _ _ _ bf=>obl rfl (XK (bf 2 dc) dR),ob1 0 fun _ _ (bg:Sep _ _ _ _) bh=>obl rfl (lD M wT (bh 3 dc) (zb (bg.gblk N) rfl) dR),ob1 0 fun _ _ _ bi=>obl rfl (zR (n:=(zr n L).length) sT (bi 4 dc) F.sl dR),?_,?_,trivial⟩ ?_
 refine ob1 0 fun vals _ (cV:Sep _ _ _ _) aJ=>(obl rfl ((zG (f:=35) (vals:=[.agg (e.cells de0).toArray,Iw ((zr n L).length)]) (cap:=[]) rfl (yK ⟨(aJ 0 dc),(aJ 5 dc),trivial⟩) Tryz.call35 (JK (e:=e) (n:=(((zr n L).length:Nat):Int)) (RdS.base hde0 cP) oe (by have:(zr n L).length*8≤140737488355328:=F.small;omega) cV) ?_)))
 rintro _ w70 ⟨rfl,cW⟩
 exact fun D P I=>⟨(zv P cW),trivial⟩
 refine ob1 1 fun _ _ bj _=>?_
 obtain⟨aK,hS129⟩:=bj
 exact obl rfl (ya (v:=Iv ((yv e (((zr n L).length:Nat):Int)))) aK dR)
 intro vals w130 bk bl
 obtain⟨aK,ag⟩:=bk
 have cX:=bl 7 dc
 refine zZ (kv:=[(0,Ix b 0),(1,.agg (e.cells de0).toArray),(3,Ix q 0),(4,Iv 0),(5,Iv ((yv e (((zr n L).length:Nat):Int))))]) ⟨rfl,rfl,rfl,rfl,(by exact cX),trivial⟩ (fun ρw130=>(zd (za (R0 fun _=>st (mV (Iv ((yv e (((zr n L).length:Nat):Int)))) (st (yh (k:=.i64) (a:=(yv e (((zr n L).length:Nat):Int))) (b:=0) rfl rfl (zd ?_))))))))
 cases m: !decide ((yv e (((zr n L).length:Nat):Int))=0)
 have m:=zu m
 rw[af]at m
 obtain⟨⟨ds,cY⟩,⟨hs9,hl9⟩,dt,hq9⟩:=xU m
 have O:(zr n L).getD e.origin.toNat 0=((xM L e.origin.toNat:Nat):Int):=WR om
 have hcl9:=Qc (L:=L) (o:=e.origin.toNat)
 refine zg rfl (zl (za (za ?_)))
 obtain⟨s,g,hx138,ah,hok140,ai,aj⟩:=ae.at_ (e.origin,e.seq)
 have hsm143:s.deps.length*8≤140737488355328:=ai.small
 refine WD4 ((fun B=>WF [fun vals x=>Sep G1 w (B::Rs) x,fun vals x=> ∃(l:Nat),(vals 10=(Ix l 0:Value))∧Sep G1 w ((Blk l #[Iv 0,Iv 0,Iv 0,(Iz),Iv 0,Iv 0,Iv 0,Iv 0,Iv 0,Iv 0] 41)::B::Rs) x,fun vals x=> ∃(l:Nat),(vals 10=(Ix l 0:Value))∧Sep G1 w ((Blk l (s.cells g).toArray 41)::B::Rs) x]) ad) (AF [Vl 0 (Ix b 0),Vl 1 (Ix b 0),Vl 2 (Ix b 1),Vl 3 (.map (some m8)),Vl 4 (Ix q 0),Vl 5 (.agg #[Iv (e.origin),Iv (e.seq)]),Vl 6 (.tuple #[.agg (s.cells g).toArray,.bool ((ym L (e.origin,e.seq)).isSome)]),Vl 7 (.tuple #[.agg (s.cells g).toArray,.bool ((ym L (e.origin,e.seq)).isSome)]),Vl 8 (.agg (s.cells g).toArray),Vl 9 (.bool ((ym L (e.origin,e.seq)).isSome)),fun _=>True,fun _=>True,Vl 12 (.bool ((ym L (e.origin,e.seq)).isSome))]) [[],[0],[0,1],[0,1,2],[],[4],(rg 6),(rg 7),(rg 8),(rg 8),[],[0,1,2,3,4,5,6,7,8,10],(rg 12)] [10,11] [(0,1),(0,1),(0,1),(0,1),(0,1),(0,1),(0,1),(0,1),(0,1),(0,2),(0,0),(1,1),(2,2)] ag ⟨fun _ _ _ _ _ _ _=>obl rfl (mV (Ix b 0) dR),fun _ _ _ _ _ _ bm=>obl rfl (zB (b:=b) (o:=0) (bm 0 dc) dR),fun _ _ _ _ _ _ bn=>obl rfl (Ve (bn 1 dc) dR),?_,fun _ _ _ _ _ _ _=>obl rfl (yD rfl dR),?_,?_,fun _ _ _ _ _ _ bp=>obl rfl (zV (v:=.tuple #[.agg (s.cells g).toArray,.bool ((ym L (e.origin,e.seq)).isSome)]) (bp 6 dc) dR),fun _ _ _ _ _ _ bq=>obl rfl (zk (vs:=[.agg (s.cells g).toArray,.bool ((ym L (e.origin,e.seq)).isSome)]) (i:=0) (v:=.agg (s.cells g).toArray) (bq 7 dc) rfl dR),fun _ _ _ _ _ _ br=>obl rfl (zk (vs:=[.agg (s.cells g).toArray,.bool ((ym L (e.origin,e.seq)).isSome)]) (i:=1) (v:=.bool ((ym L (e.origin,e.seq)).isSome)) (br 7 dc) rfl dR),?_,?_,fun _ _ _ _ _ _ bs=>obl rfl (ya (v:=.bool ((ym L (e.origin,e.seq)).isSome)) (bs 9 dc) dR),trivial⟩ ?_
 refine fun Q _ _ cZ da ak al=>?_
 have hkk:=xA cZ da
 rcases hkk with rfl|rfl
 have bv:Sep _ _ _ _:=ak
 exact obl rfl (lD (.map (some m8)) qT (al 2 dc) (zb (bv.gblk N) rfl) dR)
 obtain⟨l,E,bw⟩:=ak
 exact obl rfl (lD (.map (some m8)) qT (al 2 dc) (zb (bw.gblk N) rfl) dR)
 refine fun R _ _ db dd am an=>?_
 have hkk:=xA db dd
 rcases hkk with rfl|rfl
 have bx:Sep _ _ _ _:=am
 exact obl rfl (zf (k:=2) (cs:=[Iv (e.origin),Iv (e.seq)]) kR lR rfl (an 4 dc) (CellsAt.sub (CellsAt.all (bx.b0)) 0 (cs2:=[Iv (e.origin),Iv (e.seq)]) rfl) dR)
 obtain⟨l,E,bz⟩:=am
 exact obl rfl (zf (k:=2) (cs:=[Iv (e.origin),Iv (e.seq)]) kR lR rfl (an 4 dc) (CellsAt.sub (CellsAt.all (bz.b1)) 0 (cs2:=[Iv (e.origin),Iv (e.seq)]) rfl) dR)
 refine fun S _ _ de df ao J=>?_
 have hkk:=xA de df
 rcases hkk with rfl|rfl
 have bA:Sep _ _ _ _:=ao
 exact obl rfl (YP (k:=(e.origin,e.seq)) bA ae K2i uT oT (J 3 dc) (show _=(.agg #[Iv (e.origin),Iv (e.seq)]:Value)from(J 5 dc)) ah aj dR)
 obtain⟨l,E,bB⟩:=ao
 exact obl rfl (YP (k:=(e.origin,e.seq)) bB ae K2i uT oT (J 3 dc) (show _=(.agg #[Iv (e.origin),Iv (e.seq)]:Value)from(J 5 dc)) ah aj dR)
 refine ob1 0 fun _ _ (bC:Sep _ _ _ _) _=>(obl rfl ((zt oT ?_)))
 intro w225 l bD
 exact fun D P I=>⟨(exiA l (zv P (bC.new bD))),trivial⟩
 refine ob1 1 fun _ _ bE bF=>?_
 obtain⟨l,E,ap⟩:=bE
 refine obl rfl ((zq (v:=.agg (s.cells g).toArray) (c':=(s.cells g).toArray) lT E (bF 8 dc) (ap.b0) (ye ⟨rfl,rfl,rfl,ai.sl.one,rfl,rfl,rfl,rfl,rfl,rfl,trivial⟩) yqc rfl ?_))
 intro w236 bG
 exact fun D P I=>⟨(exiA l (zv ((I 10 dc).trans E) (ap.pt0 bG))),trivial⟩
 intro vals w332 bH bI
 obtain⟨l,E,aq⟩:=bH
 let bu:=Blk l (s.cells g).toArray 41
 have dg:=bI 12 dc
 refine zZ (kv:=[(0,Ix b 0),(1,.agg (e.cells de0).toArray),(3,Ix q 0),(4,Iv 0),(5,Iv ((yv e (((zr n L).length:Nat):Int)))),(16,Iv ((yv e (((zr n L).length:Nat):Int)))),(17,.bool false),(7,.bool ((ym L (e.origin,e.seq)).isSome))]) ⟨rfl,rfl,rfl,rfl,rfl,rfl,rfl,(by exact dg),trivial⟩ (fun ρw332=>(zd (za (R0 fun _=>st (mV (.bool ((ym L (e.origin,e.seq)).isSome)) (zd ?_))))))
 cases z:(ym L (e.origin,e.seq)).isSome
 refine zg rfl (zl (za (za ?_)))
 refine WD4 (WF [fun vals x=>Sep G1 w (bu::ad::Rs) x]) (AF [Vl 0 (Ix q 0),Vl 1 (Ix q 1),Vl 2 (Iv (e.seq)),Vl 3 (Ix b 0),Vl 4 (Ix b 0),Vl 5 (Ix b 0),Vl 6 (M),Vl 7 (Ix q 0),Vl 8 (Ix q 0),Vl 9 (Iv (e.origin)),Vl 10 (Ix (sb M) (so M+e.origin.toNat*1)),Vl 11 (Iv (((zr n L).getD e.origin.toNat 0))),Vl 12 (Iv (((zr n L).getD e.origin.toNat 0)+1)),Vl 13 (.bool (!decide (e.seq=(((zr n L).getD e.origin.toNat 0)+1))))]) [[],[0],[0,1],[],[3],[3,4],[3,4,5],[],[7],[7,8],[3,4,5,6,7,8,9],[3,4,5,6,7,8,9,10],[3,4,5,6,7,8,9,10,11],(rg 13)] [] [(0,0),(0,0),(0,0),(0,0),(0,0),(0,0),(0,0),(0,0),(0,0),(0,0),(0,0),(0,0),(0,0),(0,0)] aq ⟨fun _ _ _ _ _ _ _=>obl rfl (yD rfl dR),fun _ _ _ _ _ _ bJ=>obl rfl (Zz (bJ 0 dc) dR),ob1 0 fun _ _ (bK:Sep _ _ _ _) bL=>obl rfl (lD (Iv (e.seq)) kT (bL 1 dc) (zb (bK.b1) rfl) dR),fun _ _ _ _ _ _ _=>obl rfl (mV (Ix b 0) dR),fun _ _ _ _ _ _ bM=>obl rfl (zB (b:=b) (o:=0) (bM 3 dc) dR),fun _ _ _ _ _ _ bN=>obl rfl (XK (bN 4 dc) dR),ob1 0 fun _ _ (bO:Sep _ _ _ _) bP=>obl rfl (lD M wT (bP 5 dc) (zb (bO.gblk N) rfl) dR),fun _ _ _ _ _ _ _=>obl rfl (yD rfl dR),fun _ _ _ _ _ _ bQ=>obl rfl (xD (bQ 7 dc) dR),ob1 0 fun _ _ (bR:Sep _ _ _ _) bS=>obl rfl (lD (Iv (e.origin)) kT (bS 8 dc) (zb (bR.b1) rfl) dR),?_,?_,?_,ob1 0 fun _ _ _ ar=>obl rfl (yh (k:=.i64) (a:=e.seq) (b:=((zr n L).getD e.origin.toNat 0)+1) (ar 2 dc) (ar 12 dc) dR),trivial⟩ ?_
 refine ob1 0 fun _ _ _ au=>(obl rfl ?_)
 have hi526:e.origin.toNat<(zr n L).length:=bo
 exact zA (k:=1) (i:=e.origin) sT pT (au 6 dc) F.sl (au 9 dc) ⟨by omega,by omega⟩ dR
 refine ob1 0 fun _ _ (bT:Sep _ _ _ _) bU=>(obl rfl ?_)
 have av:e.origin.toNat<(zr n L).length:=bo
 obtain⟨aL,hxe535⟩:=F.intD av
 have aM:=bT.cells aL (F.foot (ne_of_lt av))
 exact lD (Iv (((zr n L).getD e.origin.toNat 0))) kT (bU 10 dc) (aM.get (j:=0) rfl) dR
 refine ob1 0 fun _ _ _ bV=>(obl rfl ?_)
 have bW:InR (((zr n L).getD e.origin.toNat 0)+1):=by omega
 exact yb (r:=((zr n L).getD e.origin.toNat 0)+1) (k:=.i64) (a:=((zr n L).getD e.origin.toNat 0)) (b:=1) (bV 11 dc) rfl (zM bW) dR
 intro vals w556 bX bY
 have T:Sep _ _ _ _:=bX
 have dh:=bY 13 dc
 refine zZ (kv:=[(0,Ix b 0),(1,.agg (e.cells de0).toArray),(3,Ix q 0),(4,Iv 0),(5,Iv ((yv e (((zr n L).length:Nat):Int)))),(16,Iv ((yv e (((zr n L).length:Nat):Int)))),(17,.bool false),(7,.bool false),(29,.bool false),(43,.bool (!decide (e.seq=(((zr n L).getD e.origin.toNat 0)+1))))]) ⟨rfl,rfl,rfl,rfl,rfl,rfl,rfl,rfl,rfl,(by exact dh),trivial⟩ (fun ρw556=>(zd ?_))
 cases p: !decide (e.seq=(((zr n L).getD e.origin.toNat 0)+1))
 have p:=zu p
 refine zg rfl (zl (za (za (R0 fun _=>st (mV (Ix b 0) (st (zB (b:=b) (o:=0) rfl (st (XK rfl (st (lD M wT rfl (zb (T.gblk N) rfl) (st (zR (n:=(zr n L).length) sT rfl F.sl (st (mV (Iv 0) (zd (zx (yq (fun mq σ x=> ∃(k:Nat) (ρ:Env),mq=(zr n L).length-k∧σ=yi ρ [(0,Ix b 0),(3,Ix q 0),(48,Iw ((zr n L).length)),(49,Iw k)]∧(k≤(zr n L).length)∧(∀i,i<k→xw L e i=true)∧Sep G1 w ((Blk l (s.cells g).toArray 41)::(Blk q (e.cells de0).toArray 41)::Rs) x) ⟨0,_,rfl,sSf,Nat.zero_le _,(fun i h=>absurd h (Nat.not_lt_zero i)),T⟩ ?_))))))))))))))))))
 rintro m563 σ564 di ⟨k,ρl1,rfl,rfl,hkk,hm,U⟩
 refine za (R0 fun _=>st (zJ (k:=.i64) (a:=((k:Nat):Int)) (b:=(((zr n L).length:Nat):Int)) rfl rfl (zd (za ?_))))
 cases K:decide (((k:Nat):Int)<(((zr n L).length:Nat):Int))
 have K:=fD K
 refine zg rfl (yr (yg (za ?_)))
 have bZ:=Z _ _ U
 obtain⟨d,t,aw⟩:=SetO.open bZ
 let dv:=xX yR EV YU t (ym L) (e.origin,e.seq) YU
 let cR:=MapO yR EV t (ZD (ym L) (e.origin,e.seq) e)
 let bt:=Blk b #[d,.map (some t),Iv (zS L)] 89
 have V:=aw.r1
 have hr571s:_*8≤_:=V.2
 have ca:Sep G W (dv::bt::(RowE (α:=Int) own 3 d (zr n L))::bu::ad::Rs) di:=QV (aw.mv2) (by simpa using z)
 refine WD4 ((fun TT B=>WF [fun vals x=>Sep G W (B::TT) x,fun vals x=> ∃(A:Value),(vals 7=(.agg (e.cells A).toArray:Value))∧Sep G W ((RowE (α:=Int) own 3 A e.deps)::B::TT) x,fun vals x=> ∃(A:Value),(vals 7=(.agg (e.cells A).toArray:Value))∧Sep G W (cR::TT) x]) (bt::(RowE (α:=Int) own 3 d (zr n L))::bu::ad::Rs) dv) (AF [Vl 0 (Ix b 0),Vl 1 (Ix b 0),Vl 2 (Ix b 1),Vl 3 (.map (some t)),Vl 4 (Ix q 0),Vl 5 (.agg #[Iv (e.origin),Iv (e.seq)]),Vl 6 (.agg (e.cells de0).toArray),fun _=>True,fun _=>True]) [[],[0],[0,1],[0,1,2],[],[4],[],[6],(rg 8)] [7,8] [(0,1),(0,1),(0,1),(0,1),(0,1),(0,1),(0,0),(0,0),(1,1)] ca ⟨fun _ _ _ _ _ _ _=>obl rfl (mV (Ix b 0) dR),fun _ _ _ _ _ _ cb=>obl rfl (zB (b:=b) (o:=0) (cb 0 dc) dR),fun _ _ _ _ _ _ cc=>obl rfl (Ve (cc 1 dc) dR),?_,fun _ _ _ _ _ _ _=>obl rfl (yD rfl dR),?_,ob1 0 fun _ _ (cd:Sep _ _ _ _) _=>obl rfl (zf (k:=10) mT lT rfl rfl (CellsAt.all (cd.b4)) dR),?_,?_,trivial⟩ ?_
 refine fun X _ _ dj dk ax ay=>?_
 have hkk:=xA dj dk
 rcases hkk with rfl|rfl
 have ce:Sep _ _ _ _:=ax
 exact obl rfl (lD (.map (some t)) qT (ay 2 dc) (zb (ce.b1) rfl) dR)
 obtain⟨A,H,cf⟩:=ax
 exact obl rfl (lD (.map (some t)) qT (ay 2 dc) (zb (cf.b2) rfl) dR)
 refine fun Y _ _ dl dm az aA=>?_
 have hkk:=xA dl dm
 rcases hkk with rfl|rfl
 have cg:Sep _ _ _ _:=az
 exact obl rfl (zf (k:=2) (cs:=[Iv (e.origin),Iv (e.seq)]) kR lR rfl (aA 4 dc) (CellsAt.sub (CellsAt.all (cg.b4)) 0 (cs2:=[Iv (e.origin),Iv (e.seq)]) rfl) dR)
 obtain⟨A,H,ch⟩:=az
 exact obl rfl (zf (k:=2) (cs:=[Iv (e.origin),Iv (e.seq)]) kR lR rfl (aA 4 dc) (CellsAt.sub (CellsAt.all (ch.b5)) 0 (cs2:=[Iv (e.origin),Iv (e.seq)]) rfl) dR)
 refine ob1 0 fun vals _ (ci:Sep _ _ _ _) cj=>(obl rfl ((zG (f:=37) (vals:=[.agg (e.cells de0).toArray]) (cap:=[]) rfl (yK ⟨(cj 6 dc),trivial⟩) nR (Wo (e:=e) hde0 oe ci) ?_)))
 rintro _ w633 ⟨A,rfl,aB⟩
 have ck:=aB.r0
 have hr635s:_*8≤_:=ck.2
 exact fun D P I=>⟨(exiA A (zv P aB)),trivial⟩
 refine ob1 1 fun _ dp cl aC=>?_
 obtain⟨A,H,cm⟩:=cl
 refine obl rfl ?_
 have cn:Sep G W ((EV (.agg (e.cells A).toArray) e)::dv::bt::(RowE (α:=Int) own 3 d (zr n L))::bu::ad::Rs) dp:=zbi oe cm
 refine(Yd (k:=(e.origin,e.seq)) (cn.mv1) K2i uT (aC 3 dc) (show _=(.agg #[Iv (e.origin),Iv (e.seq)]:Value)from(aC 5 dc)) H ?_)
 intro dq co
 have aN:Sep G W (cR::bt::(RowE (α:=Int) own 3 d (zr n L))::bu::ad::Rs) dq:=co
 exact fun D P I=>⟨(exiA A (zv ((I 7 dc).trans H) aN)),trivial⟩
 intro vals w703 cp hA705
 obtain⟨A,H,cq⟩:=cp
 refine zZ (kv:=[(0,Ix b 0),(3,Ix q 0),(48,Iw ((zr n L).length)),(49,Iw k),(50,.bool false)]) sEv (fun ρw703=>(zd (za ?_)))
 refine WD4 ((fun TT B aa=>WF [fun vals x=>Sep G W (B::aa::(RowE (α:=Int) own 3 d (zr n L))::TT) x,fun vals x=>Sep G W ((RowE (α:=Int) own 3 d ((zr n L).set e.origin.toNat (((zr n L).getD e.origin.toNat 0)+1)))::B::aa::TT) x]) (bu::ad::Rs) cR bt) (AF [Vl 0 (Ix b 0),Vl 1 (Ix b 0),Vl 2 (Ix b 0),Vl 3 (d),Vl 4 (Ix q 0),Vl 5 (Ix q 0),Vl 6 (Iv (e.origin)),Vl 7 (Ix (sb d) (so d+e.origin.toNat*1)),Vl 8 (Iv (((zr n L).getD e.origin.toNat 0))),Vl 9 (Iv (((zr n L).getD e.origin.toNat 0)+1)),Vl 10 (Ix (sb d) (so d+e.origin.toNat*1)),fun _=>True]) [[],[0],[0,1],[0,1,2],[],[4],[4,5],(rg 7),(rg 8),(rg 9),(rg 10),(rg 11)] [11] [(0,0),(0,0),(0,0),(0,0),(0,0),(0,0),(0,0),(0,0),(0,0),(0,0),(0,0),(0,0)] cq ⟨fun _ _ _ _ _ _ _=>obl rfl (mV (Ix b 0) dR),fun _ _ _ _ _ _ cr=>obl rfl (zB (b:=b) (o:=0) (cr 0 dc) dR),fun _ _ _ _ _ _ ct=>obl rfl (XK (ct 1 dc) dR),ob1 0 fun _ _ (cu:Sep _ _ _ _) cv=>obl rfl (lD d wT (cv 2 dc) (zb (cu.b1) rfl) dR),fun _ _ _ _ _ _ _=>obl rfl (yD rfl dR),fun _ _ _ _ _ _ cw=>obl rfl (xD (cw 4 dc) dR),ob1 0 fun _ _ (cx:Sep _ _ _ _) cy=>obl rfl (lD (Iv (e.origin)) kT (cy 5 dc) (zb (cx.b4) rfl) dR),?_,?_,?_,?_,?_,trivial⟩ ?_
 refine ob1 0 fun _ _ _ aD=>(obl rfl ?_)
 have hi867:e.origin.toNat<(zr n L).length:=bo
 exact zA (k:=1) (i:=e.origin) sT pT (aD 3 dc) V.1 (aD 6 dc) ⟨by omega,by omega⟩ dR
 refine ob1 0 fun _ _ (cz:Sep _ _ _ _) cC=>(obl rfl ?_)
 have cD:e.origin.toNat<(zr n L).length:=bo
 obtain⟨_,_,aO,rfl,hxe876⟩:=cz.rowAtI (i:=2) (j:=e.origin.toNat) rfl cD
 exact lD (Iv (((zr n L).getD e.origin.toNat 0))) kT (cC 7 dc) (aO.get (j:=0) rfl) dR
 refine ob1 0 fun _ _ _ cE=>(obl rfl ?_)
 have cF:InR (((zr n L).getD e.origin.toNat 0)+1):=by omega
 exact yb (r:=((zr n L).getD e.origin.toNat 0)+1) (k:=.i64) (a:=((zr n L).getD e.origin.toNat 0)) (b:=1) (cE 8 dc) rfl (zM cF) dR
 refine ob1 0 fun _ _ _ aE=>(obl rfl ?_)
 have hi896:e.origin.toNat<(zr n L).length:=bo
 exact zA (k:=1) (i:=e.origin) sT pT (aE 3 dc) V.1 (aE 6 dc) ⟨by omega,by omega⟩ dR
 refine ob1 0 fun _ _ (cG:Sep _ _ _ _) aF=>(obl rfl ?_)
 refine(xu (α:=Int) (j:=e.origin.toNat) (o:=0) (u:=Iv (((zr n L).getD e.origin.toNat 0)+1)) (us:=[Iv (((zr n L).getD e.origin.toNat 0)+1)]) (x1:=((zr n L).getD e.origin.toNat 0)+1) ((cG.mv2).emp1) pT bo (aF 10 (by decide)) (aF 9 (by decide)) rfl (Nat.le_of_ble_eq_true rfl) (ye ⟨rfl,trivial⟩) (fun _ _ cQ hel _=>(by have du:=Src.len _ hel;have e0:cQ.take 0++(([Iv (((zr n L).getD e.origin.toNat 0)+1)]:List Value))++cQ.drop (0+(([Iv (((zr n L).getD e.origin.toNat 0)+1)]:List Value)).length)=(([Iv (((zr n L).getD e.origin.toNat 0)+1)]:List Value)):=(by rw[List.drop_eq_nil_of_le (by rw[du];exact Nat.le_of_ble_eq_true rfl)];simp);rw[e0];exact(show _ from⟨rfl,(by omega)⟩))) ?_)
 intro w804 aG
 have cH:=aG.r0
 have hr808s:_*8≤_:=cH.2
 exact fun D P I=>⟨aG,trivial⟩
 intro vals w897 cI hA899
 have cJ:Sep _ _ _ _:=cI
 refine zZ (kv:=[(0,Ix b 0),(3,Ix q 0),(48,Iw ((zr n L).length)),(49,Iw k),(50,.bool false)]) sEv (fun ρw897=>(zd (za ?_)))
 refine WD4 ((fun TT B aa=>WF [fun vals x=>Sep G W (B::aa::bt::TT) x,fun vals x=>Sep G W (B::aa::(Blk b #[d,.map (some t),Iv (max (zS L) e.lam)] 89)::TT) x]) (bu::ad::Rs) (RowE (α:=Int) own 3 d ((zr n L).set e.origin.toNat (((zr n L).getD e.origin.toNat 0)+1))) cR) (AF [Vl 0 (Ix b 0),Vl 1 (Ix b 0),Vl 2 (Ix b 0),Vl 3 (Ix b 2),Vl 4 (Iv (zS L)),Vl 5 (Ix q 2),Vl 6 (Iv (e.lam)),Vl 7 (Iv (max (zS L) e.lam)),Vl 8 (Ix b 0),Vl 9 (Ix b 2),fun _=>True]) [[],[],[1],[1,2],[1,2,3],[],[5],[1,2,3,4,5,6],(rg 8),(rg 9),(rg 10)] [10] [(0,0),(0,0),(0,0),(0,0),(0,0),(0,0),(0,0),(0,0),(0,0),(0,0),(0,0)] cJ ⟨fun _ _ _ _ _ _ _=>obl rfl (mV (Ix b 0) dR),fun _ _ _ _ _ _ _=>obl rfl (mV (Ix b 0) dR),fun _ _ _ _ _ _ cK=>obl rfl (zB (b:=b) (o:=0) (cK 1 dc) dR),fun _ _ _ _ _ _ aP=>obl rfl (Ul (aP 2 dc) dR),ob1 0 fun _ _ (aQ:Sep _ _ _ _) aR=>obl rfl (lD (Iv (zS L)) kT (aR 3 dc) (zb (aQ.b2) rfl) dR),fun _ _ _ _ _ _ _=>obl rfl (Zi rfl dR),ob1 0 fun _ _ (aT:Sep _ _ _ _) aU=>obl rfl (lD (Iv (e.lam)) kT (aU 5 dc) (zb (aT.b4) rfl) dR),ob1 0 fun _ _ _ ab=>obl rfl (YE (k:=.i64) (a:=zS L) (b:=e.lam) (ab 4 dc) (ab 6 dc) dR),fun _ _ _ _ _ _ aV=>obl rfl (zB (b:=b) (o:=0) (aV 0 dc) dR),fun _ _ _ _ _ _ aW=>obl rfl (Ul (aW 8 dc) dR),?_,trivial⟩ ?_
 refine ob1 0 fun _ _ (aH:Sep _ _ _ _) aI=>(obl rfl ((yz (v:=Iv (max (zS L) e.lam)) (c:=[d,.map (some t),Iv (zS L)]) (c':=[d,.map (some t),Iv (max (zS L) e.lam)]) pT (aI 9 dc) (aI 7 dc) (aH.b2) rfl rfl rfl ?_)))
 intro w981 cM
 exact fun D P I=>⟨(aH.pt2 cM),trivial⟩
 intro vals cN aX hA1057
 have aY:Sep _ _ _ _:=aX
 refine zZ (kv:=[(0,Ix b 0),(3,Ix q 0),(48,Iw ((zr n L).length)),(49,Iw k),(50,.bool false)]) sEv (fun ρw1055=>(zd (za (R0 fun _=>st (aS (Iv 0) (zd (zj (zK tT (show _=(Iv 0:Value)from rfl) ?_))))))))
 have aZ:Sep G W ((SetO b n (Zb e L))::bu::ad::Rs) cN:=SetO.close (aY.mv2) zak (by rw[O];exact zaJ ds cY) (VN (by simpa using z))
 refine⟨(Zb e L),?_,?_,(aZ.s3_a)⟩
 rw[Jw m z (by rw[O]at p;exact p) (fun i hi=>hm i (by omega))]
 rw[Jp (Jw m z (by rw[O]at p;exact p) (fun i hi=>hm i (by omega)))]
 have K:=tD K
 refine zh rfl (zl (za (zx (za (R0 fun _=>st (mV (Iw k) (st (aS (Iw k) (zd (za (R0 fun _=>st (mV (Ix b 0) (st (zf (k:=10) mT lT rfl rfl (CellsAt.all (U.b1)) (st (mV (Iw k) ?_))))))))))))))))
 refine st (cL Tryz.call36 (zaI (e:=e) (o:=k) cO (RdS.base hde0 cP) oe yqe U (dt) (hlen)) ?_)
 rintro _ w1062 ⟨rfl,ac⟩
 refine st (yF (a:=(xw L e k)) rfl (zd ?_))
 cases C: !(xw L e k)
 try simp only[ze]at C
 refine zg rfl (zl (R0 fun _=>?_))
 have ba:InR ((k+1:Nat):Int):=bo
 refine st (yb (r:=((k+1:Nat):Int)) (k:=.i64) (a:=((k:Nat):Int)) (b:=1) rfl rfl (by rw[show(((k:Nat):Int)+1:Int)=((k+1:Nat):Int)from bo];exact zM ba) (st (mV (Iw (k+1)) (zd ?_))))
 exact⟨_,by omega,k+1,_,rfl,sSf,by omega,(yV hm (by simpa using C)),ac⟩
 try simp only[ze]at C
 refine zh rfl (za (R0 fun _=>st (aS (Iv 9) (zd (zj (zK tT (show _=(Iv 9:Value)from rfl) ?_))))))
 have bb:=Z _ _ ac
 refine⟨L,?_,?_,(bb.s3_a)⟩
 rw[zaV m z (by rw[O]at p;exact p) (k:=k) (by omega) (by simpa using C)]
 rw[Xd (by rw[zaV m z (by rw[O]at p;exact p) (k:=k) (by omega) (by simpa using C)];decide)]
 have p:=zy p
 refine zh rfl (za (R0 fun _=>st (aS (Iv 9) (zd (zj (zK tT (show _=(Iv 9:Value)from rfl) ?_))))))
 have bc:=Z _ _ T
 refine⟨L,?_,?_,(bc.s3_a)⟩
 rw[zba m z (by rw[O]at p;exact p)]
 rw[Xd (by rw[zba m z (by rw[O]at p;exact p)];decide)]
 refine zh rfl (za (R0 fun _=>st (aS (Iv 16) (zd (zj (zK tT (show _=(Iv 16:Value)from rfl) ?_))))))
 have bd:=Z _ _ aq
 refine⟨L,?_,?_,(bd.s3_a)⟩
 rw[zaX m z]
 rw[Xd (by rw[zaX m z];decide)]
 have m:=zy m
 refine zh rfl (za (R0 fun _=>st (mV (Iv ((yv e (((zr n L).length:Nat):Int)))) (st (aS (Iv ((yv e (((zr n L).length:Nat):Int)))) (zd (zj (zK tT (show _=(Iv ((yv e (((zr n L).length:Nat):Int))):Value)from rfl) ?_))))))))
 have be:=Z _ _ ag
 refine⟨L,?_,?_,(be.s2_a)⟩
 rw[af]at*;rw[zbb m]
 rw[af]at*;rw[Xd (by rw[zbb m];exact m)]
end
section
theorem UD {a b:Ev}:ltE a b=true↔ZM a b<0:=by
 rw[xz]
 unfold ltE
 by_cases h1:a.lam=b.lam
 ·by_cases h2:a.origin=b.origin
  ·simp[h1,h2]
  ·simp[h1,h2]
 ·simp[h1]
theorem Qy {a b c:Ev}(h1:ZM a b<0)(h2:ZM b c<0):ZM a c<0:=by rw[xz]at*;omega
theorem QU {a b:Ev}(h:idE a≠idE b):ZM a b<0∨ZM b a<0:=by
 rw[xz,xz]
 have h': ¬(a.origin=b.origin∧a.seq=b.seq):=fun e=>h (by unfold idE;rw[e.1,e.2])
 omega
theorem zaH {a b:Ev}(h:a.lam<b.lam):ZM a b<0:=by rw[xz];omega
section
variable {n:Nat}{L T:List Ev}{e x y:Ev}
theorem YC:x∈Zb e L↔x=e∨x∈L:=by rw[insE_perm.mem_iff,List.mem_cons]
theorem JE (hs:Srt L)(hn:idE e∉L.map idE):Srt (Zb e L):=by
 induction L with
 |nil=>exact List.pairwise_singleton _ _
 |cons x l ih=>
  unfold Srt at hs⊢
  rw[List.pairwise_cons]at hs
  have hne:idE e≠idE x:=fun h=>hn (by rw[h];exact List.mem_map.2 ⟨x,List.mem_cons_self ..,rfl⟩)
  simp only[Zb]
  split
  ·rename_i hlt
   have h1:=UD.1 hlt
   rw[List.pairwise_cons,List.pairwise_cons]
   refine⟨fun y hy=>?_,hs.1,hs.2⟩
   rcases List.mem_cons.1 hy with rfl|hy
   ·exact h1
   ·exact Qy h1 (hs.1 y hy)
  ·rename_i hlt
   rw[List.pairwise_cons]
   refine⟨fun y hy=>?_,ih hs.2 (fun h=>hn (List.mem_cons_of_mem _ h))⟩
   rcases YC.1 hy with rfl|hy
   ·rcases QU hne with h|h
    ·exact absurd (UD.2 h) hlt
    ·exact h
   ·exact hs.1 y hy
structure Good (n:Nat) (L:List Ev):Prop where
 chk: ∀e∈L,yv e n=0
 ids:(L.map idE).Nodup
 srt:Srt L
 knw: ∀e∈L,∀o,o<n→xw L e o=true
 seqle: ∀e∈L,e.seq≤((xM L e.origin.toNat:Nat):Int)
 fill: ∀(o:Nat) (q:Int),1≤q→q≤((xM L o:Nat):Int)→(ym L ((o:Int),q)).isSome=true
theorem Good.nil:Good n []:=by
 refine⟨fun _ h=>by simp at h,List.nodup_nil,List.Pairwise.nil,fun _ h=>by simp at h,fun _ h=>by simp at h,fun o q h1 h2=>?_⟩
 have h3:xM [] o=0:=rfl
 omega
theorem Good.nodup (h:Good n L):L.Nodup:=(List.pairwise_map.1 h.ids).imp fun hab e=>hab (congrArg idE e)
theorem Good.len (h:Good n L): ∀y∈L,y.deps.length=n:=fun y hy=>(xU (h.chk y hy)).2.2.1
theorem Good.org (h:Good n L)(hx:x∈L):((x.origin.toNat:Nat):Int)=x.origin:=by
 have:=(xU (h.chk x hx)).1.1;omega
theorem Good.uniq (h:Good n L)(hx:x∈L)(hy:y∈L)(he:idE x=idE y):x=y:=by
 have h1:=xQ h.ids hx
 have h2:=xQ h.ids hy
 rw[he,h2]at h1
 exact(Option.some.inj h1).symm
theorem Good.get (h:Good n L)(hx:x∈L):ym L (x.origin,x.seq)=some x:=xQ h.ids hx
theorem WB {k:Int×Int}(h:(ym L k).isSome=true): ∃x,ym L k=some x∧x∈L∧idE x=k:=by
 obtain⟨x,hx⟩:=Option.isSome_iff_exists.1 h
 obtain⟨h1,h2,h3⟩:=ZL hx
 exact⟨x,hx,h1,by unfold idE;rw[h2,h3]⟩
theorem Yl {o:Nat}:xw L e o=true↔e.deps.getD o 0=0∨ ∃x,ym L ((o:Int),e.deps.getD o 0)=some x∧x.lam<e.lam∧ ∀i,i<x.deps.length→x.deps.getD i 0≤e.deps.getD i 0:=by
 unfold xw
 by_cases h:e.deps.getD o 0=0
 ·rw[decide_eq_true h,Bool.true_or];exact⟨fun _=>.inl h,fun _=>rfl⟩
 ·rw[decide_eq_false h,Bool.false_or]
  constructor
  ·intro h1
   cases hg:ym L ((o:Int),e.deps.getD o 0)with
   |none=>rw[hg]at h1;cases h1
   |some x=>
    rw[hg]at h1
    simp only[Bool.and_eq_true,decide_eq_true_eq,List.all_eq_true,List.mem_range]at h1
    exact .inr ⟨x,rfl,h1.1,fun i hi=>h1.2 i hi⟩
  ·rintro(h1|⟨x,hg,h1,h2⟩)
   ·exact absurd h1 h
   ·rw[hg]
    simp only[Bool.and_eq_true,decide_eq_true_eq,List.all_eq_true,List.mem_range]
    exact⟨h1,fun i hi=>h2 i hi⟩
theorem Good.pred (h:Good n L)(hx:x∈L)(h1:1<x.seq): ∃z∈L,z.origin=x.origin∧z.seq=x.seq-1∧z.lam<x.lam:=by
 obtain⟨⟨ho,ho'⟩,_,_,hd⟩:=xU (h.chk x hx)
 have hk:=h.knw x hx x.origin.toNat (by omega)
 rw[Yl,hd]at hk
 rcases hk with hk|⟨z,hz,hl,_⟩
 ·omega
 ·obtain⟨h2,h3,h4⟩:=ZL hz
  exact⟨z,h2,by rw[h3];exact h.org hx,h4,hl⟩
theorem Good.order (h:Good n L): ∀(k:Nat) {x y:Ev},x∈L→y∈L→x.origin=y.origin→y.seq=x.seq+(k:Int)+1→x.lam<y.lam
 |k,x,y,hx,hy,ho,hk=>by
  have h1:1<y.seq:=by have:=(xU (h.chk x hx)).2.1.1;omega
  obtain⟨z,hz,hzo,hzs,hzl⟩:=h.pred hy h1
  cases k with
  |zero=>
   have:x=z:=h.uniq hx hz (by unfold idE;rw[ho,hzo,hzs];congr 1;omega)
   rw[this];exact hzl
  |succ k=>
   have:=Good.order h k hx hz (ho.trans hzo.symm) (by rw[hzs,hk];omega)
   omega
theorem Good.ahead (h:Good n L)(hx:x∈L)(hy:y∈L)(ho:x.origin=y.origin)(hs:x.seq<y.seq):ZM x y<0:=
 zaH (h.order (y.seq-x.seq-1).toNat hx hy ho (by omega))
theorem add_zero (h:xT n L e=0):yv e n=0∧(ym L (e.origin,e.seq)).isSome=false∧e.seq=((xM L e.origin.toNat:Nat):Int)+1∧ ∀o,o<n→xw L e o=true:=by
 unfold xT at h
 split at h
 ·rename_i h1;exact absurd h h1
 ·rename_i h1
  split at h
  ·cases h
  ·rename_i h2
   split at h
   ·cases h
   ·rename_i h3
    split at h
    ·rename_i h4
     refine⟨by simpa using h1,by simpa using h2,by simpa using h3,fun o ho=>?_⟩
     exact(List.all_eq_true.1 h4) o (List.mem_range.2 ho)
    ·cases h
theorem Wt {k:Int×Int}(h:(ym L (e.origin,e.seq)).isSome=false):ym (Zb e L) k=if(e.origin,e.seq)=k then some e else ym L k:=by
 rw[←VN h];rfl
theorem Good.add (h:Good n L)(h0:xT n L e=0):Good n (Zb e L):=by
 obtain⟨hc,hg,hs,hk⟩:=add_zero h0
 obtain⟨⟨ho,ho'⟩,⟨hs1,_⟩,hdl,hdq⟩:=xU hc
 have hid:idE e∉L.map idE:=fun hm=>by
  have:=Uc.2 hm
  unfold idE at this
  rw[hg]at this;cases this
 have hkn: ∀{x:Ev} {o:Nat},xw L x o=true→xw (Zb e L) x o=true:=fun{x o} hx=>by
  rw[Yl]at hx⊢
  rcases hx with hx|⟨z,hz,h1,h2⟩
  ·exact .inl hx
  ·refine .inr ⟨z,?_,h1,h2⟩
   rw[Wt hg,if_neg,hz]
   intro he
   rw[he,hz]at hg;cases hg
 refine⟨fun x hx=>?_,?_,JE h.srt hid,fun x hx o hlt=>?_,fun x hx=>?_,fun o q h1 h2=>?_⟩
 ·rcases YC.1 hx with rfl|hx
  ·exact hc
  ·exact h.chk x hx
 ·have hp:((Zb e L).map idE).Perm (idE e::L.map idE):=insE_perm.map idE
  exact hp.nodup_iff.2 (List.nodup_cons.2 ⟨hid,h.ids⟩)
 ·rcases YC.1 hx with rfl|hx
  ·exact hkn (hk o hlt)
  ·exact hkn (h.knw x hx o hlt)
 ·rw[WY]
  rcases YC.1 hx with rfl|hx
  ·rw[if_pos (by omega)];omega
  ·have:=h.seqle x hx;omega
 ·rw[WY]at h2
  rw[Wt hg]
  by_cases he:(e.origin,e.seq)=((o:Int),q)
  ·rw[if_pos he];rfl
  ·rw[if_neg he]
   refine h.fill o q h1 ?_
   by_cases hoe:e.origin=(o:Int)
   ·rw[if_pos hoe]at h2
    have:e.seq≠q:=fun hq=>he (by rw[hoe,hq])
    have h3:e.origin.toNat=o:=by omega
    rw[h3]at hs
    omega
   ·rw[if_neg hoe]at h2;simpa using h2
theorem Good.addL (h:Good n L):Good n (addL n L e):=by
 unfold Go.Proofs.YtbbabhaalmkbkaaGreatDoor.addL
 split
 ·rename_i h0;exact h.add h0
 ·exact h
def xi (n:Nat)(l:List Ev):List Ev:=l.foldl (addL n) []
theorem Uk {l:List Ev}:xi n (l++[e])=addL n (xi n l) e:=by unfold xi;rw[List.foldl_append];rfl
theorem Xi: ∀{l:List Ev} {L:List Ev},Good n L→Good n (l.foldl (addL n) L)
 |[],_,h=>h
 |_::l,_,h=>Xi (l:=l) h.addL
theorem laidL_good {l:List Ev}:Good n (xi n l):=Xi Good.nil
theorem JU:(addL n L e).length≤L.length+1:=by
 unfold addL
 split
 ·rw[JL];omega
 ·omega
theorem Wg: ∀{l:List Ev} {L:List Ev},(l.foldl (addL n) L).length≤L.length+l.length
 |[],_=>Nat.le_refl _
 |x::l,L=>by
  have:=Wg (l:=l) (L:=addL n L x)
  have h2:=JU (n:=n) (L:=L) (e:=x)
  simp only[List.foldl_cons,List.length_cons]
  omega
theorem ZU {l:List Ev}:(xi n l).length≤l.length:=by have:=Wg (n:=n) (l:=l) (L:=[]);simpa[xi]using this
end
end
section
set_option maxRecDepth 8000
set_option maxHeartbeats 4000000
open Go.Proofs Go.RowKit
def xC (c:Cmd)(ver:Int):Int:=if(decide (c.expect= -1)||decide (c.expect=ver))=true then 0 else 11
def yT (d:Dcl)(k:Int×Int)(V:List Ent):Sta:=⟨((yd k V:Nat):Int),zQ d k V⟩
def exR (d:Dcl)(n:Nat)(L:List Ev)(V:List Ent)(o start:Int)(c:Cmd):Ev×Bool×Int:=
 if ¬xj d c=0 then(ev0,false,xj d c)else match yP L c.ckey with
 |some e=>(e,false,0)
 |none=>if ¬xC c ((yd (c.ctyp,c.cagg) V:Nat):Int)=0 then(ev0,false,xC c ((yd (c.ctyp,c.cagg) V:Nat):Int))
  else if ¬yX (xN d c.ctyp) (zQ d (c.ctyp,c.cagg) V) c.cfield c.cop c.carg=0 then(ev0,false,yX (xN d c.ctyp) (zQ d (c.ctyp,c.cagg) V) c.cfield c.cop c.carg)
  else(evE c o (zr n L) (max (zS L) start),decide (evN o (zr n L) (max (zS L) start)=0),evN o (zr n L) (max (zS L) start))
theorem QZ {G:Nat→Prop}{W w:World}{As:List HP}{T:TypeId}{d:Value}{l:List Int}(h:Sep G W (RowE (α:=Int) own T d l::As) w):Sep G W (DepO d l::As) w:=h.impl (i:=0) rfl (fun _ h=>RowE.soft h)
theorem D_ex1 {G:Nat→Prop}{W w:World}{Rs:List HP}{bc:Nat}{c:Cmd}(hbc:(Blk bc (c.cells).toArray 28).p W G)(oc:c.Ok){bs:Nat}{x:Sta}{vx:Value}(hbs:(Blk bs (x.cells vx).toArray 47).p W G)(hvx:RdS W G vx x.cls)(ox:x.Ok)(hS0:Sep G W Rs w):Ret Tryz.prog 29 [.pointer (some ⟨bc,0,none⟩),.pointer (some ⟨bs,0,none⟩)] w (fun r w'=>r=(.int .i64 ((xC c x.ver)):Value)∧Sep G W Rs w'):=by
 refine zi (args:=[Ix bc 0,Ix bs 0]) Tryz.func29 rfl rfl ?_
 refine za (R0 fun _=>st (aS (Iv 0) (zd (za (za (zz kr (st (Yk rfl (st (lD (Iv (c.expect)) kT rfl (zb (hS0.gblk hbc) rfl) (st (yc (k:=.i64) (a:=c.expect) (b:= -1) rfl rfl (st (mV (.bool (decide (c.expect=(-1)))) (stc (V:=Ix bc 5) rfl rfl (fun i=>?_) ?_)))))))))))))))
 have hl2:=fD i
 exact Yk rfl ⟨rfl,rfl⟩
 refine stc (V:=Iv (c.expect)) rfl rfl (fun g=>?_) ?_
 have hl4:=fD g
 exact lD (Iv (c.expect)) kT (if_pos g) (zb (hS0.gblk hbc) rfl) ⟨rfl,rfl⟩
 refine stc (V:=Ix bs 0) rfl rfl (fun j=>?_) ?_
 have hl6:=fD j
 exact ZS rfl ⟨rfl,rfl⟩
 refine stc (V:=Iv (x.ver)) rfl rfl (fun h=>?_) ?_
 have hl8:=fD h
 exact lD (Iv (x.ver)) kT (if_pos h) (zb (hS0.gblk hbs) rfl) ⟨rfl,rfl⟩
 refine stc (V:=.bool (decide (c.expect=x.ver))) rfl rfl (fun f=>?_) ?_
 have hl10:=fD f
 exact yc (k:=.i64) (a:=c.expect) (b:=x.ver) (if_pos f) (if_pos f) ⟨rfl,rfl⟩
 refine st (zp (b:=decide (c.expect=(-1))) (b':=decide (c.expect=x.ver)) rfl (fun hbp=>(if_pos hbp)) (zd ?_))
 cases d:(decide (c.expect=(-1)))||(decide (c.expect=x.ver))
 have e:=d
 try simp only[ze]at d
 refine zg rfl (zl (za (R0 fun _=>st (aS (Iv 11) (zd (zj (zK tR (show _=(Iv 11:Value)from rfl) ?_)))))))
 refine⟨?_,hS0⟩
 unfold xC
 simp only[e,if_true,if_false,Bool.false_eq_true,↓reduceIte]
 have e:=d
 try simp only[ze]at d
 refine zh rfl (za (R0 fun _=>st (aS (Iv 0) (zd (zj (zK tR (show _=(Iv 0:Value)from rfl) ?_))))))
 refine⟨?_,hS0⟩
 unfold xC
 simp only[e,if_true,if_false,Bool.false_eq_true,↓reduceIte]
theorem D_ex2 {G:Nat→Prop}{W w:World}{Rs:List HP}{bt:Nat}{t:Typ}{vt:Value}(hbt:(Blk bt (t.cells vt).toArray 53).p W G)(hvt:RdS W G vt t.fields)(ot:t.Ok){bs:Nat}{x:Sta}{vx:Value}(hbs:(Blk bs (x.cells vx).toArray 47).p W G)(hvx:RdS W G vx x.cls)(ox:x.Ok){bc:Nat}{c:Cmd}(hbc:(Blk bc (c.cells).toArray 28).p W G)(oc:c.Ok)(hS0:Sep G W Rs w)(hak:XQ t x.cls c.cfield c.cop c.carg):Ret Tryz.prog 30 [.pointer (some ⟨bt,0,none⟩),.pointer (some ⟨bs,0,none⟩),.pointer (some ⟨bc,0,none⟩)] w (fun r w'=>r=(.int .i64 (yX t x.cls c.cfield c.cop c.carg):Value)∧Sep G W Rs w'):=by
 refine zi (args:=[Ix bt 0,Ix bs 0,Ix bc 0]) Tryz.func30 rfl rfl ?_
 refine za (R0 fun _=>st (aS (Iv 0) (zd (za (R0 fun _=>st (zf (k:=1) Tryz.isAgg53 Tryz.sizeOf53 rfl rfl (CellsAt.all (hS0.gblk hbt)) (st (yY rfl (st (lD vx Tryz.isAgg45 rfl (zb (hS0.gblk hbs) rfl) (st (Vm rfl (st (lD (Iv (c.cfield)) kT rfl (zb (hS0.gblk hbc) rfl) (st (WC rfl (st (lD (Iv (c.cop)) kT rfl (zb (hS0.gblk hbc) rfl) (st (XA rfl (st (lD (Iv (c.carg)) kT rfl (zb (hS0.gblk hbc) rfl) (st (cL Tryz.call31 (zaZ (t:=t) (c:=x.cls) (vc:=vx) (f:=c.cfield) (op:=c.cop) (arg:=c.carg) hvt ot hvx oc.cfield oc.cop oc.carg hS0 (hak)) ?_))))))))))))))))))))))))
 rintro _ w1 ⟨rfl,a⟩
 refine st (aS (Iv (yX t x.cls c.cfield c.cop c.carg)) (zd (zj (zK Tryz.results30 (show _=(Iv (yX t x.cls c.cfield c.cop c.carg):Value)from rfl) ?_))))
 refine⟨rfl,a⟩
end
end Go.Proofs.YtbbabhaalmkbkaaGreatDoor
