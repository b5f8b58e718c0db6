import Derived.WalkKit
import Derived.WalkSpells
import Derived.ProofKit
set_option maxRecDepth 8000
set_option maxHeartbeats 4000000
set_option linter.unusedSimpArgs false
set_option linter.unusedVariables false
set_option linter.unusedSectionVars false
set_option linter.deprecated false
namespace Go.Proofs.YtpdolkiohjdodaaGreatDoor
section
theorem exiA.{u}{α:Sort u}{p:α→Prop}(w:α)(h:p w):Exists p:=⟨w,h⟩
theorem zA {a b:Prop}(x:a)(y:b):a∧b:=⟨x,y⟩
theorem xE {k:Nat}(h:0≤k)(g:k≤1):k=0∨k=1:=by omega
theorem UT {k:Nat}(h:0≤k)(g:k≤2):k=0∨k=1∨k=2:=by omega
theorem xI:(∀a b:Bool,((a&&b)=true)=(a=true∧b=true))∧(∀a b:Bool,((a||b)=true)=(a=true∨b=true))∧(∀a b:Bool,((a&&b)=false)↔(a=false∨b=false))∧(∀a b:Bool,((a||b)=false)↔(a=false∧b=false))∧(∀(p:Prop) [Decidable p],(decide p=true)=p)∧(∀(p:Prop) [Decidable p],(decide p=false)↔ ¬p)∧(∀b:Bool,((!b)=true)=(b=false))∧(∀b:Bool,((!b)=false)=(b=true))∧(∀a b:Int,¬a<b↔b≤a)∧(∀a b:Int,¬a≤b↔b<a):=⟨Bool.and_eq_true,Bool.or_eq_true,fun _ _=>Bool.and_eq_false_iff,fun _ _=>Bool.or_eq_false_iff,fun _ _=>decide_eq_true_eq,fun _ _=>decide_eq_false_iff_not,by simp,by simp,fun _ _=>Int.not_lt,fun _ _=>Int.not_le⟩
theorem yA:(∀(α:Type) (a b:α) (l:List α),a∈b::l↔a=b∨a∈l)∧(∀(α:Type) (a:α),¬a∈([]:List α))∧(∀p:Prop,(p∨False)=p):=⟨fun _ _ _ _=>List.mem_cons,fun _ _=>List.not_mem_nil,or_false⟩
abbrev Env:=Nat→Value
def upd (σ:Env)(d:Nat)(v:Value):Env:=fun i=>bif Nat.beq i d then v else σ i
def YC (σ:Env):Option Nat→Value→Env
 |some d,v=>upd σ d v
 |none,_=>σ
def ev (σ:Env):Operand→Value
 | .tmp t=>σ t
 | .const v=>v
 | .global g=>.pointer (some ⟨g,0,none⟩)
 | .func f=>.func (.func f) #[] #[]
structure Sim (n:Nat) (σ:Env) (a:Act):Prop where
 size:a.tmps.size=n
 defers:a.defers=[]
 get: ∀i,a.tmps.getD i undef=σ i
theorem VE (σ:Env)(d:Nat)(v:Value):upd σ d v d=v:=by simp[upd]
theorem Kw (σ:Env){d i:Nat}(v:Value)(h:i≠d):upd σ d v i=σ i:=by
 have:Nat.beq i d=false:=by
  cases hb:Nat.beq i d with
  |false=>rfl
  |true=>exact absurd (Nat.eq_of_beq_eq_true hb) h
 simp[upd,this]
theorem Sim.eval {n:Nat}{σ:Env}{a:Act}(h:Sim n σ a):a.eval=ev σ:=by
 funext x;cases x<;>simp[Act.eval,ev,←h.get]
theorem Sim.put {n:Nat}{σ:Env}{a:Act}(h:Sim n σ a){dst:Option Nat}(hd: ∀d,dst=some d→d<n)(v:Value):Sim n (YC σ dst v) (a.put dst v):=by
 cases dst with
 |none=>exact h
 |some d=>
  refine⟨by simp[Act.put,h.size],h.defers,fun i=>?_⟩
  have hlt:=hd d rfl
  by_cases hi:i=d
  ·subst hi
   have:i<a.tmps.size:=by rw[h.size];exact hlt
   simp[Act.put,YC,VE,this]
  ·rw[show YC σ (some d) v i=σ i from Kw σ v hi,←h.get i]
   simp[Act.put,Array.getElem?_setIfInBounds_ne (Ne.symm hi)]
def yl (ops:Array Oper)(σ:Env)(j:Nat):Option Bool:=
 match (ops[j]?).bind (·.dst)with
 |some d=>match σ d with
  | .bool b=>some b
  |_=>none
 |none=>none
theorem Sim.yielded {n:Nat}{σ:Env}{a:Act}(h:Sim n σ a)(ops:Array Oper):yielded ops a.tmps=yl ops σ:=by
 funext j
 unfold Go.yielded yl
 cases(ops[j]?).bind (·.dst)with
 |none=>rfl
 |some d=>
  have:=h.get d
  simp only[Option.bind_some]
  rw[←this]
  simp only[Array.getD_eq_getD_getElem?]
  cases a.tmps[d]? with
  |none=>simp[undef]
  |some v=>simp only[Option.getD_some];cases v<;>rfl
abbrev Xz:=Exit→Env→World→Prop
def WP (P:Program)(n:Nat)(c:Code)(Q:Xz)(σ:Env)(w:World):Prop:=
 ∀a,Sim n σ a→c.wp P (fun e a' w'=> ∃σ',Sim n σ' a'∧Q e σ' w') a w
def opV (P:Program)(o:Oper)(σ:Env)(w:World)(K:Value→World→Prop):Prop:=
 match (execOp (ev σ) o).run P w with
 | .ok (.value v) w'=>K v w'
 | .ok .skip w'=>K undef w'
 | .ok (.enter f args) w'=>Calls P f args w' fun e w''=> ∃v,e=.returned v∧K v w''
 |_=>False
def opP (P:Program)(o:Oper)(K:Env→World→Prop)(σ:Env)(w:World):Prop:=opV P o σ w fun v w'=>K (YC σ o.dst v) w'
def xD (n:Nat)(ops:List Oper):Bool:=ops.all fun o=>match o.dst with|some d=>Nat.blt d n|none=>true
def WPs (P:Program)(ops:Array Oper)(K:Env→World→Prop):List Oper→Env→World→Prop
 |[],σ,w=>K σ w
 |o::rest,σ,w=>if Region.wanted o (yl ops σ)then opP P o (WPs P ops K rest) σ w else WPs P ops K rest (YC σ o.dst undef) w
section
variable {P:Program}{n:Nat}{Q:Xz}{σ:Env}{w:World}{ops:Array Oper}
theorem Vn {o:Oper}{a:Act}{K:Env→World→Prop}{next:Act→World→Prop}{Q':Exit→Act→World→Prop}(hs:Sim n σ a)
 (hn: ∀a' σ' w',Sim n σ' a'→K σ' w'→next a' w') (hd: ∀d,o.dst=some d→d<n) (h:opP P o K σ w):o.wp P a w next Q':=by
 unfold opP opV at h
 unfold Oper.wp
 rw[hs.eval]
 generalize (execOp (ev σ) o).run P w=r at*
 cases r with
 |halt x w'=>cases x<;>exact h.elim
 |ok x w'=>
  cases x<;>try exact h.elim
  case value v=>exact hn _ _ _ (hs.put hd v) h
  case skip=>exact hn _ _ _ (hs.put hd undef) h
  case enter f args=>
   refine Calls.mono h fun e w''=>?_
   rintro⟨v,rfl,hk⟩
   exact hn _ _ _ (hs.put hd v) hk
theorem QG {K:Env→World→Prop}{Q':Exit→Act→World→Prop}(hK: ∀a σ w,Sim n σ a→K σ w→Q' .normal a w):
 ∀(l:List Oper),xD n l=true→ ∀(σ:Env) (a:Act) (w:World),Sim n σ a→WPs P ops K l σ w→wpList P ops Q' l a w
 |[],_,σ,a,w,hs,h=>hK a σ w hs h
 |o::rest,hd,σ,a,w,hs,h=>by
  simp only[xD,List.all_cons,Bool.and_eq_true]at hd
  have hd1: ∀d,o.dst=some d→d<n:=by
   intro d hd'
   have:=hd.1
   rw[hd']at this
   simpa using this
  have ih:=QG hK rest (by simpa[xD]using hd.2)
  simp only[WPs]at h
  simp only[wpList,hs.yielded]
  split
  ·rename_i hw
   rw[if_pos hw]at h
   exact .inl (Vn hs (fun a' σ' w' hs' hk=>ih σ' a' w' hs' hk) hd1 h)
  ·rename_i hw
   rw[if_neg hw]at h
   exact ih _ _ _ (hs.put hd1 undef) h
theorem zF {id:Nat}{l:List Oper}(hd:xD n l=true)(h:WPs P l.toArray (Q .normal) l σ w):WP P n (.region id l.toArray false) Q σ w:=by
 intro a hs
 exact wp_region_lit (QG (fun a σ w hs hk=>⟨σ,hs,hk⟩) l hd σ a w hs h)
theorem zL {id:Nat}{l:List Oper}(hd:xD n l=true)(h: ∀ops,WPs P ops (Q .normal) l σ w):WP P n (.region id l.toArray false) Q σ w:=zF hd (h _)
abbrev zcC (next:Env→World→Prop)(Q:Xz):Xz:=fun e σ w=>match e with
 | .normal=>next σ w
 |e=>Q e σ w
theorem za {x y:Code}(h:WP P n x (zcC (WP P n y Q) Q) σ w):WP P n (.seq x y) Q σ w:=by
 intro a hs
 refine wp_seq (wp_mono (h a hs) ?_)
 rintro e a' w' ⟨σ',hs',hq⟩
 cases e<;>first|exact hq a' hs'|exact⟨σ',hs',hq⟩
theorem zp (h:Q .normal σ w):WP P n .skip Q σ w:=fun _ hs=>wp_skip ⟨σ,hs,h⟩
theorem ya {id:Nat}(h:Q (.exit id) σ w):WP P n (.exit id) Q σ w:=fun _ hs=>wp_exit ⟨σ,hs,h⟩
theorem zq (h:Q .ret σ w):WP P n .ret Q σ w:=fun _ hs=>wp_ret ⟨σ,hs,h⟩
theorem KZ {c:Operand}{x y:Code}{t:Bool}(hc:ev σ c=.bool t)(ht:t=true→WP P n x Q σ w)(hf:t=false→WP P n y Q σ w):WP P n (.cond c x y) Q σ w:=by
 intro a hs
 cases t
 ·exact wp_cond_false (by rw[hs.eval];exact hc) (hf rfl a hs)
 ·exact wp_cond_true (by rw[hs.eval];exact hc) (ht rfl a hs)
theorem zg {c:Operand}{x y:Code}(hc:ev σ c=.bool true)(ht:WP P n x Q σ w):WP P n (.cond c x y) Q σ w:=KZ hc (fun _=>ht) (fun h=>nomatch h)
theorem ze {c:Operand}{x y:Code}(hc:ev σ c=.bool false)(hf:WP P n y Q σ w):WP P n (.cond c x y) Q σ w:=KZ hc (fun h=>nomatch h) (fun _=>hf)
abbrev UV (id:Nat)(Q:Xz):Xz:=fun e σ w=>match e with
 | .exit id'=>if id'=id then Q .normal σ w else Q (.exit id') σ w
 |e=>Q e σ w
theorem zt {id:Nat}{c:Code}(h:WP P n c (UV id Q) σ w):WP P n (.block id c) Q σ w:=by
 intro a hs
 refine wp_block (wp_mono (h a hs) ?_)
 rintro e a' w' ⟨σ',hs',hq⟩
 cases e<;>try exact⟨σ',hs',hq⟩
 case exit id'=>
  simp only[UV]at hq
  simp only[Exit.inBlock]
  split<;>rename_i hid
  ·rw[if_pos hid]at hq;exact⟨σ',hs',hq⟩
  ·rw[if_neg hid]at hq;exact⟨σ',hs',hq⟩
theorem zZ {c:Code}(I:Nat→Env→World→Prop){m:Nat}(h0:I m σ w)
 (round: ∀m σ w,I m σ w→WP P n c (zcC (fun σ' w'=> ∃m',m'<m∧I m' σ' w') Q) σ w):WP P n (.loop c) Q σ w:=by
 have key: ∀m σ w,I m σ w→ ∀a,Sim n σ a→ ∀(b:Frame) (k:List Item) (cs:List Frame),
  ∃e a' w',(∃σ',Sim n σ' a'∧Q e σ' w')∧Arrives P (lone (b.at a (.code c::.inLoop c::k)) cs w) b k cs e a' w':=by
  intro m
  induction m using Nat.strongRecOn with
  |_ m ih=>
   intro σ w hI a hs b k cs
   obtain⟨e,a₁,w₁,⟨σ₁,hs₁,hq⟩,harr⟩:=round m σ w hI a hs b (.inLoop c::k) cs
   cases e with
   |normal=>
    obtain⟨m',hlt,hI'⟩:=hq
    obtain⟨e₂,a₂,w₂,hq₂,harr₂⟩:=ih m' hlt σ₁ w₁ hI' a₁ hs₁ b k cs
    exact⟨e₂,a₂,w₂,hq₂,.of_steps (Steps.trans harr (.one step_inLoop)) harr₂⟩
   |exit id=>exact⟨_,a₁,w₁,⟨σ₁,hs₁,hq⟩,.pass (x:=.inLoop c) rfl (fun _ _=>.inl (by simp)) harr⟩
   |goto l=>exact⟨_,a₁,w₁,⟨σ₁,hs₁,hq⟩,.pass (x:=.inLoop c) rfl (fun _ _=>.inl (by simp)) harr⟩
   |ret=>exact⟨_,a₁,w₁,⟨σ₁,hs₁,hq⟩,.pass (x:=.inLoop c) rfl (fun _ _=>.inl (by simp)) harr⟩
   |panic ch=>exact⟨_,a₁,w₁,⟨σ₁,hs₁,hq⟩,.pass (x:=.inLoop c) rfl (fun _ _=>.inl (by simp)) harr⟩
   |outgrown=>exact⟨_,a₁,w₁,⟨σ₁,hs₁,hq⟩,.pass (x:=.inLoop c) rfl (fun _ _=>.inl (by simp)) harr⟩
 intro a hs b k cs
 obtain⟨e,a',w',hq,harr⟩:=key m σ w h0 a hs b k cs
 exact⟨e,a',w',hq,.of_steps (.one step_loop) harr⟩
theorem zR {id:Nat}(h:Q .normal σ w):UV id Q (.exit id) σ w:=by simp only[UV,if_true];exact h
section
variable {K:Env→World→Prop}{rest:List Oper}{d:Nat}{op:Op}{ty:TypeId}{pos:String}{af:Array Edge}
theorem st (h:opV P ⟨some d,op,ty,pos,af,none⟩ σ w (fun v w'=>WPs P ops K rest (upd σ d v) w')):WPs P ops K (⟨some d,op,ty,pos,af,none⟩::rest) σ w:=h
theorem stn (h:opV P ⟨none,op,ty,pos,af,none⟩ σ w (fun _ w'=>WPs P ops K rest σ w')):WPs P ops K (⟨none,op,ty,pos,af,none⟩::rest) σ w:=h
theorem zb (h:K σ w):WPs P ops K [] σ w:=h
theorem sty {j t:Nat}{b:Bool}(hd:((ops[j]?).bind (·.dst))=some t)(ht:σ t=.bool b)(h:opV P ⟨some d,op,ty,pos,af,some (j,b)⟩ σ w (fun v w'=>WPs P ops K rest (upd σ d v) w')):WPs P ops K (⟨some d,op,ty,pos,af,some (j,b)⟩::rest) σ w:=by
 have hw:Region.wanted ⟨some d,op,ty,pos,af,some (j,b)⟩ (yl ops σ)=true:=by simp[Region.wanted,yl,hd,ht]
 simp only[WPs,hw,if_true];exact h
theorem stc {j t:Nat}{b want:Bool}{V:Value}(hd:((ops[j]?).bind (·.dst))=some t)(ht:σ t=.bool b)(h:b=want→opV P ⟨some d,op,ty,pos,af,some (j,want)⟩ σ w (fun v w'=>v=V∧w'=w))
 (hn:WPs P ops K rest (upd σ d (if b=want then V else undef)) w):WPs P ops K (⟨some d,op,ty,pos,af,some (j,want)⟩::rest) σ w:=by
 simp only[WPs]
 by_cases hb:b=want
 ·have hw:Region.wanted ⟨some d,op,ty,pos,af,some (j,want)⟩ (yl ops σ)=true:=by simp[Region.wanted,yl,hd,ht,hb]
  simp only[hw,if_true]
  rw[if_pos hb]at hn
  have:=h hb
  unfold opP
  revert this
  unfold opV
  generalize (execOp (ev σ) _).run P w=r
  cases r with
  |halt x w'=>cases x<;>exact fun h=>h
  |ok x w'=>
   cases x<;>try exact fun h=>h
   case value v=>rintro⟨rfl,rfl⟩;exact hn
   case skip=>rintro⟨h1,rfl⟩;simp only[YC];rw[h1];exact hn
   case enter f args=>
    intro h1
    refine Calls.mono h1 fun e w''=>?_
    rintro⟨v,rfl,rfl,rfl⟩
    exact⟨_,rfl,hn⟩
 ·have hw:Region.wanted ⟨some d,op,ty,pos,af,some (j,want)⟩ (yl ops σ)=false:=by simp[Region.wanted,yl,hd,ht,hb]
  simp only[hw]
  rw[if_neg hb]at hn
  exact hn
theorem zdh {j t:Nat}{b want:Bool}{V:Value}(R:World→World→Prop)(hR:R w w)(hd:((ops[j]?).bind (·.dst))=some t)(ht:σ t=.bool b)(h:b=want→opV P ⟨some d,op,ty,pos,af,some (j,want)⟩ σ w (fun v w'=>v=V∧R w w'))
 (hn: ∀w',R w w'→WPs P ops K rest (upd σ d (if b=want then V else undef)) w'):WPs P ops K (⟨some d,op,ty,pos,af,some (j,want)⟩::rest) σ w:=by
 simp only[WPs]
 by_cases hb:b=want
 ·have hw:Region.wanted ⟨some d,op,ty,pos,af,some (j,want)⟩ (yl ops σ)=true:=by simp[Region.wanted,yl,hd,ht,hb]
  simp only[hw,if_true]
  rw[if_pos hb]at hn
  have:=h hb
  unfold opP
  revert this
  unfold opV
  generalize (execOp (ev σ) _).run P w=r
  cases r with
  |halt x w'=>cases x<;>exact fun h=>h
  |ok x w'=>
   cases x<;>try exact fun h=>h
   case value v=>rintro⟨rfl,hw'⟩;exact hn _ hw'
   case skip=>rintro⟨h1,hw'⟩;simp only[YC];rw[h1];exact hn _ hw'
   case enter f args=>
    intro h1
    refine Calls.mono h1 fun e w''=>?_
    rintro⟨v,rfl,rfl,hw'⟩
    exact⟨_,rfl,hn _ hw'⟩
 ·have hw:Region.wanted ⟨some d,op,ty,pos,af,some (j,want)⟩ (yl ops σ)=false:=by simp[Region.wanted,yl,hd,ht,hb]
  simp only[hw]
  rw[if_neg hb]at hn
  exact hn w hR
theorem yZ {j t:Nat}{b want:Bool}{V:Value}{p:Prop}[Decidable p](hd:((ops[j]?).bind (·.dst))=some t)(ht:σ t=if p then .bool b else undef)(h:p∧b=want→opV P ⟨some d,op,ty,pos,af,some (j,want)⟩ σ w (fun v w'=>v=V∧w'=w))
 (hn:WPs P ops K rest (upd σ d (if p∧b=want then V else undef)) w):WPs P ops K (⟨some d,op,ty,pos,af,some (j,want)⟩::rest) σ w:=by
 by_cases hp:p
 ·rw[if_pos hp]at ht
  have e:(p∧b=want)=(b=want):=by simp[hp]
  refine stc (V:=V) hd ht (fun hb=>h ⟨hp,hb⟩) ?_
  simpa only[e]using hn
 ·rw[if_neg hp]at ht
  have hw:Region.wanted ⟨some d,op,ty,pos,af,some (j,want)⟩ (yl ops σ)=false:=by simp[Region.wanted,yl,hd,ht,undef]
  simp only[WPs,hw]
  rw[if_neg (fun h=>hp h.1)]at hn
  exact hn
theorem stx {j t:Nat}{b:Bool}(hd:((ops[j]?).bind (·.dst))=some t)(ht:σ t=.bool (!b))(h:WPs P ops K rest (upd σ d undef) w):WPs P ops K (⟨some d,op,ty,pos,af,some (j,b)⟩::rest) σ w:=by
 have hw:Region.wanted ⟨some d,op,ty,pos,af,some (j,b)⟩ (yl ops σ)=false:=by cases b<;>simp[Region.wanted,yl,hd,ht]
 simp only[WPs,hw];exact h
end
def yf (ρ:Env):List (Nat×Value)→Env
 |[]=>ρ
 |(d,v)::l=>upd (yf ρ l) d v
def VT (σ:Env):List (Nat×Value)→Prop
 |[]=>True
 |(d,v)::l=>σ d=v∧VT σ l
theorem yG {l:List (Nat×Value)}(h:VT σ l):σ=yf σ l:=by
 induction l with
 |nil=>rfl
 |cons p l ih=>
  obtain⟨d,v⟩:=p
  funext i
  have:=congrFun (ih h.2) i
  by_cases hi:i=d
  ·subst hi;simp only[yf,VE];exact h.1
  ·simp only[yf];rw[Kw _ _ hi];exact this
theorem yg {K:Env→World→Prop}{l:List Oper}{kv:List (Nat×Value)}(hk:VT σ kv)(h: ∀ρ,WPs P ops K l (yf ρ kv) w):WPs P ops K l σ w:=by
 rw[yG hk];exact h σ
def MapL (f:Operand→Value):List Operand→List Value→Prop
 |[],[]=>True
 |a::as,v::vs=>f a=v∧MapL f as vs
 |_,_=>False
theorem yM {f:Operand→Value}: ∀{as:List Operand} {vs:List Value},MapL f as vs→as.map f=vs
 |[],[],_=>rfl
 |_::_,_::_,h=>by rw[List.map_cons,h.1,yM h.2]
 |[],_::_,h=>h.elim
 |_::_,[],h=>h.elim
def MapP (f:Operand→Value):List (Nat×Operand)→List (Nat×Value)→Prop
 |[],[]=>True
 |a::as,v::vs=>a.1=v.1∧f a.2=v.2∧MapP f as vs
 |_,_=>False
theorem Za {f:Operand→Value}: ∀{as:List (Nat×Operand)} {vs:List (Nat×Value)},MapP f as vs→(as.map fun p=>(p.1,f p.2))=vs
 |[],[],_=>rfl
 |_::_,_::_,h=>by rw[List.map_cons,h.1,h.2.1,Za h.2.2]
 |[],_::_,h=>h.elim
 |_::_,[],h=>h.elim
def Wt (P:Program)(fn:Func)(R:Value→World→Prop):Xz:=fun e σ w=>match e with
 | .normal| .ret=> ∃v,(∀tmps:Array Value,(∀i,tmps.getD i undef=σ i)→(results fn tmps).run P w=.ok v w)∧R v w
 |_=>False
def env0 (args:List Value):Env:=fun i=>args.getD i undef
def Ret (P:Program)(f:FuncId)(args:List Value)(w:World)(R:Value→World→Prop):Prop:=Calls P f args.toArray w (fun e w'=> ∃v,e=.returned v∧R v w')
theorem Ret.mono {P:Program}{f:FuncId}{args:List Value}{w:World}{R R':Value→World→Prop}(h:Ret P f args w R)(hr: ∀v w',R v w'→R' v w'):Ret P f args w R':=
 Calls.mono h fun _ _ ⟨v,he,hR⟩=>⟨v,he,hr _ _ hR⟩
theorem zn {f:FuncId}{fn:Func}{c:Code}{args:List Value}{w:World}{R:Value→World→Prop}
 (hf:P.funcs[f]? =some fn) (hb:fn.body=some c) (hn:Nat.ble args.length fn.ntmps=true)
 (h:WP P fn.ntmps c (Wt P fn R) (env0 args) w):Ret P f args w R:=by
 have hn':args.length≤fn.ntmps:=Nat.le_of_ble_eq_true hn
 refine calls_of_wp hf hb (wp_mono (h _ ⟨?_,rfl,fun i=>?_⟩) ?_)
 ·simp;omega
 ·simp only[env0,Array.getD_eq_getD_getElem?,List.getD_eq_getElem?_getD]
  by_cases hi:i<args.length
  ·simp[Array.getElem?_append,hi]
  ·simp only[Array.getElem?_append,List.size_toArray,hi,if_false]
   rw[List.getElem?_eq_none (by omega)]
   simp only[Option.getD_none]
   rw[Array.getElem?_replicate]
   split<;>simp
 ·rintro e a' w' ⟨σ',hs',hq⟩
  cases e<;>try exact hq.elim
  case normal=>obtain⟨v,hr,hR⟩:=hq;exact⟨hs'.defers,v,hr _ hs'.get,v,rfl,hR⟩
  case ret=>obtain⟨v,hr,hR⟩:=hq;exact⟨hs'.defers,v,hr _ hs'.get,v,rfl,hR⟩
end
theorem yn {p:Prop}[Decidable p](h:(!decide p)=true): ¬p:=by simpa using h
theorem zQ {p:Prop}[Decidable p](h:(!decide p)=false):p:=by simpa using h
abbrev Iv (n:Int):Value:=.int .i64 n
abbrev Iw (n:Nat):Value:=.int .i64 ((n:Nat):Int)
abbrev Ix (b o:Nat):Value:=.pointer (some ⟨b,o,none⟩)
abbrev Iy (b n m:Nat):Value:=.slice (some ⟨b,0,none⟩) n m
abbrev Iz:Value:=.slice none 0 0
theorem dc {p:Prop}(h:p:=by decide):p:=h
theorem om {p:Prop}(h:p:=by first|omega|(simp+zetaDelta only at*;omega)):p:=h
theorem kr {p:Prop}(h:p:=by kernel_rfl):p:=h
theorem tD {p:Prop}[Decidable p](h:decide p=true):p:=of_decide_eq_true h
theorem fD {p:Prop}[Decidable p](h:decide p=false): ¬p:=of_decide_eq_false h
theorem sSf {σ:Env}{l:List (Nat×Value)}(h:VT σ l:=by repeat first|exact trivial|refine⟨rfl,?_⟩):σ=yf σ l:=yG h
theorem sEv {σ:Env}{l:List (Nat×Value)}(h:VT σ l:=by repeat first|exact trivial|refine⟨rfl,?_⟩):VT σ l:=h
theorem R0 {P:Program}{n:Nat}{Q:Xz}{σ:Env}{w:World}{id:Nat}{l:List Oper}(h: ∀ops,WPs P ops (Q .normal) l σ w)(hd:xD n l=true:=by kernel_rfl):WP P n (.region id l.toArray false) Q σ w:=zL hd h
end
section
theorem WS {P:Program}{o:Oper}{σ:Env}{w:World}{K K':Value→World→Prop}(h: ∀v w',K v w'→K' v w')(hh:opV P o σ w K):opV P o σ w K':=by
 unfold opV at*
 generalize (execOp (ev σ) o).run P w=r at*
 cases r with
 |halt x w'=>cases x<;>exact hh.elim
 |ok x w'=>
  cases x<;>try exact hh.elim
  case value v=>exact h _ _ hh
  case skip=>exact h _ _ hh
  case enter f args=>
   refine Calls.mono hh fun e w''=>?_
   rintro⟨v,rfl,hk⟩
   exact⟨v,rfl,h _ _ hk⟩
def xX (ops:List Oper)(t j:Nat):Bool:=match ops[j]? with
 |some o=>match o.dst with
  |some d=>Nat.beq d t
  |none=>false
 |none=>false
def yP (ops:List Oper)(pre:List Nat)(σ:Env)(vals:Nat→Value):Env:=fun t=>
 match pre.find? (xX ops t)with
 |some j=>vals j
 |none=>σ t
def WN (pre:List (List Nat))(i:Nat)(o:Oper):Bool:=
 (o.after.toList.all fun e=> !Region.binds .any e||Nat.blt e.on i)&&
 (pre.getD i []).all fun j=>Nat.blt j i&&o.after.toList.any fun e=>Region.binds .any e&&(Nat.beq e.on j||(pre.getD e.on []).contains j)
def Jc (ops:List Oper)(pre:List (List Nat))(i:Nat)(o:Oper):Bool:=
 (o.looksAt ops.toArray).all fun t=>((pre.getD i []).any (xX ops t))||(List.range ops.length).all fun j=> !xX ops t j||Nat.beq j i||(pre.getD j []).contains i
def Qo (ops:List Oper):Bool:=(List.range ops.length).all fun i=>(List.range i).all fun j=>match ops[i]? with
 |some o=>(match o.dst with|some d=> !xX ops d j|none=>true)
 |none=>true
def zcF (o:Oper):Bool:=match o.op with| .select .. =>false|_=>true
def drawOk (ops:List Oper)(pre:List (List Nat))(k:Nat):Bool:=
 Nat.ble k ops.length&&Qo ops&&ops.zipIdx.all fun(o,i)=>zcF o&&WN pre i o&&Jc ops pre i o&&(Nat.blt i k||(List.range i).all fun j=>(pre.getD i []).contains j)
def zcq (P:Program)(ops:List Oper)(pre:List (List Nat))(R:World→World→Prop)(A:Nat→Value→World→Prop)(σ:Env)(w0:World):Nat→List Oper→Prop
 |_,[]=>True
 |i,o::rest=>(∀vals w,R w0 w→(∀j,j∈pre.getD i []→A j (vals j) w)→
  if Region.wanted o (yl ops.toArray (yP ops (pre.getD i []) σ vals))then opV P o (yP ops (pre.getD i []) σ vals) w (fun v w'=>R w w'∧A i v w')else A i undef w)∧
  zcq P ops pre R A σ w0 (i+1) rest
theorem obl {P:Program}{ops:Array Oper}{o:Oper}{σ:Env}{w:World}{K:Value→World→Prop}{X:Prop}(hg:o.guard=none)(h:opV P o σ w K):(if Region.wanted o (yl ops σ)then opV P o σ w K else X):=by
 rw[if_pos (by simp[Region.wanted,hg])];exact h
theorem zN {P:Program}{ops:Array Oper}{o:Oper}{σ:Env}{w:World}{K:Value→World→Prop}{X:Prop}{j t:Nat}{want b:Bool}(hg:o.guard=some (j,want))(hd:((ops[j]?).bind (·.dst))=some t)(ht:σ t=.bool b)
 (h:b=want→opV P o σ w K) (hx:b≠want→X):(if Region.wanted o (yl ops σ)then opV P o σ w K else X):=by
 by_cases hb:b=want
 ·rw[if_pos (by simp[Region.wanted,hg,yl,hd,ht,hb])];exact h hb
 ·rw[if_neg (by simp[Region.wanted,hg,yl,hd,ht,hb])];exact hx hb
theorem xS {P:Program}{ops:Array Oper}{o:Oper}{σ:Env}{w:World}{K:Value→World→Prop}{X:Prop}{j t:Nat}{want b:Bool}{p:Prop}[Decidable p](hg:o.guard=some (j,want))(hd:((ops[j]?).bind (·.dst))=some t)(ht:σ t=if p then .bool b else undef)
 (h:p∧b=want→opV P o σ w K) (hx: ¬(p∧b=want)→X):(if Region.wanted o (yl ops σ)then opV P o σ w K else X):=by
 by_cases hp:p
 ·rw[if_pos hp]at ht
  exact zN hg hd ht (fun hb=>h ⟨hp,hb⟩) (fun hb=>hx (fun h=>hb h.2))
 ·rw[if_neg hp]at ht
  rw[if_neg (by simp[Region.wanted,hg,yl,hd,ht,undef])]
  exact hx (fun h=>hp h.1)
def behind (ops:List Oper)(vals:Nat→Value)(σ:Env):Nat→Env
 |0=>σ
 |k+1=>match ops[k]? with
  |some o=>YC (behind ops vals σ k) o.dst (vals k)
  |none=>behind ops vals σ k
section
variable {P:Program}{n:Nat}{Q:Xz}{σ:Env}{w:World}{ops:List Oper}{pre:List (List Nat)}{k:Nat}{R:World→World→Prop}{A:Nat→Value→World→Prop}
structure Fit (ops:List Oper) (pre:List (List Nat)) (k:Nat):Prop where
 k_le:k≤ops.length
 sel: ∀(i:Nat) (o:Oper),ops[i]? =some o→ ∀(cs:Array SelectCase) (b:Bool),o.op≠ .select cs b
 edge: ∀(i:Nat) (o:Oper),ops[i]? =some o→ ∀e∈o.after,Region.binds .any e=true→e.on<i
 lt: ∀(i:Nat) (o:Oper),ops[i]? =some o→ ∀j∈pre.getD i [],j<i
 prec: ∀(i:Nat) (o:Oper),ops[i]? =some o→ ∀j∈pre.getD i [],∃e∈o.after,Region.binds .any e=true∧(e.on=j∨j∈pre.getD e.on [])
 looks: ∀(i:Nat) (o:Oper),ops[i]? =some o→ ∀t∈o.looksAt ops.toArray,(∃j∈pre.getD i [],xX ops t j=true)∨ ∀j,xX ops t j=true→j=i∨i∈pre.getD j []
 uniq: ∀t i j,xX ops t i=true→xX ops t j=true→i=j
 late: ∀(i:Nat) (o:Oper),ops[i]? =some o→k≤i→ ∀j,j<i→j∈pre.getD i []
theorem zbd {a b:Nat}:Nat.beq a b=true↔a=b:=⟨Nat.eq_of_beq_eq_true,fun h=>by subst h;exact Nat.beq_refl a⟩
theorem YV {t j:Nat}:xX ops t j=true↔ ∃o,ops[j]? =some o∧o.dst=some t:=by
 unfold xX
 cases h:ops[j]? with
 |none=>simp
 |some o=>
  cases hd:o.dst with
  |none=>simp[hd]
  |some d=>simp only[zbd,Option.some.injEq,exists_eq_left',hd]
theorem Vi {t j:Nat}(h:xX ops t j=true):j<ops.length:=by
 obtain⟨o,ho,_⟩:=YV.1 h
 exact(List.getElem?_eq_some_iff.1 ho).1
theorem drawOk.fit (h:drawOk ops pre k=true):Fit ops pre k:=by
 simp only[drawOk,Bool.and_eq_true,List.all_eq_true]at h
 obtain⟨⟨hk,hu⟩,hall⟩:=h
 have at_: ∀i o,ops[i]? =some o→(o,i)∈ops.zipIdx:=by
  intro i o ho
  rw[List.mem_zipIdx_iff_getElem?]
  exact ho
 refine⟨Nat.le_of_ble_eq_true hk,?_,?_,?_,?_,?_,?_,?_⟩
 ·intro i o ho cs b hs
  have:=(hall _ (at_ i o ho)).1.1.1
  simp[zcF,hs]at this
 ·intro i o ho e he hb
  have:=(hall _ (at_ i o ho)).1.1.2
  simp only[WN,Bool.and_eq_true,List.all_eq_true]at this
  have h1:=this.1 e (by simpa using he)
  simpa[hb,Nat.blt_eq]using h1
 ·intro i o ho j hj
  have:=(hall _ (at_ i o ho)).1.1.2
  simp only[WN,Bool.and_eq_true,List.all_eq_true]at this
  have h1:=(this.2 j hj).1
  simpa[Nat.blt_eq]using h1
 ·intro i o ho j hj
  have:=(hall _ (at_ i o ho)).1.1.2
  simp only[WN,Bool.and_eq_true,List.all_eq_true]at this
  have h1:=(this.2 j hj).2
  simp only[List.any_eq_true,Bool.and_eq_true,Bool.or_eq_true,zbd,List.contains_iff_mem]at h1
  obtain⟨e,he,hb,hj'⟩:=h1
  exact⟨e,by simpa using he,hb,hj'⟩
 ·intro i o ho t ht
  have:=(hall _ (at_ i o ho)).1.2
  simp only[Jc,List.all_eq_true]at this
  have h1:=this t ht
  simp only[Bool.or_eq_true,List.any_eq_true,List.all_eq_true,List.mem_range,Bool.not_eq_true',zbd,List.contains_iff_mem]at h1
  rcases h1 with⟨j,hj,hd⟩|h1
  ·exact .inl ⟨j,hj,hd⟩
  ·refine .inr fun j hj=>?_
   rcases h1 j (Vi hj)with(h2|h2)|h2
   ·rw[hj]at h2;cases h2
   ·exact .inl h2
   ·exact .inr h2
 ·have key: ∀t i j,j<i→xX ops t i=true→xX ops t j=true→False:=by
   intro t i j hji hi hj
   obtain⟨o,ho,hd⟩:=YV.1 hi
   simp only[Qo,List.all_eq_true,List.mem_range]at hu
   have:=hu i (Vi hi) j hji
   simp only[ho,hd,hj]at this
   cases this
  intro t i j hi hj
  rcases Nat.lt_trichotomy i j with h|h|h
  ·exact(key t j i h hj hi).elim
  ·exact h
  ·exact(key t i j h hi hj).elim
 ·intro i o ho hki j hj
  have:=(hall _ (at_ i o ho)).2
  simp only[Bool.or_eq_true,List.all_eq_true,List.mem_range,List.contains_iff_mem]at this
  rcases this with h1|h1
  ·have:i<k:=by simpa[Nat.blt_eq]using h1
   omega
  ·exact h1 j hj
def mixed (ops:List Oper)(done:Nat→Bool)(vals:Nat→Value)(σ:Env):Env:=fun t=>
 match (List.range ops.length).find? (fun j=>xX ops t j&&done j)with
 |some j=>vals j
 |none=>σ t
theorem Yh (hf:Fit ops pre k){done:Nat→Bool}{vals:Nat→Value}{t j:Nat}(hd:xX ops t j=true)(hj:done j=true):mixed ops done vals σ t=vals j:=by
 unfold mixed
 cases h:(List.range ops.length).find? (fun j=>xX ops t j&&done j)with
 |none=>
  have:=List.find?_eq_none.1 h j (List.mem_range.2 (Vi hd))
  simp[hd,hj]at this
 |some j'=>
  have:=List.find?_some h
  simp only[Bool.and_eq_true]at this
  rw[hf.uniq t j' j this.1 hd]
theorem Zd {done:Nat→Bool}{vals:Nat→Value}{t:Nat}(h: ∀j,xX ops t j=true→done j=false):mixed ops done vals σ t=σ t:=by
 unfold mixed
 cases h':(List.range ops.length).find? (fun j=>xX ops t j&&done j)with
 |none=>rfl
 |some j'=>
  have:=List.find?_some h'
  simp only[Bool.and_eq_true]at this
  rw[h j' this.1]at this
  cases this.2
theorem Wl {o:Oper}{σ σ':Env}{K:Value→World→Prop}(hs: ∀cs b,o.op≠ .select cs b)(h: ∀t∈o.looksAt ops.toArray,σ' t=σ t):opV P o σ' w K=opV P o σ w K:=by
 have:execOp (ev σ') o=execOp (ev σ) o:=execOp_congr o hs fun x hx=>by
  cases x with
  |tmp t=>exact h t (List.mem_append_left _ (List.mem_filterMap.2 ⟨.tmp t,by simpa using hx,rfl⟩))
  |_=>rfl
 unfold opV
 rw[this]
theorem Yk {o:Oper}{σ σ':Env}(h: ∀t∈o.looksAt ops.toArray,σ' t=σ t):Region.wanted o (yl ops.toArray σ')=Region.wanted o (yl ops.toArray σ):=by
 unfold Region.wanted
 cases hg:o.guard with
 |none=>rfl
 |some gw=>
  obtain⟨g,want⟩:=gw
  have:yl ops.toArray σ' g=yl ops.toArray σ g:=by
   unfold yl
   cases ht:(ops.toArray[g]?).bind (·.dst)with
   |none=>rfl
   |some t=>
    have:=h t (by simp only[Oper.looksAt,hg,ht,Option.toList_some,List.mem_append];exact .inr (List.mem_singleton.2 rfl))
    simp only[this]
  simp only[this]
def closed (pre:List (List Nat))(done:Nat→Bool):Prop:= ∀i,done i=true→ ∀j∈pre.getD i [],done j=true
theorem Xr (hf:Fit ops pre k){done:Nat→Bool}{vals:Nat→Value}{i:Nat}{o:Oper}(ho:ops[i]? =some o)(hc:closed pre done)(hi:done i=false)
 (hp: ∀j∈pre.getD i [],done j=true): ∀t∈o.looksAt ops.toArray,mixed ops done vals σ t=yP ops (pre.getD i []) σ vals t:=by
 intro t ht
 unfold yP
 cases hfd:(pre.getD i []).find? (xX ops t)with
 |some j=>
  have h1:=List.find?_some hfd
  have h2:=List.mem_of_find?_eq_some hfd
  exact Yh hf h1 (hp j h2)
 |none=>
  have hno:=List.find?_eq_none.1 hfd
  refine Zd fun j hj=>?_
  rcases hf.looks i o ho t ht with⟨j',hj',hd'⟩|h
  ·exact(hno j' hj' hd').elim
  ·rcases h j hj with rfl|h
   ·exact hi
   ·cases hdj:done j with
    |false=>rfl
    |true=>have:=hc j hdj i h;rw[hi]at this;cases this
theorem zbV {i0:Nat}: ∀{l:List Oper} {w0:World},zcq P ops pre R A σ w0 i0 l→ ∀i o,l[i]? =some o→ ∀vals w,R w0 w→(∀j,j∈pre.getD (i0+i) []→A j (vals j) w)→
 if Region.wanted o (yl ops.toArray (yP ops (pre.getD (i0+i) []) σ vals))then opV P o (yP ops (pre.getD (i0+i) []) σ vals) w (fun v w'=>R w w'∧A (i0+i) v w')else A (i0+i) undef w:=by
 intro l
 induction l generalizing i0 with
 |nil=>intro w0 _ i o h;simp at h
 |cons x l ih=>
  intro w0 h i o ho
  obtain⟨h1,h2⟩:=h
  cases i with
  |zero=>simp only[List.getElem?_cons_zero,Option.some.injEq]at ho;subst ho;exact h1
  |succ i=>
   have:=ih h2 i o (by simpa using ho)
   rw[show i0+1+i=i0+(i+1) by omega]at this
   exact this
theorem XS (hf:Fit ops pre k){done:Nat→Bool}{vals:Nat→Value}{i:Nat}{o:Oper}(ho:ops[i]? =some o)(hi:done i=false)(v:Value):
 YC (mixed ops done vals σ) o.dst v=mixed ops (fun j=>done j||j== i) (fun j=>if j=i then v else vals j) σ:=by
 funext t
 by_cases hd:xX ops t i=true
 ·obtain⟨o',ho',hd'⟩:=YV.1 hd
  rw[ho]at ho';cases ho'
  rw[Yh hf hd (by simp),hd']
  simp[YC,VE]
 ·have h1:YC (mixed ops done vals σ) o.dst v t=mixed ops done vals σ t:=by
   cases hdst:o.dst with
   |none=>rfl
   |some d=>
    refine Kw _ _ ?_
    rintro rfl
    exact hd (YV.2 ⟨o,ho,hdst⟩)
  rw[h1]
  by_cases hex: ∃j,xX ops t j=true∧done j=true
  ·obtain⟨j,hj,hdj⟩:=hex
   have hji:j≠i:=by rintro rfl;rw[hi]at hdj;cases hdj
   rw[Yh hf hj hdj,Yh hf hj (by simp[hdj])]
   simp[hji]
  ·rw[Zd (fun j hj=>by cases h:done j with|false=>rfl|true=>exact(hex ⟨j,hj,h⟩).elim),
    Zd (fun j hj=>?_)]
   cases h:done j with
   |true=>exact(hex ⟨j,hj,h⟩).elim
   |false=>
    have:j≠i:=by rintro rfl;exact hd hj
    simp[this]
theorem Zl (hf:Fit ops pre k){vals:Nat→Value}: ∀m,m≤ops.length→behind ops vals σ m=mixed ops (fun j=>decide (j<m)) vals σ
 |0,_=>by funext t;simp only[behind];exact(Zd (fun j _=>by simp)).symm
 |m+1,h=>by
  have ho:ops[m]? =some ops[m]:=List.getElem?_eq_getElem (by omega)
  simp only[behind,ho]
  rw[Zl hf m (by omega),XS hf ho (by simp)]
  congr 1
  ·funext j
   rw[Bool.eq_iff_iff]
   simp only[Bool.or_eq_true,decide_eq_true_eq,beq_iff_eq]
   omega
  ·funext j;split
   ·subst_vars;rfl
   ·rfl
def cnt (done:Nat→Bool)(m:Nat):Nat:=(List.range m).countP done
theorem YQ (done:Nat→Bool)(m:Nat):cnt done (m+1)=cnt done m+if done m=true then 1 else 0:=by
 simp[cnt,List.range_succ,List.countP_append,List.countP_cons]
theorem WK {done:Nat→Bool}{i:Nat}(hi:done i=false): ∀m,cnt (fun j=>done j||j== i) m=cnt done m+if i<m then 1 else 0
 |0=>by simp[cnt]
 |m+1=>by
  rw[YQ,YQ,WK hi m]
  by_cases h:m=i
  ·subst h;simp[hi]
  ·have h2:(i<m+1)↔(i<m):=by omega
   simp only[h2]
   cases done m<;>simp[h]<;>omega
theorem QZ (done:Nat→Bool): ∀m,cnt done m≤m
 |0=>by simp[cnt]
 |m+1=>by rw[YQ];have:=QZ done m;split<;>omega
theorem XB {done:Nat→Bool}: ∀{m},m≤cnt done m→ ∀j,j<m→done j=true
 |0,_,j,hj=>by omega
 |m+1,h,j,hj=>by
  rw[YQ]at h
  have hle:=QZ done m
  by_cases hm:done m=true
  ·rw[if_pos hm]at h
   by_cases hjm:j=m
   ·subst hjm;exact hm
   ·exact XB (m:=m) (by omega) j (by omega)
  ·rw[if_neg hm]at h;omega
theorem Vy {done:Nat→Bool}: ∀m,(∃j,j<m∧done j=false)→ ∃i,i<m∧done i=false∧ ∀j,j<i→done j=true
 |0,⟨j,hj,_⟩=>by omega
 |m+1,⟨j,hj,hd⟩=>by
  by_cases h: ∃j,j<m∧done j=false
  ·obtain⟨i,hi,h1,h2⟩:=Vy m h
   exact⟨i,by omega,h1,h2⟩
  ·have hjm:j=m:=by
    rcases Nat.lt_or_ge j m with h'|h'
    ·exact(h ⟨j,h',hd⟩).elim
    ·omega
   subst hjm
   refine⟨j,hj,hd,fun i hi=>?_⟩
   cases hdi:done i with
   |true=>rfl
   |false=>exact(h ⟨i,hi,hdi⟩).elim
def dn (listed:Array Bool)(j:Nat):Bool:=listed.getD j false
theorem ZY {listed:Array Bool}(hs:listed.size=ops.length){i:Nat}:i∈Region.ready .any ops.toArray listed↔
 dn listed i=false∧ ∃o,ops[i]? =some o∧ ∀e∈o.after,Region.binds .any e=true→dn listed e.on=true:=by
 rw[mem_ready]
 simp only[List.getElem?_toArray]
 constructor
 ·rintro⟨h1,o,ho,h2⟩
  have hlt:i<listed.size:=by rw[hs];exact(List.getElem?_eq_some_iff.1 ho).1
  refine⟨?_,o,ho,h2⟩
  simp[dn,hlt]at h1⊢
  exact h1
 ·rintro⟨h1,o,ho,h2⟩
  have hlt:i<listed.size:=by rw[hs];exact(List.getElem?_eq_some_iff.1 ho).1
  refine⟨?_,o,ho,h2⟩
  simp[dn,hlt]at h1⊢
  exact h1
theorem UG {listed:Array Bool}(hs:listed.size=ops.length){i:Nat}{o:Oper}(ho:ops[i]? =some o):dn (listed.setIfInBounds i true)=fun j=>dn listed j||j== i:=by
 funext j
 have hlt:i<listed.size:=by rw[hs];exact(List.getElem?_eq_some_iff.1 ho).1
 by_cases h:i=j
 ·subst h;simp[dn,hlt]
 ·have h': ¬j=i:=fun e=>h e.symm
  simp[dn,Array.getElem?_setIfInBounds_ne h,h']
theorem YU (hf:Fit ops pre k){listed:Array Bool}(hs:listed.size=ops.length)(h:Region.ready .any ops.toArray listed=[]): ∀j,j<ops.length→dn listed j=true:=by
 intro j hj
 cases hd:dn listed j with
 |true=>rfl
 |false=>
  obtain⟨i,hi,h1,h2⟩:=Vy ops.length ⟨j,hj,hd⟩
  have ho:ops[i]? =some ops[i]:=List.getElem?_eq_getElem hi
  have:i∈Region.ready .any ops.toArray listed:=(ZY hs).2 ⟨h1,_,ho,fun e he hb=>h2 _ (hf.edge i _ ho e he hb)⟩
  rw[h]at this
  cases this
theorem Xb (hf:Fit ops pre k){listed:Array Bool}(hs:listed.size=ops.length)(hc:closed pre (dn listed)){i:Nat}(h:i∈Region.ready .any ops.toArray listed):
 ∃o,ops[i]? =some o∧dn listed i=false∧ ∀j∈pre.getD i [],dn listed j=true:=by
 obtain⟨h1,o,ho,h2⟩:=(ZY hs).1 h
 refine⟨o,ho,h1,fun j hj=>?_⟩
 obtain⟨e,he,hb,hj'⟩:=hf.prec i o ho j hj
 have h3:=h2 e he hb
 rcases hj' with rfl|hj'
 ·exact h3
 ·exact hc _ h3 j hj'
theorem zaQ (hf:Fit ops pre k)(hd:xD n ops=true): ∀(fuel:Nat) (p:Nat) (listed:Array Bool) (a:Act) (σ':Env) (w:World),k≤p→p≤ops.length→ops.length≤p+fuel→listed.size=ops.length→
 dn listed=(fun j=>decide (j<p))→Sim n σ' a→WPs P ops.toArray (Q .normal) (ops.drop p) σ' w→
 wpAny P .any ops.toArray (fun e a' w'=> ∃σ'',Sim n σ'' a'∧Q e σ'' w') fuel listed a w:=by
 intro fuel
 induction fuel with
 |zero=>
  intro p listed a σ' w hkp hp hfu hs hdn hsim h
  have hpe:p=ops.length:=by omega
  rw[hpe,List.drop_length]at h
  refine⟨?_,σ',hsim,h⟩
  cases hr:Region.ready .any ops.toArray listed with
  |nil=>rfl
  |cons i r=>
   have hi:i∈Region.ready .any ops.toArray listed:=by rw[hr];exact List.mem_cons_self
   obtain⟨h1,o,ho,_⟩:=(ZY hs).1 hi
   have:=(List.getElem?_eq_some_iff.1 ho).1
   rw[hdn]at h1
   simp at h1
   omega
 |succ fuel ih=>
  intro p listed a σ' w hkp hp hfu hs hdn hsim h
  have hopen: ∀i∈Region.ready .any ops.toArray listed,∃o,i=p∧ops[i]? =some o:=by
   intro i hi
   obtain⟨o,ho,hni,hpre⟩:=Xb hf hs (by
    intro i hi j hj
    rw[hdn]at hi⊢
    simp only[decide_eq_true_eq]at hi⊢
    have:=hf.lt i ops[i] (List.getElem?_eq_getElem (by omega)) j hj
    omega) hi
   have hpi:p≤i:=by rw[hdn]at hni;simpa using hni
   refine⟨o,?_,ho⟩
   rcases Nat.lt_or_ge p i with hlt|hge
   ·have h2:=hf.late i o ho (by omega) p hlt
    have h3:=hpre p h2
    rw[hdn]at h3
    simp at h3
   ·omega
  refine⟨fun hr=>?_,fun i hi=>?_⟩
  ·have hall:=YU hf hs hr
   have hpe:p=ops.length:=by
    rcases Nat.lt_or_ge p ops.length with hlt|hge
    ·have:=hall p hlt;rw[hdn]at this;simp at this
    ·omega
   rw[hpe,List.drop_length]at h
   exact⟨σ',hsim,h⟩
  ·obtain⟨o,rfl,ho⟩:=hopen i hi
   have hlt:=(List.getElem?_eq_some_iff.1 ho).1
   have hdrop:ops.drop i=o::ops.drop (i+1):=by
    rw[List.drop_eq_getElem_cons hlt]
    congr 1
    rw[List.getElem?_eq_getElem hlt]at ho
    exact Option.some.inj ho
   have hdst: ∀d,o.dst=some d→d<n:=by
    intro d hd'
    simp only[xD,List.all_eq_true]at hd
    have:=hd o (List.mem_of_getElem? ho)
    rw[hd']at this
    simpa[Nat.blt_eq]using this
   rw[hdrop]at h
   have hnext: ∀a' σ'' w',Sim n σ'' a'→WPs P ops.toArray (Q .normal) (ops.drop (i+1)) σ'' w'→
    wpAny P .any ops.toArray (fun e a' w'=> ∃σ'',Sim n σ'' a'∧Q e σ'' w') fuel (listed.setIfInBounds i true) a' w':=by
    intro a' σ'' w' hs' hw'
    refine ih (i+1) _ a' σ'' w' (by omega) (by omega) (by omega) (by simpa using hs) ?_ hs' hw'
    rw[UG hs ho,hdn]
    funext j
    rw[Bool.eq_iff_iff]
    simp only[Bool.or_eq_true,decide_eq_true_eq,beq_iff_eq]
    omega
   unfold wpOp
   simp only[List.getElem?_toArray,ho]
   simp only[WPs]at h
   rw[hsim.yielded]
   split<;>rename_i hw
   ·rw[if_pos hw]at h
    exact .inl (Vn hsim (fun a' σ'' w' hs' hk=>hnext a' σ'' w' hs' hk) hdst h)
   ·rw[if_neg hw]at h
    exact hnext _ _ _ (hsim.put hdst undef) h
theorem zdq (hf:Fit ops pre k)(hd:xD n ops=true){w0:World}(hrefl': ∀w,R w w)(htrans: ∀a b c,R a b→R b c→R a c)(hstab: ∀j v w w',R w w'→A j v w→A j v w')
 (hob:zcq P ops pre R A σ w0 0 (ops.take k))
 (hlate: ∀vals w',R w0 w'→(∀j,j<k→A j (vals j) w')→WPs P ops.toArray (Q .normal) (ops.drop k) (behind ops vals σ k) w'):
 ∀(fuel:Nat) (listed:Array Bool) (a:Act) (vals:Nat→Value) (w:World),listed.size=ops.length→closed pre (dn listed)→(∀j,dn listed j=true→j<k)→
 ops.length≤cnt (dn listed) ops.length+fuel→Sim n (mixed ops (dn listed) vals σ) a→R w0 w→(∀j,dn listed j=true→A j (vals j) w)→
 wpAny P .any ops.toArray (fun e a' w'=> ∃σ'',Sim n σ'' a'∧Q e σ'' w') fuel listed a w:=by
 intro fuel
 induction fuel with
 |zero=>
  intro listed a vals w hs hc hlt hfu hsim hR hA
  have hall:=XB (done:=dn listed) (m:=ops.length) (by omega)
  have hk:k=ops.length:=by
   have:=hf.k_le
   rcases Nat.lt_or_ge k ops.length with h|h
   ·have:=hlt k (hall k h);omega
   ·omega
  have hdn:dn listed=fun j=>decide (j<k):=by
   funext j
   rw[Bool.eq_iff_iff,decide_eq_true_eq]
   exact⟨hlt j,fun h=>hall j (by omega)⟩
  rw[hdn,←Zl hf k hf.k_le]at hsim
  exact zaQ hf hd 0 k listed a _ w (Nat.le_refl _) hf.k_le (by omega) hs hdn hsim (hlate vals w hR fun j hj=>hA j (hall j (by omega)))
 |succ fuel ih=>
  intro listed a vals w hs hc hlt hfu hsim hR hA
  by_cases hfull: ∀j,j<k→dn listed j=true
  ·have hdn:dn listed=fun j=>decide (j<k):=by
    funext j
    rw[Bool.eq_iff_iff,decide_eq_true_eq]
    exact⟨hlt j,hfull j⟩
   rw[hdn,←Zl hf k hf.k_le]at hsim
   have hcnt:cnt (dn listed) ops.length≤k:=by
    rw[hdn]
    have: ∀m,cnt (fun j=>decide (j<k)) m≤k:=by
     intro m
     induction m with
     |zero=>simp[cnt]
     |succ m ihm=>
      rw[YQ]
      have:=QZ (fun j=>decide (j<k)) m
      split
      ·rename_i h;simp at h;omega
      ·omega
    exact this _
   exact zaQ hf hd (fuel+1) k listed a _ w (Nat.le_refl _) hf.k_le (by omega) hs hdn hsim (hlate vals w hR fun j hj=>hA j (hfull j hj))
  ·have hopen: ∃j,j<k∧dn listed j=false:=by
    refine Classical.byContradiction fun hno=>hfull fun j hj=>?_
    cases h:dn listed j with
    |true=>rfl
    |false=>exact(hno ⟨j,hj,h⟩).elim
   refine⟨fun hr=>?_,fun i hi=>?_⟩
   ·obtain⟨j,hj,hdj⟩:=hopen
    have:=YU hf hs hr j (by have:=hf.k_le;omega)
    rw[hdj]at this;cases this
   ·obtain⟨o,ho,hni,hpre⟩:=Xb hf hs hc hi
    have hik:i<k:=by
     rcases Nat.lt_or_ge i k with h|h
     ·exact h
     ·obtain⟨j,hj,hdj⟩:=hopen
      have:=hpre j (hf.late i o ho h j (by omega))
      rw[hdj]at this;cases this
    have hilen:=(List.getElem?_eq_some_iff.1 ho).1
    have hdst: ∀d,o.dst=some d→d<n:=by
     intro d hd'
     simp only[xD,List.all_eq_true]at hd
     have:=hd o (List.mem_of_getElem? ho)
     rw[hd']at this
     simpa[Nat.blt_eq]using this
    have hv:=Xr (σ:=σ) (vals:=vals) hf ho hc hni hpre
    have hO:=zbV hob i o (by rw[List.getElem?_take];simp[hik,ho]) vals w hR (fun j hj=>hA j (hpre j (by simpa using hj)))
    simp only[Nat.zero_add]at hO
    rw[←Yk hv]at hO
    have hnext: ∀v a' w',R w w'→A i v w'→Sim n (YC (mixed ops (dn listed) vals σ) o.dst v) a'→
     wpAny P .any ops.toArray (fun e a' w'=> ∃σ'',Sim n σ'' a'∧Q e σ'' w') fuel (listed.setIfInBounds i true) a' w':=by
     intro v a' w' hRw hAv hs'
     rw[XS hf ho hni v]at hs'
     have hset:=UG hs ho
     refine ih _ a' (fun j=>if j=i then v else vals j) w' (by simpa using hs) ?_ ?_ ?_ ?_ (htrans _ _ _ hR hRw) ?_
     ·intro j hj j' hj'
      rw[hset]at hj⊢
      simp only[Bool.or_eq_true,beq_iff_eq]at hj⊢
      rcases hj with hj|rfl
      ·exact .inl (hc j hj j' hj')
      ·exact .inl (hpre j' hj')
     ·intro j hj
      rw[hset]at hj
      simp only[Bool.or_eq_true,beq_iff_eq]at hj
      rcases hj with hj|rfl
      ·exact hlt j hj
      ·exact hik
     ·rw[hset,WK hni,if_pos hilen];omega
     ·rw[hset];exact hs'
     ·intro j hj
      rw[hset]at hj
      simp only[Bool.or_eq_true,beq_iff_eq]at hj
      by_cases hji:j=i
      ·subst hji;simpa using hAv
      ·rcases hj with hj|hj
       ·simp only[hji,if_false];exact hstab _ _ _ _ hRw (hA j hj)
       ·exact(hji hj).elim
    unfold wpOp
    simp only[List.getElem?_toArray,ho]
    rw[hsim.yielded]
    split<;>rename_i hw
    ·rw[if_pos hw]at hO
     refine .inl (Vn hsim (K:=fun σ'' w'=> ∃v,R w w'∧A i v w'∧σ''=YC (mixed ops (dn listed) vals σ) o.dst v) ?_ hdst ?_)
     ·rintro a' σ'' w' hs' ⟨v,h1,h2,rfl⟩
      exact hnext v a' w' h1 h2 hs'
     ·unfold opP
      rw[Wl (hf.sel i o ho) hv]
      exact WS (fun v w' ⟨h1,h2⟩=>⟨v,h1,h2,rfl⟩) hO
    ·rw[if_neg hw]at hO
     exact hnext undef _ w (by
      have:R w w:=by
       exact hrefl' w
      exact this) hO (hsim.put hdst undef)
theorem KN {id:Nat}(R:World→World→Prop)(A:Nat→Value→World→Prop)(pre:List (List Nat))(k:Nat)(hm:P.follows .mixedOrders=true)(hd:xD n ops=true)(hok:drawOk ops pre k=true)
 (hrefl: ∀w,R w w) (htrans: ∀a b c,R a b→R b c→R a c) (hstab: ∀j v w w',R w w'→A j v w→A j v w')
 (h: ∀w0:World,w0.heap=w.heap→w0.os=w.os→w0.tape=w.tape→w0.output=w.output∧w.drawn≤w0.drawn→zcq P ops pre R A σ w0 0 (ops.take k)∧
  ∀vals w',R w0 w'→(∀j,j<k→A j (vals j) w')→WPs P ops.toArray (Q .normal) (ops.drop k) (behind ops vals σ k) w'):
 WP P n (.region id ops.toArray true) Q σ w:=by
 intro a hs
 have hf:=drawOk.fit hok
 obtain⟨h1,h2⟩:=h {w with drawn:=w.drawn+1} rfl rfl rfl ⟨rfl,Nat.le_succ _⟩
 refine wp_region_any hm ?_
 refine zdq (vals:=fun _=>undef) hf hd hrefl htrans hstab h1 h2 _ _ a _ (by simp) ?_ ?_ ?_ ?_ (hrefl _) ?_
 ·intro i hi
  simp[dn,Array.getElem?_replicate]at hi
  split at hi<;>simp at hi
 ·intro i hi
  simp[dn,Array.getElem?_replicate]at hi
  split at hi<;>simp at hi
 ·simp
 ·have:mixed ops (dn (Array.replicate ops.toArray.size false)) (fun _=>undef) σ=σ:=by
   funext t
   refine Zd fun j _=>?_
   simp[dn,Array.getElem?_replicate]
   split<;>rfl
  rw[this];exact hs
 ·intro i hi
  simp[dn,Array.getElem?_replicate]at hi
  split at hi<;>simp at hi
end
end
section
section
variable {P:Program}{n:Nat}{Q:Xz}{σ:Env}{w:World}{ops:List Oper}{pre:List (List Nat)}
def xL (ss:List Nat)(done:Nat→Bool):Nat:=ss.countP done
structure Stg (pre:List (List Nat)) (ss:List Nat) (i:Nat) (a b:Nat):Prop where
 now: ∀done,closed pre done→done i=false→(∀j∈pre.getD i [],done j=true)→xL ss done=a
 next: ∀done,closed pre done→done i=false→(∀j∈pre.getD i [],done j=true)→xL ss (fun j=>done j||j== i)=b
theorem Wn {ss:List Nat}{d:Nat→Bool}(h: ∀s∈ss,d s=false):ss.countP d=0:=List.countP_eq_zero.2 fun s hs=>by simp[h s hs]
theorem Xl {ss:List Nat}{d:Nat→Bool}{i:Nat}(h:i∉ss):ss.countP (fun j=>d j||j== i)=ss.countP d:=by
 refine List.countP_congr fun s hs=>?_
 have:s≠i:=fun e=>h (e▸hs)
 simp[this]
end
end
section
open Go.RowKit
def Soft (w:World)(b:Nat):Prop:= ∃c T,w.heap[b]? =some (.cells c T)
def SoftStep (w w':World):Prop:= ∀b,Soft w b→Soft w' b
theorem SoftStep.refl (w:World):SoftStep w w:=fun _ h=>h
theorem SoftStep.trans {a b c:World}(h:SoftStep a b)(k:SoftStep b c):SoftStep a c:=fun i hi=>k i (h i hi)
theorem SoftStep.push {w w':World}{o:Obj}(h:w'.heap=w.heap.push o):SoftStep w w':=by
 rintro b ⟨c,T,hb⟩
 have hlt:=(Array.getElem?_eq_some_iff.1 hb).1
 exact⟨c,T,by rw[h,Array.getElem?_push,if_neg (Nat.ne_of_lt hlt)];exact hb⟩
theorem SoftStep.setRow {w:World}{g:Nat}{c:Array Value}:SoftStep w (w.setRow g c):=by
 rintro b ⟨c',T,hb⟩
 by_cases hg:b=g
 ·subst hg;exact⟨c,T,setRow_heap w b c' c T (0,0) hb⟩
 ·exact⟨c',T,by rw[setRow_other w g b c hg];exact hb⟩
structure Chg (O:Nat→Prop) (w w':World):Prop where
 os:w'.os=w.os
 tape:w'.tape=w.tape
 output:w'.output=w.output
 size:w.heap.size≤w'.heap.size
 block: ∀b,b<w.heap.size→ ¬O b→w'.heap[b]? =w.heap[b]?
 soft:SoftStep w w'
 drawn:w.drawn≤w'.drawn
abbrev Ext:World→World→Prop:=Chg (fun _=>False)
theorem Chg.refl (O:Nat→Prop)(w:World):Chg O w w:=⟨rfl,rfl,rfl,Nat.le_refl _,fun _ _ _=>rfl,SoftStep.refl w,Nat.le_refl _⟩
theorem Chg.trans {O:Nat→Prop}{a b c:World}(h:Chg O a b)(k:Chg O b c):Chg O a c:=
 ⟨k.os.trans h.os,k.tape.trans h.tape,k.output.trans h.output,Nat.le_trans h.size k.size,fun i hi hO=>(k.block i (Nat.lt_of_lt_of_le hi h.size) hO).trans (h.block i hi hO),h.soft.trans k.soft,Nat.le_trans h.drawn k.drawn⟩
theorem Chg.weak {O O':Nat→Prop}{a b:World}(h:Chg O a b)(hO: ∀i,i<a.heap.size→O i→O' i):Chg O' a b:=
 ⟨h.os,h.tape,h.output,h.size,fun i hi h'=>h.block i hi (fun ho=>h' (hO i hi ho)),h.soft,h.drawn⟩
theorem Chg.ext {a b:World}(O:Nat→Prop)(h:Ext a b):Chg O a b:=h.weak (fun _ _ h=>h.elim)
theorem Chg.new {O O':Nat→Prop}{a b c:World}(h:Chg O a b)(k:Chg O' b c)(hn: ∀i,i<a.heap.size→O' i→O i):Chg O a c:=
 ⟨k.os.trans h.os,k.tape.trans h.tape,k.output.trans h.output,Nat.le_trans h.size k.size,fun i hi hO=>(k.block i (Nat.lt_of_lt_of_le hi h.size) (fun h'=>hO (hn i hi h'))).trans (h.block i hi hO),h.soft.trans k.soft,Nat.le_trans h.drawn k.drawn⟩
theorem Chg.keep {O:Nat→Prop}{w w':World}{b:Nat}{o:Obj}(h:Chg O w w')(hb:w.heap[b]? =some o)(hO: ¬O b):w'.heap[b]? =some o:=by
 rw[h.block b (Array.getElem?_eq_some_iff.1 hb).1 hO];exact hb
theorem Chg.below {w w':World}(h:Ext w w'):Below w.heap.size w w':=⟨h.os,h.tape,h.output,h.size,fun b hb=>h.block b hb (fun h=>h)⟩
theorem Chg.same {O:Nat→Prop}{a b c:World}(h:Chg O b c)(h1:b.heap=a.heap)(h2:b.os=a.os)(h3:b.tape=a.tape)(h4:b.output=a.output∧a.drawn≤b.drawn):Chg O a c:=
 ⟨h.os.trans h2,h.tape.trans h3,h.output.trans h4.1,h1▸h.size,by rw[←h1];exact h.block,fun i ⟨c,T,hi⟩=>h.soft i ⟨c,T,by rw[h1];exact hi⟩,Nat.le_trans h4.2 h.drawn⟩
theorem XI {w w0:World}(h1:w0.heap=w.heap)(h2:w0.os=w.os)(h3:w0.tape=w.tape)(h4:w0.output=w.output∧w.drawn≤w0.drawn):Ext w w0:=
 (Chg.refl _ w0).same h1 h2 h3 h4
def AL (l:List (Value→World→Prop)):Nat→Value→World→Prop:=fun i v w=>match l[i]? with
 |some p=>p v w
 |none=>True
def zcD (l:List (Value→World→Prop)):Prop:=match l with
 |[]=>True
 |p::l=>(∀v w w',Ext w w'→p v w→p v w')∧zcD l
theorem zcx {l:List (Value→World→Prop)}(h:zcD l): ∀j v w w',Ext w w'→AL l j v w→AL l j v w':=by
 intro j v w w' hx
 induction l generalizing j with
 |nil=>intro _;trivial
 |cons p l ih=>
  cases j with
  |zero=>exact h.1 v w w' hx
  |succ j=>simpa[AL]using ih h.2 j
theorem xz {w:World}{b:Nat}{o:Obj}(h:w.heap[b]? =some o):b<w.heap.size:=(Array.getElem?_eq_some_iff.1 h).1
structure New (w w1:World) (b:Nat) (o:Obj):Prop where
 ext:Ext w w1
 eq:b=w.heap.size
 size:w1.heap.size=b+1
 at_:w1.heap[b]? =some o
theorem New.mk' (w:World)(o:Obj):New w {w with heap:=w.heap.push o} w.heap.size o:=
 ⟨⟨rfl,rfl,rfl,by simp,fun b hb _=>by simp[Array.getElem?_push,Nat.ne_of_lt hb],SoftStep.push rfl,Nat.le_refl _⟩,rfl,by simp,by simp⟩
def CellsAt (w:World)(b off:Nat)(cs:List Value):Prop:= ∀j (h:j<cs.length),w.cell? ⟨b,off+j,none⟩=some cs[j]
theorem Yp {w w':World}{b off:Nat}(h:w'.heap[b]? =w.heap[b]?):w'.cell? ⟨b,off,none⟩=w.cell? ⟨b,off,none⟩:=by
 unfold World.cell?;simp only[h]
theorem Yi {w:World}{b off:Nat}{v:Value}(h:w.cell? ⟨b,off,none⟩=some v):b<w.heap.size:=by
 rcases Nat.lt_or_ge b w.heap.size with hb|hb
 ·exact hb
 ·rw[World.cell?,Array.getElem?_eq_none hb]at h;cases h
theorem Zk {w:World}{b off:Nat}{c:Array Value}{t:TypeId}{fz:Nat×Nat}{v:Value}(h:w.heap[b]? =some (.cells c t fz))(hc:c[off]? =some v):w.cell? ⟨b,off,none⟩=some v:=by
 unfold World.cell?;simp[h,hc]
theorem zd {w:World}{b off:Nat}{c:List Value}{t:TypeId}{fz:Nat×Nat}{v:Value}(h:w.heap[b]? =some (.cells c.toArray t fz))(hc:c[off]? =some v):w.cell? ⟨b,off,none⟩=some v:=Zk h (by simpa using hc)
theorem CellsAt.of_block {w:World}{b off:Nat}{c:Array Value}{t:TypeId}{fz:Nat×Nat}{cs:List Value}(h:w.heap[b]? =some (.cells c t fz))(hc: ∀j (h:j<cs.length),c[off+j]? =some cs[j]):CellsAt w b off cs:=
 fun j hj=>Zk h (hc j hj)
theorem CellsAt.all {w:World}{b:Nat}{c:Array Value}{t:TypeId}{fz:Nat×Nat}(h:w.heap[b]? =some (.cells c t fz)):CellsAt w b 0 c.toList:=
 .of_block h fun j hj=>by simp at hj⊢
theorem CellsAt.lt {w:World}{b off:Nat}{cs:List Value}(h:CellsAt w b off cs)(hne:cs≠[]):b<w.heap.size:=by
 cases cs with
 |nil=>exact(hne rfl).elim
 |cons x l=>exact Yi (h 0 (by simp))
theorem CellsAt.mono {w w':World}{b off:Nat}{cs:List Value}(h:CellsAt w b off cs)(hb:b<w.heap.size→w'.heap[b]? =w.heap[b]?):CellsAt w' b off cs:=by
 intro j hj
 have h1:=h j hj
 rw[Yp (hb (Yi h1))];exact h1
theorem CellsAt.get {w:World}{b off:Nat}{cs:List Value}(h:CellsAt w b off cs){j:Nat}{v:Value}(hj:cs[j]? =some v):w.cell? ⟨b,off+j,none⟩=some v:=by
 obtain⟨hlt,rfl⟩:=List.getElem?_eq_some_iff.1 hj
 exact h j hlt
theorem CellsAt.sub {w:World}{b off:Nat}{cs cs2:List Value}(h:CellsAt w b off cs)(i:Nat)(hs:(cs.drop i).take cs2.length=cs2):CellsAt w b (off+i) cs2:=by
 intro j hj
 have h1:cs2[j]? =cs[i+j]? :=by rw[←hs,List.getElem?_take,if_pos hj,List.getElem?_drop]
 rw[List.getElem?_eq_getElem hj]at h1
 have:=h.get h1.symm
 rw[show off+i+j=off+(i+j) by omega]
 exact this
def All1:List Value→Prop
 |[]=>True
 |v::l=>v.oneCell'=true∧All1 l
theorem yo {l:List Value}(h:All1 l): ∀u∈l,u.oneCell'=true:=by
 induction l with
 |nil=>intro u hu;cases hu
 |cons x l ih=>intro u hu;rcases List.mem_cons.1 hu with rfl|hu;exact h.1;exact ih h.2 u hu
class Rep (α:Type) where
 k:Nat
 rd:World→(Nat→Prop)→List Value→α→Prop
 bytes:Nat
 kpos:0<k
 bpos:0<bytes
 len: ∀{w F cs x},rd w F cs x→cs.length=k
 one: ∀{w F cs x},rd w F cs x→ ∀u∈cs,u.oneCell'=true
 mono: ∀{w w' F F' cs x},rd w F cs x→(∀b,F b→b<w.heap.size→w'.heap[b]? =w.heap[b]? ∧F' b)→rd w' F' cs x
abbrev InR (n:Int):Prop:= -9223372036854775808≤n∧n<9223372036854775808
instance:Rep Int where
 k:=1
 rd _ _ cs n:=cs=[.int .i64 n]∧InR n
 bytes:=8
 bpos:=by decide
 kpos:=by decide
 len h:=by rw[h.1];rfl
 one h:=by rw[h.1];simp[Value.oneCell']
 mono h _:=h
instance:Rep Bool where
 k:=1
 rd _ _ cs n:=cs=[.bool n]
 bytes:=1
 bpos:=by decide
 kpos:=by decide
 len h:=by rw[h];rfl
 one h:=by rw[h];simp[Value.oneCell']
 mono h _:=h
def sb:Value→Nat
 | .slice (some a) _ _=>a.block
 |_=>0
def so:Value→Nat
 | .slice (some a) _ _=>a.off
 |_=>0
def IsSl (v:Value)(n:Nat):Prop:= ∃a cap,v=.slice a n cap∧n≤cap∧(0<n→ ∃b o,a=some ⟨b,o,none⟩)
theorem IsSl.one {v:Value}{n:Nat}(h:IsSl v n):v.oneCell'=true:=by obtain⟨a,cap,rfl,_⟩:=h;rfl
structure RdS {α:Type} [Rep α] (w:World) (F:Nat→Prop) (v:Value) (l:List α):Prop where
 sl:IsSl v l.length
 foot:l≠[]→F (sb v)
 small:l.length*Rep.bytes α≤140737488355328
 at_: ∀i (h:i<l.length),∃cs,CellsAt w (sb v) (so v+i*Rep.k α) cs∧Rep.rd w F cs l[i]
theorem XF {α:Type}[Rep α]{n:Nat}(h:n*Rep.bytes α≤140737488355328):n≤140737488355328:=
 Nat.le_trans (Nat.le_mul_of_pos_right _ Rep.bpos) h
theorem RdS.mono {α:Type}[Rep α]{w w':World}{F F':Nat→Prop}{v:Value}{l:List α}(h:RdS w F v l)(hF: ∀b,F b→b<w.heap.size→w'.heap[b]? =w.heap[b]? ∧F' b):RdS w' F' v l:=by
 have key: ∀i (h':i<l.length),sb v<w.heap.size:=fun i hi=>by
  obtain⟨cs,h1,h2⟩:=h.at_ i hi
  refine h1.lt ?_
  have:=Rep.len h2
  have:=Rep.kpos (α:=α)
  intro he;subst he;simp at*;omega
 refine⟨h.sl,fun hne=>?_,h.small,fun i hi=>?_⟩
 ·have hlt:0<l.length:=List.length_pos_iff.2 hne
  exact(hF _ (h.foot hne) (key 0 hlt)).2
 ·obtain⟨cs,h1,h2⟩:=h.at_ i hi
  exact⟨cs,h1.mono (fun hb=>(hF _ (h.foot (by intro e;subst e;simp at hi)) hb).1),Rep.mono h2 hF⟩
instance {α:Type} [Rep α]:Rep (List α) where
 k:=1
 rd w F cs l:= ∃v,cs=[v]∧RdS w F v l
 bytes:=24
 bpos:=by decide
 kpos:=by decide
 len h:=by obtain⟨v,rfl,_⟩:=h;rfl
 one h:=by obtain⟨v,rfl,h⟩:=h;intro u hu;simp at hu;subst hu;exact h.sl.one
 mono h hF:=by obtain⟨v,rfl,h⟩:=h;exact⟨v,rfl,h.mono hF⟩
theorem RdS.ext {α:Type}[Rep α]{w w':World}{F:Nat→Prop}{v:Value}{l:List α}(h:RdS w F v l)(hx:Ext w w'):RdS w' F v l:=
 h.mono fun b hb hlt=>⟨hx.block b hlt (fun h=>h),hb⟩
theorem RdS.chg {α:Type}[Rep α]{w w':World}{O F:Nat→Prop}{v:Value}{l:List α}(h:RdS w F v l)(hx:Chg O w w')(hO: ∀b,b<w.heap.size→F b→ ¬O b):RdS w' F v l:=
 h.mono fun b hb hlt=>⟨hx.block b hlt (hO b hlt hb),hb⟩
theorem RdS.nil {α:Type}[Rep α](w:World)(F:Nat→Prop):RdS (α:=α) w F (.slice none 0 0) []:=
 ⟨⟨none,0,rfl,Nat.le_refl _,fun h=>absurd h (Nat.lt_irrefl 0)⟩,fun h=>(h rfl).elim,by rw[List.length_nil,Nat.zero_mul];exact Nat.zero_le _,fun i h=>absurd h (Nat.not_lt_zero i)⟩
theorem IsSl.eq {v:Value}{n:Nat}(h:IsSl v n)(hn:0<n): ∃cap,v=.slice (some ⟨sb v,so v,none⟩) n cap∧n≤cap:=by
 obtain⟨a,cap,rfl,h1,h2⟩:=h
 obtain⟨b,o,rfl⟩:=h2 hn
 exact⟨cap,rfl,h1⟩
section
variable {P:Program}{d:Option Tmp}{ty:TypeId}{pos:String}{af:Array Edge}{g:Option (Nat×Bool)}{σ:Env}{w:World}{K:Value→World→Prop}
theorem yp {o:Oper}{v:Value}{w':World}(hr:(execOp (ev σ) o).run P w=.ok (.value v) w')(h:K v w'):opV P o σ w K:=by
 unfold opV;rw[hr];exact h
theorem YY {o:Oper}{w':World}(hr:(execOp (ev σ) o).run P w=.ok .skip w')(h:K undef w'):opV P o σ w K:=by
 unfold opV;rw[hr];exact h
theorem zP {x:Operand}{v:Value}(hx:ev σ x=v)(h:K v w):opV P ⟨d,.move x,ty,pos,af,g⟩ σ w K:=yp (by simp[execOp,hx]) h
theorem zM {x:Operand}{v:Value}(hx:ev σ x=v)(h:K v w):opV P ⟨d,.assign x,ty,pos,af,g⟩ σ w K:=yp (by simp[execOp,hx]) h
theorem yC {c a b:Operand}{v:Value}(hc:ev σ c=.bool true)(hx:ev σ a=v)(h:K v w):opV P ⟨d,.pick c a b,ty,pos,af,g⟩ σ w K:=
 yp (v:=v) (w':=w) (by simp[execOp,hc,hx,asBool,go_sem]) h
theorem yt {c a b:Operand}{v:Value}(hc:ev σ c=.bool false)(hx:ev σ b=v)(h:K v w):opV P ⟨d,.pick c a b,ty,pos,af,g⟩ σ w K:=
 yp (v:=v) (w':=w) (by simp[execOp,hc,hx,asBool,go_sem]) h
theorem zx {c a:Operand}{b b':Bool}(hc:ev σ c=.bool b)(hx:b=true→ev σ a=.bool b')(h:K (.bool (b&&b')) w):opV P ⟨d,.pick c a (.const (.bool false)),ty,pos,af,g⟩ σ w K:=by
 cases b
 ·exact yt hc rfl h
 ·exact yC hc (hx rfl) (by simpa using h)
theorem zI {c a:Operand}{b b':Bool}(hc:ev σ c=.bool b)(hx:b=false→ev σ a=.bool b')(h:K (.bool (b||b')) w):opV P ⟨d,.pick c (.const (.bool true)) a,ty,pos,af,g⟩ σ w K:=by
 cases b
 ·exact yt hc (hx rfl) (by simpa using h)
 ·exact yC hc rfl h
theorem zX {x:Operand}{v:Value}{t:TypeId}(hx:ev σ x=v)(h: ∀w1 b,New w w1 b (.cells v.cells t)→K (.pointer (some ⟨b,0,none⟩)) w1):opV P ⟨d,.box t x,ty,pos,af,g⟩ σ w K:=
 yp (v:=.pointer (some ⟨w.heap.size,0,none⟩)) (w':={w with heap:=w.heap.push (.cells v.cells t)}) (by simp[execOp,hx,Instr.box,newVar,newRow,newObj,Sem.run,go_sem]) (h _ _ (New.mk' _ _))
theorem zG {t:TypeId}{z:Value}(hz: ∀w,(zeroValue t).run P w=.ok z w)(h: ∀w1 b,New w w1 b (.cells z.cells t)→K (.pointer (some ⟨b,0,none⟩)) w1):opV P ⟨d,.alloc t,ty,pos,af,g⟩ σ w K:=
 yp (v:=.pointer (some ⟨w.heap.size,0,none⟩)) (w':={w with heap:=w.heap.push (.cells z.cells t)}) (by simp[execOp,Instr.alloc,newVar,newRow,newObj,Sem.run,go_sem,hz]) (h _ _ (New.mk' _ _))
theorem yF {t:TypeId}{x:Operand}{b o:Nat}{v:Value}(hA: ∀w,(isAgg t).run P w=.ok false w)(hx:ev σ x=.pointer (some ⟨b,o,none⟩))(hc:w.cell? ⟨b,o,none⟩=some v)(h:K v w):
 opV P ⟨d,.load t x,ty,pos,af,g⟩ σ w K:=
 yp (v:=v) (w':=w) (by simp[execOp,hx,Instr.loadAt,Instr.sureAddr,loadVar,hA,load,Sem.run,hc,go_sem]) h
theorem xt (b o:Nat): ∀(cs:List Value) (i:Nat) (acc:Array Value),(∀j (h:j<cs.length),w.cell? ⟨b,o+(i+j),none⟩=some cs[j])→
 (loadCellsFrom ⟨b,o,none⟩ i cs.length acc).run P w=.ok (acc++cs.toArray) w
 |[],i,acc,_=>by simp[loadCellsFrom]
 |c::cs,i,acc,h=>by
  have h0:=h 0 (by simp)
  have ih:=xt b o cs (i+1) (acc.push c) (fun j hj=>by
   have:=h (j+1) (by simpa using hj)
   rw[show o+(i+(j+1))=o+(i+1+j) by omega]at this
   exact this)
  have ha:(⟨b,o,none⟩:Addr).add i=⟨b,o+i,none⟩:=by unfold Addr.add;split<;>simp_all
  simp only[Nat.add_zero,List.getElem_cons_zero]at h0
  simp only[List.length_cons,loadCellsFrom,load,Sem.run_bind,Sem.run,ha,h0,Result.andThen_ok,ih]
  simp
theorem zh {t:TypeId}{x:Operand}{b o k:Nat}{cs:List Value}(hA: ∀w,(isAgg t).run P w=.ok true w)(hS: ∀w,(sizeOf t).run P w=.ok k w)(hk:cs.length=k)
 (hx:ev σ x=.pointer (some ⟨b,o,none⟩)) (hc:CellsAt w b o cs) (h:K (.agg cs.toArray) w):opV P ⟨d,.load t x,ty,pos,af,g⟩ σ w K:=by
 subst hk
 refine yp (v:=.agg cs.toArray) (w':=w) ?_ h
 have:=xt (P:=P) (w:=w) b o cs 0 #[] (fun j hj=>by simpa using hc j hj)
 simp[execOp,hx,Instr.loadAt,Instr.sureAddr,loadVar,hA,hS,loadCells,this,go_sem]
theorem zO {x y:Operand}{t t2:TypeId}{k:IntKind}{a b r:Int}(hx:ev σ x=.int k a)(hy:ev σ y=.int k b)(hr:k.wrap (a+b)=r)(h:K (.int k r) w):opV P ⟨d,.binOp .add t x y t2,ty,pos,af,g⟩ σ w K:=
 yp (v:=.int k r) (w':=w) (by subst hr;simp[execOp,hx,hy,eqGuard,binOp,Op.intArith,go_sem]) h
theorem xK {x y:Operand}{t t2:TypeId}{k:IntKind}{a b r:Int}(hx:ev σ x=.int k a)(hy:ev σ y=.int k b)(hr:k.wrap (a-b)=r)(h:K (.int k r) w):opV P ⟨d,.binOp .sub t x y t2,ty,pos,af,g⟩ σ w K:=
 yp (v:=.int k r) (w':=w) (by subst hr;simp[execOp,hx,hy,eqGuard,binOp,Op.intArith,go_sem]) h
theorem Uw {x y:Operand}{t t2:TypeId}{k:IntKind}{a b r:Int}(hx:ev σ x=.int k a)(hy:ev σ y=.int k b)(hr:k.wrap (a*b)=r)(h:K (.int k r) w):opV P ⟨d,.binOp .mul t x y t2,ty,pos,af,g⟩ σ w K:=
 yp (v:=.int k r) (w':=w) (by subst hr;simp[execOp,hx,hy,eqGuard,binOp,Op.intArith,go_sem]) h
theorem zw {n:Int}(h:InR n):IntKind.i64.wrap n=n:=Go.IntWalk.i64_in n (by unfold InR at h;omega)
theorem Qj {n:Int}(h:0≤n∧n<18446744073709551616):IntKind.u64.wrap n=n:=Go.IntWalk.u64_in n (by omega)
theorem KA {x:Operand}{t t2:TypeId}{k k2:IntKind}{a r:Int}(hs:(P.underlying t).isSome=true)(hu:P.underlying t2=some (.int k2))(hx:ev σ x=.int k a)(hr:k2.wrap a=r)(h:K (.int k2 r) w):opV P ⟨d,.convert t t2 x,ty,pos,af,g⟩ σ w K:=by
 have hk:P.intKind t2=k2:=by simp[Program.intKind,hu]
 have:=run_convert_int (P:=P) w t t2 k a hs (by rw[hk];exact hu)
 rw[hk,hr]at this
 exact yp (v:=.int k2 r) (w':=w) (by simp[execOp,hx,this,go_sem]) h
theorem zdv {x y:Operand}{t t2:TypeId}{k yk:IntKind}{a b r:Int}(hx:ev σ x=.int k a)(hy:ev σ y=.int yk b)(h0:0≤b)(h1:b≤k.bits)(hr:a/2^b.toNat=r)(h:K (.int k r) w):opV P ⟨d,.binOp .shr t x y t2,ty,pos,af,g⟩ σ w K:=
 yp (v:=.int k r) (w':=w) (by subst hr;simp[execOp,hx,hy,eqGuard,binOp,shift_shr k yk a b h0 h1,go_sem]) h
def b2 (b:Bool):Value:=.bool b
theorem zK {x y:Operand}{t t2:TypeId}{k:IntKind}{a b:Int}(hx:ev σ x=.int k a)(hy:ev σ y=.int k b)(h:K (.bool (decide (a<b))) w):opV P ⟨d,.binOp .lss t x y t2,ty,pos,af,g⟩ σ w K:=
 yp (v:=.bool (decide (a<b))) (w':=w) (by simp[execOp,hx,hy,eqGuard,binOp,Op.intCmp,go_sem]) h
theorem Kv {x y:Operand}{t t2:TypeId}{k:IntKind}{a b:Int}(hx:ev σ x=.int k a)(hy:ev σ y=.int k b)(h:K (.bool (decide (a≤b))) w):opV P ⟨d,.binOp .leq t x y t2,ty,pos,af,g⟩ σ w K:=
 yp (v:=.bool (decide (a≤b))) (w':=w) (by simp[execOp,hx,hy,eqGuard,binOp,Op.intCmp,go_sem]) h
theorem xh {x y:Operand}{t t2:TypeId}{k:IntKind}{a b:Int}(hx:ev σ x=.int k a)(hy:ev σ y=.int k b)(h:K (.bool (decide (b<a))) w):opV P ⟨d,.binOp .gtr t x y t2,ty,pos,af,g⟩ σ w K:=
 yp (v:=.bool (decide (b<a))) (w':=w) (by simp[execOp,hx,hy,eqGuard,binOp,Op.intCmp,go_sem]) h
theorem xv {x y:Operand}{t t2:TypeId}{k:IntKind}{a b:Int}(hx:ev σ x=.int k a)(hy:ev σ y=.int k b)(h:K (.bool (decide (b≤a))) w):opV P ⟨d,.binOp .geq t x y t2,ty,pos,af,g⟩ σ w K:=
 yp (v:=.bool (decide (b≤a))) (w':=w) (by simp[execOp,hx,hy,eqGuard,binOp,Op.intCmp,go_sem]) h
theorem zS {x y:Operand}{t t2:TypeId}{k:IntKind}{a b:Int}(hx:ev σ x=.int k a)(hy:ev σ y=.int k b)(h:K (.bool (decide (a=b))) w):opV P ⟨d,.binOp .eql t x y t2,ty,pos,af,g⟩ σ w K:=
 yp (v:=.bool (decide (a=b))) (w':=w) (by simp[execOp,hx,hy,eqGuard,binOp,Op.intCmp,go_sem];rfl) h
theorem yy {x y:Operand}{t t2:TypeId}{k:IntKind}{a b:Int}(hx:ev σ x=.int k a)(hy:ev σ y=.int k b)(h:K (.bool (!decide (a=b))) w):opV P ⟨d,.binOp .neq t x y t2,ty,pos,af,g⟩ σ w K:=
 yp (v:=.bool (!decide (a=b))) (w':=w) (by simp[execOp,hx,hy,eqGuard,binOp,Op.intCmp,go_sem];rfl) h
theorem zcp {x y:Operand}{t t2:TypeId}{a b:Bool}(hU:P.underlying t=some .bool)(hx:ev σ x=.bool a)(hy:ev σ y=.bool b)(h:K (.bool (a== b)) w):opV P ⟨d,.binOp .eql t x y t2,ty,pos,af,g⟩ σ w K:=
 yp (v:=.bool (a== b)) (w':=w) (by simp[execOp,hx,hy,eqGuard,run_eql_bool w t a b hU,go_sem]) h
theorem UD {x y:Operand}{t t2:TypeId}{a b:Bool}(hU:P.underlying t=some .bool)(hx:ev σ x=.bool a)(hy:ev σ y=.bool b)(h:K (.bool (!(a== b))) w):opV P ⟨d,.binOp .neq t x y t2,ty,pos,af,g⟩ σ w K:=
 yp (v:=.bool (!(a== b))) (w':=w) (by simp[execOp,hx,hy,eqGuard,run_neq_bool w t a b hU,go_sem]) h
theorem yD {x:Operand}{t:TypeId}{a:Bool}(hx:ev σ x=.bool a)(h:K (.bool (!a)) w):opV P ⟨d,.unOp .not t x,ty,pos,af,g⟩ σ w K:=
 yp (v:=.bool (!a)) (w':=w) (by simp[execOp,hx,Op.unary,go_sem]) h
theorem ZP {x y:Operand}{t t2:TypeId}{xs ys:Array Value}{e:Bool}(hE: ∀w,(do eqGuard .eql t x y (.agg xs) (.agg ys);binOp .eql t (.agg xs) (.agg ys):Sem Value).run P w=.ok (.bool e) w)(hx:ev σ x=.agg xs)(hy:ev σ y=.agg ys)(h:K (.bool e) w):opV P ⟨d,.binOp .eql t x y t2,ty,pos,af,g⟩ σ w K:=by
 have e':execOp (ev σ) ⟨d,.binOp .eql t x y t2,ty,pos,af,g⟩=((do eqGuard .eql t x y (ev σ x) (ev σ y);binOp .eql t (ev σ x) (ev σ y):Sem Value)) >>= fun v=>pure (Next.value v):=rfl
 exact yp (v:=.bool e) (w':=w) (by rw[e',hx,hy,Sem.run_bind,hE];rfl) h
theorem XO {x y:Operand}{t t2:TypeId}{xs ys:Array Value}{e:Bool}(hE: ∀w,(do eqGuard .neq t x y (.agg xs) (.agg ys);binOp .neq t (.agg xs) (.agg ys):Sem Value).run P w=.ok (.bool (!e)) w)(hx:ev σ x=.agg xs)(hy:ev σ y=.agg ys)(h:K (.bool (!e)) w):opV P ⟨d,.binOp .neq t x y t2,ty,pos,af,g⟩ σ w K:=by
 have e':execOp (ev σ) ⟨d,.binOp .neq t x y t2,ty,pos,af,g⟩=((do eqGuard .neq t x y (ev σ x) (ev σ y);binOp .neq t (ev σ x) (ev σ y):Sem Value)) >>= fun v=>pure (Next.value v):=rfl
 exact yp (v:=.bool (!e)) (w':=w) (by rw[e',hx,hy,Sem.run_bind,hE];rfl) h
theorem zC {x:Operand}{t e:TypeId}{v:Value}{n:Nat}(hU:P.underlying t=some (.slice e))(hx:ev σ x=v)(hv:IsSl v n)(h:K (.int .i64 n) w):
 opV P ⟨d,.call ⟨.builtin .len,#[x],#[t]⟩,ty,pos,af,g⟩ σ w K:=by
 obtain⟨a,cap,rfl,_,_⟩:=hv
 exact yp (v:=.int .i64 n) (w':=w) (by simp[hx,Builtin.len_,run_underlying hU,goInt,go_sem]) h
theorem Ul {x y:Operand}{t t':TypeId}{k:IntKind}{a b:Int}(hx:ev σ x=.int k a)(hy:ev σ y=.int k b)(h:K (.int k (max a b)) w):
 opV P ⟨d,.call ⟨.builtin .max,#[x,y],#[t,t']⟩,ty,pos,af,g⟩ σ w K:=
 yp (v:=.int k (max a b)) (w':=w) (by
  have:(if b>a then b else a)=max a b:=by split<;>omega
  simp[hx,hy,Builtin.max_,Builtin.max2,go_sem,this]) h
theorem zbk {x y:Operand}{t t':TypeId}{k:IntKind}{a b:Int}(hx:ev σ x=.int k a)(hy:ev σ y=.int k b)(h:K (.int k (min a b)) w):
 opV P ⟨d,.call ⟨.builtin .min,#[x,y],#[t,t']⟩,ty,pos,af,g⟩ σ w K:=
 yp (v:=.int k (min a b)) (w':=w) (by
  have:(if b<a then b else a)=min a b:=by split<;>omega
  simp[hx,hy,Builtin.min_,Builtin.min2,go_sem,this]) h
theorem zu {s:TypeId}{f:Nat}{x:Operand}{b o off:Nat}{fields:Array Field}{fd:Field}(hU:P.underlying s=some (.struct fields))(hf:fields[f]? =some fd)(ho:fd.offset=off)(hz: ∀w,∃k,(sizeOf fd.type).run P w=.ok (k+1) w)
 (hx:ev σ x=.pointer (some ⟨b,o,none⟩)) (h:K (.pointer (some ⟨b,o+off,none⟩)) w):opV P ⟨d,.fieldAddr s x f,ty,pos,af,g⟩ σ w K:=by
 subst ho
 obtain⟨k,hk⟩:=hz w
 exact yp (v:=.pointer (some ⟨b,o+fd.offset,none⟩)) (w':=w) (by simp[execOp,hx,Instr.fieldAt,run_underlying hU,hf,Instr.sureAddr,fieldPlace,hk,go_sem]) h
theorem zB {t e:TypeId}{k:Nat}{x y:Operand}{v:Value}{n:Nat}{i:Int}{ki:IntKind}(hU:P.underlying t=some (.slice e))(hS: ∀w,(sizeOf e).run P w=.ok k w)(hx:ev σ x=v)(hv:IsSl v n)(hy:ev σ y=.int ki i)
 (hi:0≤i∧i<n) (h:K (.pointer (some ⟨sb v,so v+i.toNat*k,none⟩)) w):opV P ⟨d,.indexAddr t x y,ty,pos,af,g⟩ σ w K:=by
 obtain⟨cap,he,_⟩:=hv.eq (n:=n) (by omega)
 rw[he]at hx
 exact yp (v:=.pointer (some ⟨sb v,so v+i.toNat*k,none⟩)) (w':=w) (by simp[execOp,hx,hy,Instr.indexAt,asIntOf,run_underlying hU,hi,hS,go_sem]) h
theorem zf {t e:TypeId}{k:Nat}{x y:Operand}{v:Value}{n i:Nat}{ki:IntKind}(hU:P.underlying t=some (.slice e))(hS: ∀w,(sizeOf e).run P w=.ok k w)(hx:ev σ x=v)(hv:IsSl v n)(hy:ev σ y=.int ki (i:Int))
 (hi:i<n) (h:K (.pointer (some ⟨sb v,so v+i*k,none⟩)) w):opV P ⟨d,.indexAddr t x y,ty,pos,af,g⟩ σ w K:=
 zB hU hS hx hv hy (by omega) (by simpa using h)
theorem VH {t e:TypeId}{k n i b o off:Nat}{x y:Operand}{ki:IntKind}(hU:P.underlying t=some (.array n e))(hS: ∀w,(sizeOf e).run P w=.ok k w)(hx:ev σ x=.pointer (some ⟨b,o,none⟩))(hy:ev σ y=.int ki (i:Int))
 (hi:i<n) (ho:i*k=off) (h:K (.pointer (some ⟨b,o+off,none⟩)) w):opV P ⟨d,.indexAddr t x y,ty,pos,af,g⟩ σ w K:=by
 subst ho
 exact yp (v:=.pointer (some ⟨b,o+i*k,none⟩)) (w':=w) (by simp[execOp,hx,hy,Instr.indexAt,Instr.sureAddr,asIntOf,run_underlying hU,hi,hS,go_sem]) h
structure Put (w w1:World) (b:Nat) (c:Array Value) (t:TypeId):Prop where
 chg:Chg (fun i=>i=b) w w1
 size:w1.heap.size=w.heap.size
 at_:w1.heap[b]? =some (.cells c t)
def Wz (c:Array Value)(o:Nat)(l:List Value):Array Value:=(c.toList.take o++l++c.toList.drop (o+l.length)).toArray
theorem KE {b:Nat}{c c':Array Value}{t:TypeId}(hb:w.heap[b]? =some (.cells c t)):Put w (w.setRow b c') b c' t:=
 ⟨⟨rfl,rfl,rfl,by simp[World.setRow],fun i _ h=>setRow_other w b i c' h,SoftStep.setRow,Nat.le_refl _⟩,by simp[World.setRow],setRow_heap w b c c' t (0,0) hb⟩
theorem zy {t T:TypeId}{x y:Operand}{b o:Nat}{v:Value}{c c':Array Value}(hS: ∀w,(sizeOf t).run P w=.ok v.cells.size w)(hx:ev σ x=.pointer (some ⟨b,o,none⟩))(hy:ev σ y=v)
 (hb:w.heap[b]? =some (.cells c T)) (h1: ∀u∈v.cells.toList,u.oneCell'=true) (hfit:o+v.cells.toList.length≤c.size) (hc:Wz c o v.cells.toList=c') (h: ∀w1,Put w w1 b c' T→K undef w1):
 opV P ⟨d,.store t x y,ty,pos,af,g⟩ σ w K:=by
 subst hc
 have hst:=run_storeCells_at (P:=P) b o T v.cells.toList 0 c w hb (by simpa using hfit) h1
 simp only[Nat.add_zero]at hst
 refine YY (w':=w.setRow b (Wz c o v.cells.toList)) ?_ (h _ (KE hb))
 have hsv:(storeVar t ⟨b,o,none⟩ v).run P w=.ok () (w.setRow b (Wz c o v.cells.toList)):=by
  unfold storeVar
  rw[Sem.run_bind,hS,Result.andThen_ok,if_neg (by simp)]
  exact hst
 have e:execOp (ev σ) ⟨d,.store t x y,ty,pos,af,g⟩=((Instr.sureAddr (ev σ x)) >>= fun a=>storeVar t a (ev σ y)) >>= fun _=>pure Next.skip:=rfl
 rw[e,hx,hy,Sem.run_bind,Sem.run_bind]
 show(((pure (⟨b,o,none⟩:Addr):Sem Addr).run P w).andThen fun a w=>(storeVar t a v).run P w).andThen _=_
 rw[Sem.run_pure,Result.andThen_ok,hsv]
 rfl
theorem xw {v:Value}(h:v.oneCell'=true):v.cells=#[v]:=by cases v<;>first|rfl|cases h
theorem ym {t T:TypeId}{x y:Operand}{b o:Nat}{v:Value}{c c':List Value}(hS: ∀w,(sizeOf t).run P w=.ok 1 w)(hx:ev σ x=.pointer (some ⟨b,o,none⟩))(hy:ev σ y=v)
 (hb:w.heap[b]? =some (.cells c.toArray T)) (h1:v.oneCell'=true) (hfit:Nat.blt o c.length=true) (hc:c.set o v=c') (h: ∀w1,Put w w1 b c'.toArray T→K undef w1):opV P ⟨d,.store t x y,ty,pos,af,g⟩ σ w K:=by
 have hcl:=xw h1
 have hlt:o<c.length:=by simpa[Nat.blt_eq]using hfit
 refine zy (v:=v) (by intro w;rw[hS,hcl];rfl) hx hy hb (by rw[hcl];intro u hu;simp at hu;subst hu;exact h1) (by rw[hcl];simp;omega) ?_ h
 subst hc
 rw[hcl,Wz]
 simp only[List.cons_append,List.nil_append,List.length_cons,List.length_nil,Nat.zero_add]
 rw[List.set_eq_take_append_cons_drop,if_pos hlt]
 simp
theorem zH {t e:TypeId}{n k:Nat}{parts:List (Nat×Operand)}{parts':List (Nat×Value)}{z:Value}{c:Array Value}(hU:P.underlying t=some (.slice e))(hS: ∀w,(sizeOf e).run P w=.ok k w)(hZ: ∀w,(zeroValue e).run P w=.ok z w)(hn:n*k≤16777216)
 (hp:(parts.map fun p=>(p.1,ev σ p.2))=parts') (hc:Instr.fill (fun i=>some (i*k,k)) ((Array.range (n*k)).map ((if n*k=0 then#[]else z.cells)[· %(if n*k=0 then#[]else z.cells).size]!)) parts'=some c)
 (h: ∀w1 b,New w w1 b (.cells c e)→K (.slice (some ⟨b,0,none⟩) n n) w1):opV P ⟨d,.buildSlice t n parts.toArray,ty,pos,af,g⟩ σ w K:=by
 have hp':(parts.toArray.map fun(i,x)=>(i,ev σ x))=parts'.toArray:=by rw[←hp];simp
 refine yp (v:=.slice (some ⟨w.heap.size,0,none⟩) n n) (w':={w with heap:=w.heap.push (.cells c e)}) ?_ (h _ _ (New.mk' _ _))
 have hbs:(Instr.buildSlice t n parts'.toArray).run P w=.ok (.slice (some ⟨w.heap.size,0,none⟩) n n) {w with heap:=w.heap.push (.cells c e)}:=by
  unfold Instr.buildSlice
  rw[Sem.run_bind,run_underlying hU,Result.andThen_ok]
  simp only[]
  rw[Sem.run_bind,hS,Result.andThen_ok,if_neg (by omega)]
  by_cases h0:n*k=0
  ·rw[if_pos h0,Sem.run_bind,Sem.run_pure,Result.andThen_ok]
   simp only[if_pos h0]at hc
   simp only[hc]
   rfl
  ·rw[if_neg h0,Sem.run_bind,hZ,Result.andThen_ok,Sem.run_bind,Sem.run_pure,Result.andThen_ok]
   simp only[if_neg h0]at hc
   simp only[hc]
   rfl
 have e':execOp (ev σ) ⟨d,.buildSlice t n parts.toArray,ty,pos,af,g⟩=(Instr.buildSlice t n (parts.toArray.map fun(i,x)=>(i,ev σ x))) >>= fun v=>pure (Next.value v):=rfl
 rw[e',hp',Sem.run_bind,hbs]
 rfl
theorem zV {t:TypeId}{parts:List (Nat×Operand)}{parts':List (Nat×Value)}{v:Value}(hp:(parts.map fun p=>(p.1,ev σ p.2))=parts')(hr:(Instr.build t parts'.toArray).run P w=.ok v w)(h:K v w):opV P ⟨d,.build t parts.toArray,ty,pos,af,g⟩ σ w K:=by
 have hp':(parts.toArray.map fun(i,x)=>(i,ev σ x))=parts'.toArray:=by rw[←hp];simp
 have e':execOp (ev σ) ⟨d,.build t parts.toArray,ty,pos,af,g⟩=(Instr.build t (parts.toArray.map fun(i,x)=>(i,ev σ x))) >>= fun v=>pure (Next.value v):=rfl
 exact yp (v:=v) (w':=w) (by rw[e',hp',Sem.run_bind,hr];rfl) h
theorem zW {f:FuncId}{x:Operand}{as:List Operand}{ts:Array TypeId}{vals:List Value}{cap:List Value}{R:Value→World→Prop}(hf:ev σ x=.func (.func f) #[] cap.toArray)(ha:as.map (ev σ)=vals)
 (hcall: ∀args w,(callFunc f args).run P w=.ok (.enter f args) w) (hc:Ret P f (vals++cap) w R) (h: ∀v w',R v w'→K v w'):
 opV P ⟨d,.call ⟨.value x,as.toArray,ts⟩,ty,pos,af,g⟩ σ w K:=by
 have hr:(execOp (ev σ) ⟨d,.call ⟨.value x,as.toArray,ts⟩,ty,pos,af,g⟩).run P w=.ok (.enter f (vals++cap).toArray) w:=by
  simp[execOp,resolve,hf,Deferred.ofValue,invoke,hcall,←ha,go_sem]
 unfold opV
 rw[hr]
 exact Calls.mono hc fun _ _ ⟨v,he,hR⟩=>⟨v,he,h _ _ hR⟩
theorem zU {fn:Func}{t:Tmp}{R:Value→World→Prop}{v:Value}(hr:fn.results=#[.tmp t])(hv:σ t=v)(h:R v w):Wt P fn R .ret σ w:=
 ⟨v,fun tmps ht=>by rw[results_tmp hr,ht,hv],h⟩
theorem Kr {fn:Func}{t u:Tmp}{R:Value→World→Prop}{v v':Value}(hr:fn.results=#[.tmp t,.tmp u])(hv:σ t=v)(hv':σ u=v')(h:R (.tuple #[v,v']) w):Wt P fn R .ret σ w:=
 ⟨_,fun tmps ht=>by rw[results_tmp2 hr,ht,ht,hv,hv'],h⟩
theorem Xe {fn:Func}{R:Value→World→Prop}(hr:fn.results=#[])(h:R (.tuple #[]) w):Wt P fn R .normal σ w:=
 ⟨_,fun tmps _=>by rw[results_none hr],h⟩
theorem zaW {fn:Func}{R:Value→World→Prop}(hr:fn.results=#[])(h:R (.tuple #[]) w):Wt P fn R .ret σ w:=
 ⟨_,fun tmps _=>by rw[results_none hr],h⟩
theorem Yd {fn:Func}{a:Tmp}{t:TypeId}{R:Value→World→Prop}{b k:Nat}{cs:List Value}(hr:fn.results=#[.cell a t])(hA: ∀w,(isAgg t).run P w=.ok true w)(hS: ∀w,(sizeOf t).run P w=.ok k w)(hk:cs.length=k)
 (hv:σ a=.pointer (some ⟨b,0,none⟩)) (hc:CellsAt w b 0 cs) (h:R (.agg cs.toArray) w):Wt P fn R .ret σ w:=by
 subst hk
 refine⟨_,fun tmps ht=>?_,h⟩
 have:=xt (P:=P) (w:=w) b 0 cs 0 #[] (fun j hj=>by simpa using hc j hj)
 have e:tmps[a]?.getD undef=.pointer (some ⟨b,0,none⟩):=by rw[←hv,←ht a];simp
 simp[results,hr,e,asAddr,loadVar,hA,hS,loadCells,this,go_sem]
end
theorem cL {P:Program}{d:Option Tmp}{ty:TypeId}{pos:String}{af:Array Edge}{g:Option (Nat×Bool)}{σ:Env}{w:World}{K:Value→World→Prop}{f:FuncId}{x:Operand}{as:List Operand}{ts:Array TypeId}{vals:List Value}{R:Value→World→Prop}(hcall: ∀args w,(callFunc f args).run P w=.ok (.enter f args) w)(hc:Ret P f vals w R)(h: ∀v w',R v w'→K v w')(hf:ev σ x=.func (.func f) #[] #[]:=by rfl)(ha:as.map (ev σ)=vals:=by rfl):opV P ⟨d,.call ⟨.value x,as.toArray,ts⟩,ty,pos,af,g⟩ σ w K:=zW (cap:=[]) hf ha hcall (by rw[List.append_nil];exact hc) h
section
variable {P:Program}{d:Option Tmp}{ty:TypeId}{pos:String}{af:Array Edge}{g:Option (Nat×Bool)}{σ:Env}{w:World}{K:Value→World→Prop}
theorem mV {x:Operand}(v:Value)(h:K v w)(hx:ev σ x=v:=by rfl):opV P ⟨d,.move x,ty,pos,af,g⟩ σ w K:=zP hx h
theorem aS {x:Operand}(v:Value)(h:K v w)(hx:ev σ x=v:=by rfl):opV P ⟨d,.assign x,ty,pos,af,g⟩ σ w K:=zM hx h
theorem lD {t:TypeId}{x:Operand}{b o:Nat}(v:Value)(hA: ∀w,(isAgg t).run P w=.ok false w)(hx:ev σ x=.pointer (some ⟨b,o,none⟩))(hc:w.cell? ⟨b,o,none⟩=some v)(h:K v w):opV P ⟨d,.load t x,ty,pos,af,g⟩ σ w K:=yF hA hx hc h
end
end
section
open Go.RowKit
section
variable {α:Type}[Rep α]
def Els (w:World)(F:Nat→Prop):List (List Value)→List α→Prop
 |[],[]=>True
 |cs::css,x::l=>Rep.rd w F cs x∧Els w F css l
 |_,_=>False
theorem Els.mono {w w':World}{F F':Nat→Prop}(hF: ∀b,F b→b<w.heap.size→w'.heap[b]? =w.heap[b]? ∧F' b): ∀{css:List (List Value)} {l:List α},Els w F css l→Els w' F' css l
 |[],[],_=>trivial
 |_::_,_::_,h=>⟨Rep.mono h.1 hF,Els.mono hF h.2⟩
 |[],_::_,h=>h.elim
 |_::_,[],h=>h.elim
theorem Els.append {w:World}{F:Nat→Prop}: ∀{css css2:List (List Value)} {l l2:List α},Els w F css l→Els w F css2 l2→Els w F (css++css2) (l++l2)
 |[],_,[],_,_,h2=>h2
 |_::_,_,_::_,_,h,h2=>⟨h.1,Els.append h.2 h2⟩
 |[],_,_::_,_,h,_=>h.elim
 |_::_,_,[],_,h,_=>h.elim
theorem Els.length {w:World}{F:Nat→Prop}: ∀{css:List (List Value)} {l:List α},Els w F css l→css.length=l.length
 |[],[],_=>rfl
 |_::_,_::_,h=>by simp[Els.length h.2]
 |[],_::_,h=>h.elim
 |_::_,[],h=>h.elim
theorem Els.flat {w:World}{F:Nat→Prop}: ∀{css:List (List Value)} {l:List α},Els w F css l→css.flatten.length=l.length*Rep.k α
 |[],[],_=>by simp
 |_::_,_::_,h=>by simp only[List.flatten_cons,List.length_append,List.length_cons,Els.flat h.2,Rep.len h.1];rw[Nat.add_mul];omega
 |[],_::_,h=>h.elim
 |_::_,[],h=>h.elim
theorem Els.one {w:World}{F:Nat→Prop}: ∀{css:List (List Value)} {l:List α},Els w F css l→ ∀u∈css.flatten,u.oneCell'=true
 |[],[],_=>by simp
 |_::_,_::_,h=>by
  intro u hu
  simp only[List.flatten_cons,List.mem_append]at hu
  rcases hu with hu|hu
  ·exact Rep.one h.1 u hu
  ·exact Els.one h.2 u hu
 |[],_::_,h=>h.elim
 |_::_,[],h=>h.elim
theorem Els.at_ {w:World}{F:Nat→Prop}: ∀{css:List (List Value)} {l:List α},Els w F css l→ ∀i (h:i<l.length),∃cs,Rep.rd w F cs l[i]∧ ∀j (hj:j<cs.length),css.flatten[i*Rep.k α+j]? =some cs[j]
 |[],[],_,i,h=>absurd h (Nat.not_lt_zero i)
 |cs::css,x::l,h,0,_=>⟨cs,h.1,fun j hj=>by simp[List.getElem?_append,hj]⟩
 |cs::css,x::l,h,i+1,hi=>by
  obtain⟨c,h1,h2⟩:=Els.at_ h.2 i (by simpa using hi)
  refine⟨c,by simpa using h1,fun j hj=>?_⟩
  have hl:=Rep.len h.1
  rw[List.flatten_cons,List.getElem?_append_right (by rw[hl,Nat.add_mul];omega),hl,show(i+1)*Rep.k α+j-Rep.k α=i*Rep.k α+j by rw[Nat.add_mul];omega]
  exact h2 j hj
 |[],_::_,h,_,_=>h.elim
 |_::_,[],h,_,_=>h.elim
theorem RdS.els {w:World}{F:Nat→Prop}{v:Value}{l:List α}(h:RdS w F v l): ∃css,Els w F css l∧ ∀j u,css.flatten[j]? =some u→w.cell? ⟨sb v,so v+j,none⟩=some u:=by
 suffices key: ∀(l':List α) (k:Nat),(∀i (hi:i<l'.length),∃cs,CellsAt w (sb v) (so v+(k+i)*Rep.k α) cs∧Rep.rd w F cs l'[i])→
  ∃css,Els w F css l'∧ ∀j u,css.flatten[j]? =some u→w.cell? ⟨sb v,so v+(k*Rep.k α+j),none⟩=some u by
  obtain⟨css,h1,h2⟩:=key l 0 (fun i hi=>by simpa using h.at_ i hi)
  exact⟨css,h1,fun j u hu=>by simpa using h2 j u hu⟩
 intro l'
 induction l' with
 |nil=>intro k _;exact⟨[],trivial,fun j u hu=>by simp at hu⟩
 |cons x l' ih=>
  intro k hk
  obtain⟨cs,hc,hr⟩:=hk 0 (by simp)
  obtain⟨css,h1,h2⟩:=ih (k+1) (fun i hi=>by
   have:=hk (i+1) (by simpa using hi)
   rw[show k+(i+1)=k+1+i by omega]at this
   simpa using this)
  have hl:=Rep.len hr
  refine⟨cs::css,⟨by simpa using hr,h1⟩,fun j u hu=>?_⟩
  rw[List.flatten_cons]at hu
  by_cases hj:j<cs.length
  ·rw[List.getElem?_append_left hj]at hu
   have:=hc j hj
   rw[List.getElem?_eq_getElem hj]at hu
   rw[Option.some.inj hu]at this
   rw[show so v+(k+0)*Rep.k α+j=so v+(k*Rep.k α+j) by rw[Nat.add_zero];omega]at this
   exact this
  ·rw[List.getElem?_append_right (by omega)]at hu
   have:=h2 _ u hu
   rw[hl,Nat.add_mul,Nat.one_mul]at this
   rw[show so v+(k*Rep.k α+Rep.k α+(j-Rep.k α))=so v+(k*Rep.k α+j) by omega]at this
   exact this
structure OwnS (T:TypeId) (lo:Nat) (w:World) (F:Nat→Prop) (v:Value) (l:List α):Prop where
 css: ∃css,Els w F css l∧w.ownsRow lo T (Rep.k α) v l.length css.flatten
 apart: ∀b,v.ownBlock=some b→ ¬F b
 bound: ∀b,F b→b<w.heap.size∧(lo≤b→Soft w b)
 small:l.length*Rep.bytes α≤140737488355328
theorem OwnS.nil (T:TypeId)(lo:Nat)(w:World)(F:Nat→Prop)(hF: ∀b,F b→b<w.heap.size∧(lo≤b→Soft w b)):OwnS (α:=α) T lo w F (.slice none 0 0) []:=
 ⟨⟨[],trivial,World.ownsRow_nil w lo T _⟩,fun b h=>by simp[Value.ownBlock]at h,hF,by simp⟩
theorem OwnS.isSl {T:TypeId}{lo:Nat}{w:World}{F:Nat→Prop}{v:Value}{l:List α}(h:OwnS T lo w F v l):IsSl v l.length:=by
 obtain⟨css,h1,h2⟩:=h.css
 rcases h2.2 with⟨rfl,h0⟩|⟨g,cap,cur,rfl,_,_,hn,_⟩
 ·exact⟨none,0,by rw[h0],by omega,fun h=>by omega⟩
 ·exact⟨_,cap,rfl,hn,fun _=>⟨g,0,rfl⟩⟩
theorem OwnS.lt {T:TypeId}{lo:Nat}{w:World}{F:Nat→Prop}{v:Value}{l:List α}(h:OwnS T lo w F v l): ∀b,v.ownBlock=some b→lo≤b∧b<w.heap.size:=by
 obtain⟨css,h1,h2⟩:=h.css
 exact h2.lt
theorem OwnS.toRd {T:TypeId}{lo:Nat}{w:World}{F F':Nat→Prop}{v:Value}{l:List α}(h:OwnS T lo w F v l)(hF: ∀b,F b→F' b)(hv: ∀b,v.ownBlock=some b→F' b):RdS w F' v l:=by
 obtain⟨css,h1,h2⟩:=h.css
 refine⟨h.isSl,fun hne=>?_,h.small,fun i hi=>?_⟩
 ·rcases h2.2 with⟨rfl,h0⟩|⟨g,cap,cur,rfl,_⟩
  ·exact(hne (List.length_eq_zero_iff.1 h0)).elim
  ·exact hv g rfl
 ·rcases h2.2 with⟨rfl,h0⟩|⟨g,cap,cur,rfl,hg,hb,hn,hm,hs,ht⟩
  ·omega
  ·obtain⟨cs,hr,hc⟩:=h1.at_ i hi
   refine⟨cs,?_,Rep.mono hr (fun b hb _=>⟨rfl,hF b hb⟩)⟩
   intro j hj
   have h3:=hc j hj
   rw[←ht,List.getElem?_take]at h3
   split at h3
   ·show w.cell? ⟨g,0+i*Rep.k α+j,none⟩=_
    rw[Nat.zero_add]
    exact Zk hb (by simpa using h3)
   ·cases h3
theorem OwnS.mono {T:TypeId}{lo lo':Nat}{w w':World}{F F':Nat→Prop}{v:Value}{l:List α}(h:OwnS T lo w F v l)(hlo:lo'≤lo)(hsz:w.heap.size≤w'.heap.size)(hF: ∀b,F b→b<w.heap.size→w'.heap[b]? =w.heap[b]? ∧F' b)
 (hrow: ∀b,v.ownBlock=some b→b<w.heap.size→w'.heap[b]? =w.heap[b]? ∧ ¬F' b) (hB: ∀b,F' b→b<w'.heap.size∧(lo'≤b→Soft w' b)):OwnS T lo' w' F' v l:=by
 obtain⟨css,h1,h2⟩:=h.css
 refine⟨⟨css,h1.mono hF,h2.1,?_⟩,fun b hb=>(hrow b hb (h2.lt b hb).2).2,hB,h.small⟩
 rcases h2.2 with hn|⟨g,cap,cur,rfl,hg,hgg,r⟩
 ·exact .inl hn
 ·exact .inr ⟨g,cap,cur,rfl,Nat.le_trans hlo hg,by rw[(hrow g rfl (h2.lt g rfl).2).1];exact hgg,r⟩
theorem OwnS.ext {T:TypeId}{lo:Nat}{w w':World}{F:Nat→Prop}{v:Value}{l:List α}(h:OwnS T lo w F v l)(hx:Ext w w'):OwnS T lo w' F v l:=
 h.mono (Nat.le_refl _) hx.size (fun b hb hlt=>⟨hx.block b hlt (fun h=>h),hb⟩) (fun b hb hlt=>⟨hx.block b hlt (fun h=>h),h.apart b hb⟩) (fun b hb=>⟨Nat.lt_of_lt_of_le (h.bound b hb).1 hx.size,fun hl=>hx.soft b ((h.bound b hb).2 hl)⟩)
theorem OwnS.weak {T:TypeId}{lo:Nat}{w:World}{F F':Nat→Prop}{v:Value}{l:List α}(h:OwnS T lo w F v l)(hF: ∀b,F b→F' b)(ha: ∀b,v.ownBlock=some b→ ¬F' b)(hB: ∀b,F' b→b<w.heap.size∧(lo≤b→Soft w b)):OwnS T lo w F' v l:=
 h.mono (Nat.le_refl _) (Nat.le_refl _) (fun b hb _=>⟨rfl,hF b hb⟩) (fun b hb _=>⟨rfl,ha b hb⟩) hB
section
variable {P:Program}
theorem Yy {w:World}{B B':Nat}{e:TypeId}{size:Nat}{v:Value}{n:Nat}{xs:List Value}(h:w.ownsRow B e size v n xs)(hB:B'≤B):w.ownsRow B' e size v n xs:=by
 refine⟨h.1,?_⟩
 rcases h.2 with hn|⟨g,cap,cur,rfl,hg,r⟩
 ·exact .inl hn
 ·exact .inr ⟨g,cap,cur,rfl,Nat.le_trans hB hg,r⟩
theorem YR (w:World)(base:Nat)(t ty e:TypeId)(i:TypeInfo)(z:Value)(size bytes:Nat)(ht:P.underlying t=some (.slice e))(hi:P.info? e=some i)(hz:i.zero=some z)
 (hsize:i.size=size) (hby:i.bytes=bytes) (hzs:z.cells.size=size) (_hsz:0<size)
 (v:Value) (n:Nat) (xs:List Value) (hown:w.ownsRow base e size v n xs)
 (a:Addr) (m c:Nat) (news:List Value) (hl:news.length=m*size) (hnews: ∀j u,news[j]? =some u→w.cell? (a.add j)=some u) (h1: ∀u∈news,u.oneCell'=true)
 (h63:n+m≤maxLen) (hbytes:(n+m)*bytes≤140737488355328) (hbase:base≤w.heap.size):
 ∃v' w',(Builtin.append_ #[t,t] ty #[v,.slice (some a) m c]).run P w=.ok v' w'∧w'.ownsRow base e size v' (n+m) (xs++news)∧w.grownBy w' v.ownBlock∧
  (v'.ownBlock=v.ownBlock∨ ∀g,v'.ownBlock=some g→w.heap.size≤g)∧SoftStep w w'∧w.drawn≤w'.drawn:=by
 rcases hown.2 with⟨rfl,rfl⟩|⟨g,cap,cur,rfl,hbg,hg,hnc,hcm,hcs,htake⟩
 ·have hx:xs=[]:=List.eq_nil_of_length_eq_zero (by simpa using hown.1)
  subst hx
  obtain⟨v',w',h1',h2,h3,_⟩:=run_append_own (P:=P) w w.heap.size t ty e i z size bytes ht hi hz hsize hby hzs _hsz (.slice none 0 0) 0 [] (World.ownsRow_nil w _ e size) a m c news hl hnews h1 h63 hbytes (Nat.le_refl _)
  refine⟨v',w',h1',Yy h2 hbase,h3,.inr fun g hg=>(h2.lt g hg).1,?_⟩
  subst hsize
  subst hby
  by_cases hm:m=0
  ·subst hm
   have e:(Builtin.append_ #[t,t] ty #[.slice none 0 0,.slice (some a) 0 c]).run P w=.ok (.slice none 0 0) w:=by
    simp[Builtin.append_,run_underlying ht,sizeOf,typeInfo,hi,Builtin.lenOf,Builtin.firstCells,loadCells,loadCellsFrom,storeCells,go_sem]
   rw[e]at h1'
   cases h1'
   exact⟨SoftStep.refl _,Nat.le_refl _⟩
  ·have hr:=run_append_nil (P:=P) w t ty e i z ht hi hz a m c news hl hnews (by omega) (by simp only[maxLen]at h63;omega) (by have hb:=hbytes;simp only[Nat.zero_add]at hb;omega)
   rw[hr]at h1'
   cases h1'
   exact⟨SoftStep.push (w:=w) rfl,Nat.le_succ _⟩
 ·obtain⟨v',w',h1',h2,h3,_⟩:=run_append_own (P:=P) w base t ty e i z size bytes ht hi hz hsize hby hzs _hsz _ n xs hown a m c news hl hnews h1 h63 hbytes hbase
  suffices key:(v'.ownBlock=(Value.slice (some ⟨g,0,none⟩) n cap).ownBlock∨ ∀g,v'.ownBlock=some g→w.heap.size≤g)∧SoftStep w w'∧w.drawn≤w'.drawn from⟨v',w',h1',h2,h3,key.1,key.2⟩
  subst hsize
  subst hby
  by_cases hroom:n+m≤cap
  ·have hfit:n*i.size+news.length≤cur.size:=by rw[hl,hcs,←Nat.add_mul];exact Nat.mul_le_mul_right _ hroom
   have hr:=run_append_room (P:=P) w t ty e i ht hi g n cap cur hg a m c news hl hnews h1 hroom hfit
   rw[hr]at h1'
   cases h1'
   exact⟨.inl rfl,SoftStep.setRow,Nat.le_refl _⟩
  ·have holds: ∀j u,xs[j]? =some u→w.cell? ((⟨g,0,none⟩:Addr).add j)=some u:=hown.cells (g:=g) rfl
   have h63':n+m≤9223372036854775807:=by simp only[maxLen]at h63;omega
   have hr:=run_append_grow (P:=P) w t ty e i z ht hi hz ⟨g,0,none⟩ n cap xs hown.1 holds a m c news hl hnews (by omega) (by omega) (growslice_fits (by omega) hbytes)
   rw[hr]at h1'
   cases h1'
   exact⟨.inr fun g' hg'=>by simp[Value.ownBlock]at hg';omega,SoftStep.push (w:=w) rfl,Nat.le_succ _⟩
theorem WD (w:World)(t ty e:TypeId)(i:TypeInfo)(ht:P.underlying t=some (.slice e))(hi:P.info? e=some i)(b:Option Addr)(n cap cap2:Nat)(hn:n≤cap):
 (Builtin.append_ #[t,t] ty #[.slice b n cap,.slice none 0 cap2]).run P w=.ok (.slice b n cap) w:=by
 cases b<;>simp[Builtin.append_,run_underlying ht,sizeOf,typeInfo,hi,Builtin.lenOf,Builtin.firstCells,hn,storeCells,go_sem]
structure Elem (P:Program) (t T:TypeId) (k bytes:Nat):Prop where
 und:P.underlying t=some (.slice T)
 info: ∃i z,P.info? T=some i∧i.zero=some z∧i.size=k∧i.bytes=bytes∧z.cells.size=k
variable {d:Option Tmp}{ty:TypeId}{pos:String}{af:Array Edge}{gd:Option (Nat×Bool)}{σ:Env}{w:World}{K:Value→World→Prop}
theorem Zx {t:TypeId}{s x:Operand}{v v2 v':Value}{w':World}(hs:ev σ s=v)(hx:ev σ x=v2)(hr:(Builtin.append_ #[t,t] ty #[v,v2]).run P w=.ok v' w'):
 (execOp (ev σ) ⟨d,.call ⟨.builtin .append,#[s,x],#[t,t]⟩,ty,pos,af,gd⟩).run P w=.ok (.value v') w':=by
 unfold execOp
 simp only[resolve,invoke,builtin,Sem.run_bind,Sem.run_pure,Result.andThen_ok,List.map_toArray,List.map_cons,List.map_nil,hs,hx,hr]
theorem Qi {t T:TypeId}{bytes lo b:Nat}{s x:Operand}{v:Value}{l:List α}{x1:α}{c:Array Value}{F F' G:Nat→Prop}(E:Elem P t T (Rep.k α) bytes)(hs:ev σ s=v)(ho:OwnS T lo w F v l)(hx:ev σ x=.slice (some ⟨b,0,none⟩) 1 1)
 (hbk:w.heap[b]? =some (.cells c T)) (h2:Rep.rd w G c.toList x1)
 (hF: ∀b,F b→F' b) (hG: ∀b,b<w.heap.size→G b→F' b) (hrow: ∀b,v.ownBlock=some b→ ¬F' b) (hB: ∀b,F' b→b<w.heap.size∧(lo≤b→Soft w b)) (hlo:lo≤w.heap.size) (hb:(l.length+1)*bytes≤140737488355328) (hby0:bytes=Rep.bytes α)
 (h: ∀v' w',OwnS T lo w' F' v' (l++[x1])→Chg (fun b=>v.ownBlock=some b) w w'→(v'.ownBlock=v.ownBlock∨ ∀g,v'.ownBlock=some g→w.heap.size≤g)→K v' w'):opV P ⟨d,.call ⟨.builtin .append,#[s,x],#[t,t]⟩,ty,pos,af,gd⟩ σ w K:=by
 obtain⟨i,z,hi,hz,hsize,hby,hzs⟩:=E.info
 have hsmall:=XF (α:=α) (by rw[←hby0];exact hb)
 have ho':=ho.weak hF hrow hB
 obtain⟨css,hE,hown⟩:=ho'.css
 have h2':Rep.rd w F' c.toList x1:=Rep.mono h2 (fun b hb hlt=>⟨rfl,hG b hlt hb⟩)
 have hE2:Els w F' [c.toList] [x1]:=⟨h2',trivial⟩
 have ha: ∀j u,[c.toList].flatten[j]? =some u→w.cell? ((⟨b,0,none⟩:Addr).add j)=some u:=by
  intro j u hu
  rw[Addr.add_lit,Nat.zero_add]
  exact Zk hbk (by simpa using hu)
 have hl:=hE2.flat
 obtain⟨v',w',hr,hown',hg,hrow',hsoft,hdrawn⟩:=YR (P:=P) w lo t ty T i z (Rep.k α) bytes E.und hi hz hsize hby hzs Rep.kpos v l.length css.flatten hown ⟨b,0,none⟩ 1 1 [c.toList].flatten hl ha hE2.one (by unfold maxLen;omega) hb hlo
 refine yp (Zx hs hx hr) (h v' w' ?_ ?_ hrow')
 ·have hmono: ∀b,F' b→b<w.heap.size→w'.heap[b]? =w.heap[b]? ∧F' b:=fun b hb hlt=>⟨hg.block b hlt (fun e=>hrow b e.symm hb),hb⟩
  refine⟨⟨css++[c.toList],(hE.mono hmono).append (hE2.mono hmono),?_⟩,fun b hb=>?_,fun b hb=>⟨Nat.lt_of_lt_of_le (hB b hb).1 hg.size,fun hl=>hsoft b ((hB b hb).2 hl)⟩,by subst hby0;simpa using hb⟩
  ·rw[List.flatten_append,List.length_append];exact hown'
  ·rcases hrow' with h'|h'
   ·rw[h']at hb;exact hrow b hb
   ·intro hf;have:=h' b hb;have:=(hB b hf).1;omega
 ·exact⟨hg.os,hg.tape,hg.output,hg.size,fun b hlt hne=>hg.block b hlt (fun e=>hne e.symm),hsoft,hdrawn⟩
theorem KD {t T:TypeId}{bytes lo b:Nat}{s x:Operand}{v:Value}{l:List α}{x1:α}{c:Array Value}{F F' G:Nat→Prop}(E:Elem P t T (Rep.k α) bytes)(hs:ev σ s=v)(ho:OwnS T lo w F v l)(hx:ev σ x=.slice (some ⟨b,0,none⟩) 1 1)
 (hbk:w.heap[b]? =some (.cells c T)) (h2:Rep.rd w G c.toList x1)
 (hF: ∀b,F b→F' b) (hG: ∀b,b<w.heap.size→G b→F' b) (hrow: ∀b,v.ownBlock=some b→ ¬F' b) (hB: ∀b,F' b→b<w.heap.size∧(lo≤b→Soft w b)) (hlo:lo≤w.heap.size) (hb:(l.length+1)*bytes≤140737488355328) (hby0:bytes=Rep.bytes α)
 (h: ∀v' w',OwnS T lo w' F' v' (l++[x1])→Chg (fun b=>v.ownBlock=some b) w w'→K v' w'):opV P ⟨d,.call ⟨.builtin .append,#[s,x],#[t,t]⟩,ty,pos,af,gd⟩ σ w K:=
 Qi E hs ho hx hbk h2 hF hG hrow hB hlo hb hby0 (fun v' w' a b _=>h v' w' a b)
theorem Els.set {F:Nat→Prop}: ∀{css:List (List Value)} {l:List α},Els w F css l→ ∀(i:Nat) {cs:List Value} {x:α},Rep.rd w F cs x→Els w F (css.set i cs) (l.set i x)
 |[],[],_,_,_,_,_=>trivial
 |_::_,_::_,h,0,_,_,hx=>⟨hx,h.2⟩
 |_::_,_::_,h,_+1,_,_,hx=>⟨h.1,Els.set h.2 _ hx⟩
 |[],_::_,h,_,_,_,_=>h.elim
 |_::_,[],h,_,_,_,_=>h.elim
end
end
end
section
open Go.RowKit
theorem zJ {α:Type}{l:List α}{i:Nat}(d:α)(h:i<l.length):l.getD i d=l[i]:=by
 rw[List.getD_eq_getElem?_getD,List.getElem?_eq_getElem h];rfl
structure Ev where
 origin:Int
 seq:Int
 lam:Int
 deps:List Int
 typ:Int
 agg:Int
 field:Int
 op:Int
 arg:Int
 key:Int
 deriving DecidableEq,Inhabited
structure Ev.Ok (e:Ev):Prop where
 origin:InR e.origin
 seq:InR e.seq
 lam:InR e.lam
 typ:InR e.typ
 agg:InR e.agg
 field:InR e.field
 op:InR e.op
 arg:InR e.arg
 key:InR e.key
def Ev.cells (e:Ev)(d:Value):List Value:=
 [.int .i64 e.origin,.int .i64 e.seq,.int .i64 e.lam,d,.int .i64 e.typ,.int .i64 e.agg,.int .i64 e.field,.int .i64 e.op,.int .i64 e.arg,.int .i64 e.key]
instance:Rep Ev where
 k:=10
 bytes:=96
 bpos:=by decide
 rd w F cs e:= ∃d,cs=e.cells d∧RdS w F d e.deps∧e.Ok
 kpos:=by decide
 len h:=by obtain⟨d,rfl,_⟩:=h;rfl
 one h:=by obtain⟨d,rfl,h,_⟩:=h;exact yo ⟨rfl,rfl,rfl,h.sl.one,rfl,rfl,rfl,rfl,rfl,rfl,trivial⟩
 mono h hF:=by obtain⟨d,rfl,h,ho⟩:=h;exact⟨d,rfl,h.mono hF,ho⟩
def zT (w:World)(b o:Nat):Value:=(w.cell? ⟨b,o,none⟩).getD undef
theorem RdS.ev {w:World}{F:Nat→Prop}{v:Value}{l:List Ev}(h:RdS w F v l){i:Nat}(hi:i<l.length):
 CellsAt w (sb v) (so v+i*10) (l[i].cells (zT w (sb v) (so v+i*10+3)))∧RdS w F (zT w (sb v) (so v+i*10+3)) l[i].deps∧l[i].Ok:=by
 obtain⟨cs,hc,d,rfl,hd,ho⟩:=h.at_ i hi
 have:w.cell? ⟨sb v,so v+i*10+3,none⟩=some d:=hc.get (j:=3) rfl
 have e:zT w (sb v) (so v+i*10+3)=d:=by simp only[zT,this];rfl
 rw[e]
 exact⟨hc,hd,ho⟩
theorem RdS.int {w:World}{F:Nat→Prop}{v:Value}{l:List Int}(h:RdS w F v l){i:Nat}(hi:i<l.length):CellsAt w (sb v) (so v+i*1) [.int .i64 l[i]]∧InR l[i]:=by
 obtain⟨cs,hc,rfl,hr⟩:=h.at_ i hi
 exact⟨hc,hr⟩
theorem RdS.bool {w:World}{F:Nat→Prop}{v:Value}{l:List Bool}(h:RdS w F v l){i:Nat}(hi:i<l.length):CellsAt w (sb v) (so v+i*1) [.bool l[i]]:=by
 obtain⟨cs,hc,hr⟩:=h.at_ i hi
 cases hr
 exact hc
theorem OwnS.elem {α:Type}[Rep α]{T:TypeId}{lo:Nat}{w:World}{F:Nat→Prop}{v:Value}{l:List α}(h:OwnS T lo w F v l){i:Nat}(hi:i<l.length): ∃cs,CellsAt w (sb v) (so v+i*Rep.k α) cs∧Rep.rd w F cs l[i]:=by
 obtain⟨css,h1,h2⟩:=h.css
 rcases h2.2 with⟨rfl,h0⟩|⟨g,cap,cur,rfl,hg,hb,hn,hm,hs,ht⟩
 ·omega
 ·obtain⟨cs,hr,hc⟩:=h1.at_ i hi
  refine⟨cs,?_,hr⟩
  intro j hj
  have h3:=hc j hj
  rw[←ht,List.getElem?_take]at h3
  split at h3
  ·show w.cell? ⟨g,0+i*Rep.k α+j,none⟩=_
   rw[Nat.zero_add]
   exact Zk hb (by simpa using h3)
  ·cases h3
theorem RdS.own {α:Type}[Rep α]{T:TypeId}{lo:Nat}{w w':World}{F:Nat→Prop}{v d:Value}{l:List α}{β:Type}[Rep β]{m:List β}(h:RdS w F d m)(ho:OwnS T lo w F v l)(hx:Chg (fun b=>v.ownBlock=some b) w w'):RdS w' F d m:=
 h.chg hx (fun b _ hF hO=>ho.apart b hO hF)
def Fresh {α:Type}[Rep α](T:TypeId)(lo:Nat)(w:World)(v:Value)(l:List α):Prop:= ∃F,OwnS T lo w F v l∧ ∀b,F b→lo≤b
theorem Fresh.rd {α:Type}[Rep α]{T:TypeId}{lo:Nat}{w:World}{v:Value}{l:List α}(h:Fresh T lo w v l):RdS w (fun b=>lo≤b) v l:=by
 obtain⟨F,h1,h2⟩:=h;exact h1.toRd h2 (fun b hb=>(h1.lt b hb).1)
theorem Fresh.low {α:Type}[Rep α]{T:TypeId}{lo lo':Nat}{w:World}{v:Value}{l:List α}(h:Fresh T lo w v l)(hl:lo'≤lo):Fresh T lo' w v l:=by
 obtain⟨F,h1,h2⟩:=h
 exact⟨F,h1.mono hl (Nat.le_refl _) (fun b hb _=>⟨rfl,hb⟩) (fun b hb _=>⟨rfl,h1.apart b hb⟩) (fun b hb=>⟨(h1.bound b hb).1,fun _=>(h1.bound b hb).2 (h2 b hb)⟩),fun b hb=>Nat.le_trans hl (h2 b hb)⟩
def ZA:Value→Bool
 | .slice none _ _=>true
 |_=>false
theorem YX {v:Value}{n:Nat}(h:IsSl v n)(hn:ZA v=true):n=0:=by
 obtain⟨a,cap,rfl,_,h2⟩:=h
 cases a with
 |none=>rcases Nat.eq_zero_or_pos n with h|h
        ·exact h
        ·obtain⟨_,_,h3⟩:=h2 h;cases h3
 |some a=>cases hn
theorem ZG {P:Program}{d:Option Tmp}{ty:TypeId}{pos:String}{af:Array Edge}{g:Option (Nat×Bool)}{σ:Env}{w:World}{K:Value→World→Prop}{x:Operand}{t t2 e:TypeId}{v:Value}{n:Nat}(hU:P.underlying t=some (.slice e))(hx:ev σ x=v)(hv:IsSl v n)(h:K (.bool (ZA v)) w):
 opV P ⟨d,.binOp .eql t x (.const (.slice none 0 0)) t2,ty,pos,af,g⟩ σ w K:=by
 obtain⟨a,cap,rfl,_,_⟩:=hv
 have he:=Lib.run_eql_slice_nil (P:=P) w t e a n cap 0 0 hU
 have hc:ev σ (.const (.slice none 0 0))=.slice none 0 0:=rfl
 have:ZA (.slice a n cap)=a.isNone:=by cases a<;>rfl
 rw[this]at h
 exact yp (v:=.bool a.isNone) (w':=w) (by simp[execOp,hx,hc,eqGuard,he,go_sem]) h
theorem Fresh.lt {α:Type}[Rep α]{T:TypeId}{lo:Nat}{w:World}{v:Value}{l:List α}(h:Fresh T lo w v l): ∀b,v.ownBlock=some b→lo≤b∧b<w.heap.size:=by
 obtain⟨F,h1,h2⟩:=h;exact h1.lt
theorem Ev.eq_iff {a b:Ev}:a=b↔a.origin=b.origin∧a.seq=b.seq∧a.lam=b.lam∧a.deps=b.deps∧a.typ=b.typ∧a.agg=b.agg∧a.field=b.field∧a.op=b.op∧a.arg=b.arg∧a.key=b.key:=by
 cases a;cases b;simp
theorem RdS.evD {w:World}{F:Nat→Prop}{v:Value}{l:List Ev}(h:RdS w F v l){i:Nat}(hi:i<l.length):
 CellsAt w (sb v) (so v+i*10) ((l.getD i default).cells (zT w (sb v) (so v+i*10+3)))∧RdS w F (zT w (sb v) (so v+i*10+3)) (l.getD i default).deps∧(l.getD i default).Ok:=by
 have h9:=h.ev hi
 rw[←zJ default hi]at h9
 exact h9
theorem RdS.intD {w:World}{F:Nat→Prop}{v:Value}{l:List Int}(h:RdS w F v l){i:Nat}(hi:i<l.length):CellsAt w (sb v) (so v+i*1) [.int .i64 (l.getD i 0)]∧InR (l.getD i 0):=by
 have h9:=h.int hi
 rw[←zJ 0 hi]at h9
 exact h9
end
section
open Go.ChangeShapes Go.WideShapes Go.ChangeAt Go.RowKit
abbrev zcz {H:Type}(P:Program)(T:TypeId)(d:DataW H):Prop:= ∀n∈d.weights P T,n≤reachBytes
abbrev WU (w:World):Nat→Prop:=fun b=>b<w.heap.size
theorem VC {b o i:Nat}:Addr.add ⟨b,o,none⟩ i=⟨b,o+i,none⟩:=by
 unfold Addr.add
 split
 ·rename_i h;subst h;rfl
 ·rfl
theorem QC {α:Type}[Inhabited α]{n:Nat}{p:Nat→α→Prop}(h: ∀i,i<n→ ∃a,p i a): ∃l:List α,l.length=n∧ ∀i (hi:i<l.length),p i l[i]:=by
 induction n with
 |zero=>exact⟨[],rfl,fun i hi=>absurd hi (Nat.not_lt_zero i)⟩
 |succ n ih=>
  obtain⟨l,hl,hp⟩:=ih fun i hi=>h i (by omega)
  obtain⟨a,ha⟩:=h n (by omega)
  refine⟨l++[a],by simp[hl],fun i hi=>?_⟩
  rw[List.getElem_append]
  split
  ·exact hp i _
  ·have:i=n:=by simp at hi;omega
   subst this
   simpa[hl]using ha
instance:Rep (Int×Int) where
 k:=2
 rd _ _ cs x:=cs=[.int .i64 x.1,.int .i64 x.2]∧InR x.1∧InR x.2
 bytes:=16
 bpos:=by decide
 kpos:=by decide
 len h:=by rw[h.1];rfl
 one h:=by rw[h.1];exact yo ⟨rfl,rfl,trivial⟩
 mono h _:=h
theorem Xg {H:Type}{enc:TypeId×Value→H}{P:Program}(hl:laidOutB P=true){W W':World}(hb:Below W.heap.size W W'):
 ∀{ts:List TypeId} {vs:List Value} {ds:List (DataW H)} {ps:List MemPlace},(∀t∈ts,P.readableRec t=true∧t<P.types.size)→
  DataW.TrodAll enc P W 0 (fun _=>true) true ts vs ds ps→(∀x∈ps,x.block<W.heap.size)→DataW.TrodAll enc P W' 0 (fun b=>decide (b<W.heap.size)) true ts vs ds ps
 |[],_,_,_,_,h,_=>by
  obtain⟨rfl,rfl,rfl⟩:=trodAll_nil h
  exact trodAll_mk0
 |t::ts,_,_,_,hr,h,hlt=>by
  obtain⟨v,vs1,d,ds1,a,b,rfl,rfl,rfl,h1,h2⟩:=trodAll_cons h
  have ht:=hr t (List.mem_cons_self ..)
  exact⟨a,b,Below.trod hl ht.1 ht.2 h1 hb (fun x hx=>hlt x (List.mem_append_left _ hx)),
   Xg hl hb (fun t' ht'=>hr t' (List.mem_cons_of_mem _ ht')) h2 (fun x hx=>hlt x (List.mem_append_right _ hx)),rfl⟩
end
section
open Go.RowKit
def xU (k:Nat)(v:Value)(i j:Nat):Value:=match v with
 | .slice a _ c=>.slice (if c=i then a else a.map (·.add (i*k))) (j-i) (c-i)
 |v=>v
theorem RdS.sub {α:Type}[Rep α]{w:World}{F:Nat→Prop}{v:Value}{l:List α}(h:RdS w F v l){i j:Nat}(hi:i≤j)(hj:j≤l.length):RdS w F (xU (Rep.k α) v i j) ((l.take j).drop i):=by
 have hlen:((l.take j).drop i).length=j-i:=by simp;omega
 obtain⟨a,c,rfl,hc,ha⟩:=h.sl
 by_cases h0:i<j
 ·obtain⟨b,o,rfl⟩:=ha (by omega)
  have hci: ¬c=i:=by omega
  have e:xU (Rep.k α) (.slice (some ⟨b,o,none⟩) l.length c) i j=.slice (some ⟨b,o+i*Rep.k α,none⟩) (j-i) (c-i):=by
   simp only[xU,if_neg hci,Option.map_some,VC]
  rw[e]
  refine⟨⟨_,_,by rw[hlen],by omega,fun _=>⟨_,_,rfl⟩⟩,fun _=>h.foot (by intro e;subst e;simp at hj;omega),Nat.le_trans (Nat.mul_le_mul_right _ (by omega)) h.small,fun x hx=>?_⟩
  obtain⟨cs,h1,h2⟩:=h.at_ (i+x) (by omega)
  refine⟨cs,?_,?_⟩
  ·have e2:o+(i+x)*Rep.k α=o+i*Rep.k α+x*Rep.k α:=by rw[Nat.add_mul,Nat.add_assoc]
   simp only[sb,so]at h1⊢
   rw[e2]at h1
   exact h1
  ·rw[List.getElem_drop,List.getElem_take];exact h2
 ·have e:(l.take j).drop i=[]:=List.length_eq_zero_iff.1 (by omega)
  rw[e]
  refine⟨⟨(if c=i then a else a.map (·.add (i*Rep.k α))),c-i,?_,Nat.zero_le (c-i),fun h=>absurd h (Nat.lt_irrefl 0)⟩,fun h=>(h rfl).elim,by simp,fun x hx=>absurd hx (Nat.not_lt_zero x)⟩
  simp only[xU,List.length_nil]
  rw[show j-i=0 by omega]
theorem RdS.sub_lo {α:Type}[Rep α]{w:World}{F:Nat→Prop}{v:Value}{l:List α}(h:RdS w F v l){i:Nat}(hi:i≤l.length):RdS w F (xU (Rep.k α) v i l.length) (l.drop i):=by
 have:=h.sub hi (Nat.le_refl _)
 rwa [List.take_of_length_le (Nat.le_refl _)]at this
theorem RdS.sub_hi {α:Type}[Rep α]{w:World}{F:Nat→Prop}{v:Value}{l:List α}(h:RdS w F v l){j:Nat}(hj:j≤l.length):RdS w F (xU (Rep.k α) v 0 j) (l.take j):=by
 have:=h.sub (Nat.zero_le j) hj
 rwa [List.drop_zero]at this
theorem OwnS.bool {T:TypeId}{lo:Nat}{w:World}{F:Nat→Prop}{v:Value}{l:List Bool}(h:OwnS T lo w F v l){i:Nat}(hi:i<l.length):CellsAt w (sb v) (so v+i*1) [.bool l[i]]:=by
 obtain⟨cs,hc,hr⟩:=h.elem hi
 cases hr
 exact hc
theorem OwnS.int {T:TypeId}{lo:Nat}{w:World}{F:Nat→Prop}{v:Value}{l:List Int}(h:OwnS T lo w F v l){i:Nat}(hi:i<l.length):CellsAt w (sb v) (so v+i*1) [.int .i64 l[i]]∧InR l[i]:=by
 obtain⟨cs,hc,rfl,hr⟩:=h.elem hi
 exact⟨hc,hr⟩
theorem Vz (c:List Value)(hc:0<c.length): ∀n j,j<n*c.length→(List.replicate n c).flatten[j]? =c[j%c.length]?
 |0,j,h=>by omega
 |n+1,j,h=>by
  rw[List.replicate_succ,List.flatten_cons,List.getElem?_append]
  split
  ·rename_i hj;rw[Nat.mod_eq_of_lt hj]
  ·rename_i hj
   rw[Vz c hc n (j-c.length) (by rw[Nat.add_mul]at h;omega),Nat.mod_eq_sub_mod (a:=j) (by omega)]
section
variable {P:Program}{d:Option Tmp}{ty:TypeId}{pos:String}{af:Array Edge}{g:Option (Nat×Bool)}{σ:Env}{w:World}{K:Value→World→Prop}
theorem Ym {t e:TypeId}{k:Nat}{x y:Operand}{v:Value}{n i:Nat}{ki:IntKind}(hU:P.underlying t=some (.slice e))(hS: ∀w,(sizeOf e).run P w=.ok k w)(hx:ev σ x=v)(hv:IsSl v n)(hy:ev σ y=.int ki (i:Int))
 (hi:i≤n) (h:K (xU k v i n) w):opV P ⟨d,.slice t x (some y) none none,ty,pos,af,g⟩ σ w K:=by
 obtain⟨a,c,rfl,hc,_⟩:=hv
 refine yp (v:=xU k (.slice a n c) i n) (w':=w) ?_ h
 have hb: ¬n<i:=by omega
 have hb':i≤n:=by omega
 simp[execOp,hx,hy,Instr.sliceAt,Instr.slice,Instr.sliceBounds,run_underlying hU,hb,hb',hS,xU,go_sem]
theorem Zf {t e:TypeId}{k:Nat}{x y:Operand}{v:Value}{n j:Nat}{ki:IntKind}(hU:P.underlying t=some (.slice e))(hS: ∀w,(sizeOf e).run P w=.ok k w)(hx:ev σ x=v)(hv:IsSl v n)(hy:ev σ y=.int ki (j:Int))
 (hj:j≤n) (h:K (xU k v 0 j) w):opV P ⟨d,.slice t x none (some y) none,ty,pos,af,g⟩ σ w K:=by
 obtain⟨a,c,rfl,hc,_⟩:=hv
 refine yp (v:=xU k (.slice a n c) 0 j) (w':=w) ?_ h
 have hb: ¬c<j:=by omega
 have hb':j≤c:=by omega
 simp[execOp,hx,hy,Instr.sliceAt,Instr.slice,Instr.sliceBounds,run_underlying hU,hb,hb',hS,xU,go_sem]
theorem Yv {α:Type}[Rep α]{t T:TypeId}{bytes n:Nat}{x y:Operand}{x1:α}{ki kj:IntKind}(hU:P.underlying t=some (.slice T))
 (hz: ∃i z,P.info? T=some i∧i.zero=some z∧i.size=Rep.k α∧i.bytes=bytes∧z.cells.size=Rep.k α∧ ∀w F,Rep.rd w F z.cells.toList x1)
 (hx:ev σ x=.int ki (n:Int)) (hy:ev σ y=.int kj (n:Int)) (hb0:bytes=Rep.bytes α) (hb:n*Rep.bytes α≤140737488355328)
 (h: ∀w1 b,Ext w w1→w.heap.size=b→b<w1.heap.size→OwnS T w.heap.size w1 (fun _=>False) (.slice (some ⟨b,0,none⟩) n n) (List.replicate n x1)→K (.slice (some ⟨b,0,none⟩) n n) w1):
 opV P ⟨d,.makeSlice t x y,ty,pos,af,g⟩ σ w K:=by
 obtain⟨i,z,hi,hz,hsz,hby,hzc,hrd⟩:=hz
 have hn:=XF (α:=α) hb
 have hb1:i.bytes*n≤281474976710656:=by rw[hby,hb0,Nat.mul_comm];omega
 have hb2:(i.bytes:Int)*(n:Int)≤281474976710656:=by rw[←Int.natCast_mul];omega
 have hr:=run_make (P:=P) w t T i z hU hi hz ki kj (n:Int) (n:Int) (by omega) (Int.le_refl _) hb2 (by omega)
 simp only[Int.toNat_natCast]at hr
 have hw:Ext w (w.alloc (.cells (madeCells z.cells (n*i.size)) T)):=⟨rfl,rfl,rfl,by simp,fun b hb _=>heap_alloc_old w _ hb,SoftStep.push (w:=w) rfl,Nat.le_refl _⟩
 refine yp (v:=.slice (some ⟨w.heap.size,0,none⟩) n n) (w':=w.alloc (.cells (madeCells z.cells (n*i.size)) T)) ?_ (h _ _ hw rfl (by simp) ?_)
 ·simp[execOp,hx,hy,hr,go_sem]
 have hEls: ∀(w:World) n,Els w (fun _=>False) (List.replicate n z.cells.toList) (List.replicate n x1):=by
  intro w n
  induction n with
  |zero=>trivial
  |succ n ih=>exact⟨hrd _ _,ih⟩
 have hlen:(List.replicate n z.cells.toList).flatten.length=n*Rep.k α:=by simpa using(hEls w n).flat
 refine⟨⟨List.replicate n z.cells.toList,hEls _ n,by simpa using hlen,.inr ⟨w.heap.size,n,madeCells z.cells (n*i.size),by simp,Nat.le_refl _,heap_alloc_new w _,by simp,by unfold maxLen;omega,?_,?_⟩⟩,fun _ _ h=>h,fun _ h=>h.elim,by simpa using hb⟩
 ·simp[madeCells,hsz]
 ·rw[List.length_replicate]
  have h1:(madeCells z.cells (n*i.size)).toList.length=n*Rep.k α:=by simp[madeCells,hsz]
  rw[List.take_of_length_le (by omega)]
  refine List.ext_getElem (by rw[h1,hlen]) (fun j h2 h3=>?_)
  have hk:0<Rep.k α:=Rep.kpos
  have hj:j<n*Rep.k α:=by omega
  have hz':z.cells.toList.length=Rep.k α:=by simpa using hzc
  have e1:=Vz z.cells.toList (by omega) n j (by rw[hz'];exact hj)
  have e2:j%z.cells.size<z.cells.size:=Nat.mod_lt _ (by omega)
  rw[List.getElem?_eq_getElem h3,hz',←hzc,Array.getElem?_toList,Array.getElem?_eq_getElem e2]at e1
  rw[Option.some.inj e1]
  simp[madeCells,e2]
theorem zaK {x y:Operand}{a b r:Int}{t t2:TypeId}(hx:ev σ x=.int .i64 a)(hy:ev σ y=.int .i64 b)(h0:0<b)(hr:a.tmod b=r)(h:K (.int .i64 r) w):opV P ⟨d,.binOp .rem t x y t2,ty,pos,af,g⟩ σ w K:=by
 subst hr
 refine yp (v:=.int .i64 (a.tmod b)) (w':=w) ?_ h
 have hne:b≠0:=by omega
 simp[execOp,hx,hy,eqGuard_rem,binOp_rem,Op.intDiv,hne,go_sem]
end
end
section
open Go.RowKit
structure Mv where
 frm:Int
 to:Int
 need:Int
 least:Int
 deriving DecidableEq,Inhabited
structure Mv.Ok (e:Mv):Prop where
 frm:InR e.frm
 to:InR e.to
 need:InR e.need
 least:InR e.least
def Mv.cells (e:Mv):List Value:=[.int .i64 e.frm,.int .i64 e.to,.int .i64 e.need,.int .i64 e.least]
instance:Rep Mv where
 k:=4
 bytes:=32
 bpos:=by decide
 kpos:=by decide
 rd w F cs e:=cs=e.cells∧e.Ok
 len h:=by obtain⟨rfl,ho⟩:=h;rfl
 one h:=by obtain⟨rfl,ho⟩:=h;exact yo ⟨rfl,rfl,rfl,rfl,trivial⟩
 mono h hF:=by obtain⟨rfl,ho⟩:=h;exact⟨rfl,ho⟩
theorem RdS.mv {w:World}{F:Nat→Prop}{v:Value}{l:List Mv}(h:RdS w F v l){i:Nat}(hi:i<l.length):
 CellsAt w (sb v) (so v+i*4) (l[i].cells)∧l[i].Ok:=by
 obtain⟨cs,hc,rfl,ho⟩:=h.at_ i hi
 exact⟨hc,ho⟩
structure Prj where
 ptyp:Int
 pfield:Int
 pgroup:Int
 pby:Int
 pmake:Int
 deriving DecidableEq,Inhabited
structure Prj.Ok (e:Prj):Prop where
 ptyp:InR e.ptyp
 pfield:InR e.pfield
 pgroup:InR e.pgroup
 pby:InR e.pby
 pmake:InR e.pmake
def Prj.cells (e:Prj):List Value:=[.int .i64 e.ptyp,.int .i64 e.pfield,.int .i64 e.pgroup,.int .i64 e.pby,.int .i64 e.pmake]
instance:Rep Prj where
 k:=5
 bytes:=40
 bpos:=by decide
 kpos:=by decide
 rd w F cs e:=cs=e.cells∧e.Ok
 len h:=by obtain⟨rfl,ho⟩:=h;rfl
 one h:=by obtain⟨rfl,ho⟩:=h;exact yo ⟨rfl,rfl,rfl,rfl,rfl,trivial⟩
 mono h hF:=by obtain⟨rfl,ho⟩:=h;exact⟨rfl,ho⟩
theorem RdS.prj {w:World}{F:Nat→Prop}{v:Value}{l:List Prj}(h:RdS w F v l){i:Nat}(hi:i<l.length):
 CellsAt w (sb v) (so v+i*5) (l[i].cells)∧l[i].Ok:=by
 obtain⟨cs,hc,rfl,ho⟩:=h.at_ i hi
 exact⟨hc,ho⟩
structure Fld where
 kind:Int
 policy:Int
 floor:Bool
 moves:List Mv
 deriving DecidableEq,Inhabited
structure Fld.Ok (e:Fld):Prop where
 kind:InR e.kind
 policy:InR e.policy
def Fld.cells (e:Fld)(d1:Value):List Value:=[.int .i64 e.kind,.int .i64 e.policy,.bool e.floor,d1]
instance:Rep Fld where
 k:=4
 bytes:=48
 bpos:=by decide
 kpos:=by decide
 rd w F cs e:= ∃d1,cs=e.cells d1∧RdS w F d1 e.moves∧e.Ok
 len h:=by obtain⟨d1,rfl,h1,ho⟩:=h;rfl
 one h:=by obtain⟨d1,rfl,h1,ho⟩:=h;exact yo ⟨rfl,rfl,rfl,h1.sl.one,trivial⟩
 mono h hF:=by obtain⟨d1,rfl,h1,ho⟩:=h;exact⟨d1,rfl,h1.mono hF,ho⟩
theorem RdS.fld {w:World}{F:Nat→Prop}{v:Value}{l:List Fld}(h:RdS w F v l){i:Nat}(hi:i<l.length):
 CellsAt w (sb v) (so v+i*4) (l[i].cells (zT w (sb v) (so v+i*4+3)))∧RdS w F (zT w (sb v) (so v+i*4+3)) l[i].moves∧l[i].Ok:=by
 obtain⟨cs,hc,d1,rfl,h1,ho⟩:=h.at_ i hi
 have ed1:(zT w (sb v) (so v+i*4+3))=d1:=by
  have:w.cell? ⟨sb v,so v+i*4+3,none⟩=some d1:=hc.get (j:=3) rfl
  simp only[zT,this];rfl
 rw[ed1]
 exact⟨hc,h1,ho⟩
structure Typ where
 fields:List Fld
 deriving DecidableEq,Inhabited
structure Typ.Ok (e:Typ):Prop where
def Typ.cells (e:Typ)(d1:Value):List Value:=[d1]
instance:Rep Typ where
 k:=1
 bytes:=24
 bpos:=by decide
 kpos:=by decide
 rd w F cs e:= ∃d1,cs=e.cells d1∧RdS w F d1 e.fields∧e.Ok
 len h:=by obtain⟨d1,rfl,h1,ho⟩:=h;rfl
 one h:=by obtain⟨d1,rfl,h1,ho⟩:=h;exact yo ⟨h1.sl.one,trivial⟩
 mono h hF:=by obtain⟨d1,rfl,h1,ho⟩:=h;exact⟨d1,rfl,h1.mono hF,ho⟩
theorem RdS.typ {w:World}{F:Nat→Prop}{v:Value}{l:List Typ}(h:RdS w F v l){i:Nat}(hi:i<l.length):
 CellsAt w (sb v) (so v+i*1) (l[i].cells (zT w (sb v) (so v+i*1+0)))∧RdS w F (zT w (sb v) (so v+i*1+0)) l[i].fields∧l[i].Ok:=by
 obtain⟨cs,hc,d1,rfl,h1,ho⟩:=h.at_ i hi
 have ed1:(zT w (sb v) (so v+i*1+0))=d1:=by
  have:w.cell? ⟨sb v,so v+i*1+0,none⟩=some d1:=hc.get (j:=0) rfl
  simp only[zT,this];rfl
 rw[ed1]
 exact⟨hc,h1,ho⟩
structure Dcl where
 types:List Typ
 projs:List Prj
 deriving DecidableEq,Inhabited
structure Dcl.Ok (e:Dcl):Prop where
def Dcl.cells (e:Dcl)(d1:Value)(d2:Value):List Value:=[d1,d2]
instance:Rep Dcl where
 k:=2
 bytes:=48
 bpos:=by decide
 kpos:=by decide
 rd w F cs e:= ∃d1 d2,cs=e.cells d1 d2∧RdS w F d1 e.types∧RdS w F d2 e.projs∧e.Ok
 len h:=by obtain⟨d1,d2,rfl,h1,h2,ho⟩:=h;rfl
 one h:=by obtain⟨d1,d2,rfl,h1,h2,ho⟩:=h;exact yo ⟨h1.sl.one,h2.sl.one,trivial⟩
 mono h hF:=by obtain⟨d1,d2,rfl,h1,h2,ho⟩:=h;exact⟨d1,d2,rfl,h1.mono hF,h2.mono hF,ho⟩
structure Cel where
 n:Int
 set:List Int
 deriving DecidableEq,Inhabited
structure Cel.Ok (e:Cel):Prop where
 n:InR e.n
def Cel.cells (e:Cel)(d1:Value):List Value:=[.int .i64 e.n,d1]
instance:Rep Cel where
 k:=2
 bytes:=32
 bpos:=by decide
 kpos:=by decide
 rd w F cs e:= ∃d1,cs=e.cells d1∧RdS w F d1 e.set∧e.Ok
 len h:=by obtain⟨d1,rfl,h1,ho⟩:=h;rfl
 one h:=by obtain⟨d1,rfl,h1,ho⟩:=h;exact yo ⟨rfl,h1.sl.one,trivial⟩
 mono h hF:=by obtain⟨d1,rfl,h1,ho⟩:=h;exact⟨d1,rfl,h1.mono hF,ho⟩
theorem RdS.cel {w:World}{F:Nat→Prop}{v:Value}{l:List Cel}(h:RdS w F v l){i:Nat}(hi:i<l.length):
 CellsAt w (sb v) (so v+i*2) (l[i].cells (zT w (sb v) (so v+i*2+1)))∧RdS w F (zT w (sb v) (so v+i*2+1)) l[i].set∧l[i].Ok:=by
 obtain⟨cs,hc,d1,rfl,h1,ho⟩:=h.at_ i hi
 have ed1:(zT w (sb v) (so v+i*2+1))=d1:=by
  have:w.cell? ⟨sb v,so v+i*2+1,none⟩=some d1:=hc.get (j:=1) rfl
  simp only[zT,this];rfl
 rw[ed1]
 exact⟨hc,h1,ho⟩
structure AskR where
 fld:Fld
 cls:List Cel
 no:Int
 arg:Int
 deriving DecidableEq,Inhabited
structure AskR.Ok (e:AskR):Prop where
 fld:e.fld.Ok
 no:InR e.no
 arg:InR e.arg
def AskR.cells (e:AskR)(d1:Value)(d2:Value):List Value:=e.fld.cells d1++[d2,.int .i64 e.no,.int .i64 e.arg]
instance:Rep AskR where
 k:=7
 bytes:=88
 bpos:=by decide
 kpos:=by decide
 rd w F cs e:= ∃d1 d2,cs=e.cells d1 d2∧RdS w F d1 e.fld.moves∧RdS w F d2 e.cls∧e.Ok
 len h:=by obtain⟨d1,d2,rfl,h1,h2,ho⟩:=h;rfl
 one h:=by obtain⟨d1,d2,rfl,h1,h2,ho⟩:=h;exact yo ⟨rfl,rfl,rfl,h1.sl.one,h2.sl.one,rfl,rfl,trivial⟩
 mono h hF:=by obtain⟨d1,d2,rfl,h1,h2,ho⟩:=h;exact⟨d1,d2,rfl,h1.mono hF,h2.mono hF,ho⟩
theorem RdS.celD {w:World}{F:Nat→Prop}{v:Value}{l:List Cel}(h:RdS w F v l){i:Nat}(hi:i<l.length):
 CellsAt w (sb v) (so v+i*2) ((l.getD i default).cells (zT w (sb v) (so v+i*2+1)))∧RdS w F (zT w (sb v) (so v+i*2+1)) (l.getD i default).set∧(l.getD i default).Ok:=by
 have h9:=h.cel hi
 rw[←zJ default hi]at h9
 exact h9
theorem RdS.fldD {w:World}{F:Nat→Prop}{v:Value}{l:List Fld}(h:RdS w F v l){i:Nat}(hi:i<l.length):
 CellsAt w (sb v) (so v+i*4) ((l.getD i default).cells (zT w (sb v) (so v+i*4+3)))∧RdS w F (zT w (sb v) (so v+i*4+3)) (l.getD i default).moves∧(l.getD i default).Ok:=by
 have h9:=h.fld hi
 rw[←zJ default hi]at h9
 exact h9
theorem RdS.mvD {w:World}{F:Nat→Prop}{v:Value}{l:List Mv}(h:RdS w F v l){i:Nat}(hi:i<l.length):
 CellsAt w (sb v) (so v+i*4) ((l.getD i default).cells)∧(l.getD i default).Ok:=by
 have h9:=h.mv hi
 rw[←zJ default hi]at h9
 exact h9
theorem RdS.prjD {w:World}{F:Nat→Prop}{v:Value}{l:List Prj}(h:RdS w F v l){i:Nat}(hi:i<l.length):
 CellsAt w (sb v) (so v+i*5) ((l.getD i default).cells)∧(l.getD i default).Ok:=by
 have h9:=h.prj hi
 rw[←zJ default hi]at h9
 exact h9
theorem RdS.typD {w:World}{F:Nat→Prop}{v:Value}{l:List Typ}(h:RdS w F v l){i:Nat}(hi:i<l.length):
 CellsAt w (sb v) (so v+i*1) ((l.getD i default).cells (zT w (sb v) (so v+i*1+0)))∧RdS w F (zT w (sb v) (so v+i*1+0)) (l.getD i default).fields∧(l.getD i default).Ok:=by
 have h9:=h.typ hi
 rw[←zJ default hi]at h9
 exact h9
structure Ent where
 ev:Ev
 void:Bool
 byO:Int
 byS:Int
 deriving DecidableEq,Inhabited
structure Ent.Ok (e:Ent):Prop where
 ev:e.ev.Ok
 byO:InR e.byO
 byS:InR e.byS
def Ent.cells (e:Ent)(d1:Value):List Value:=e.ev.cells d1++[.bool e.void,.int .i64 e.byO,.int .i64 e.byS]
instance:Rep Ent where
 k:=13
 bytes:=120
 bpos:=by decide
 kpos:=by decide
 rd w F cs e:= ∃d1,cs=e.cells d1∧RdS w F d1 e.ev.deps∧e.Ok
 len h:=by obtain⟨d1,rfl,h1,ho⟩:=h;rfl
 one h:=by obtain⟨d1,rfl,h1,ho⟩:=h;exact yo ⟨rfl,rfl,rfl,h1.sl.one,rfl,rfl,rfl,rfl,rfl,rfl,rfl,rfl,rfl,trivial⟩
 mono h hF:=by obtain⟨d1,rfl,h1,ho⟩:=h;exact⟨d1,rfl,h1.mono hF,ho⟩
theorem RdS.ent {w:World}{F:Nat→Prop}{v:Value}{l:List Ent}(h:RdS w F v l){i:Nat}(hi:i<l.length):
 CellsAt w (sb v) (so v+i*13) (l[i].cells (zT w (sb v) (so v+i*13+3)))∧RdS w F (zT w (sb v) (so v+i*13+3)) l[i].ev.deps∧l[i].Ok:=by
 obtain⟨cs,hc,d1,rfl,h1,ho⟩:=h.at_ i hi
 have ed1:(zT w (sb v) (so v+i*13+3))=d1:=by
  have:w.cell? ⟨sb v,so v+i*13+3,none⟩=some d1:=hc.get (j:=3) rfl
  simp only[zT,this];rfl
 rw[ed1]
 exact⟨hc,h1,ho⟩
theorem Ent.eq_iff {a b:Ent}:a=b↔a.ev=b.ev∧a.void=b.void∧a.byO=b.byO∧a.byS=b.byS:=by
 cases a;cases b;simp
structure Sta where
 ver:Int
 cls:List Cel
 deriving DecidableEq,Inhabited
structure Sta.Ok (e:Sta):Prop where
 ver:InR e.ver
def Sta.cells (e:Sta)(d1:Value):List Value:=[.int .i64 e.ver,d1]
instance:Rep Sta where
 k:=2
 bytes:=32
 bpos:=by decide
 kpos:=by decide
 rd w F cs e:= ∃d1,cs=e.cells d1∧RdS w F d1 e.cls∧e.Ok
 len h:=by obtain⟨d1,rfl,h1,ho⟩:=h;rfl
 one h:=by obtain⟨d1,rfl,h1,ho⟩:=h;exact yo ⟨rfl,h1.sl.one,trivial⟩
 mono h hF:=by obtain⟨d1,rfl,h1,ho⟩:=h;exact⟨d1,rfl,h1.mono hF,ho⟩
theorem RdS.entD {w:World}{F:Nat→Prop}{v:Value}{l:List Ent}(h:RdS w F v l){i:Nat}(hi:i<l.length):
 CellsAt w (sb v) (so v+i*13) ((l.getD i default).cells (zT w (sb v) (so v+i*13+3)))∧RdS w F (zT w (sb v) (so v+i*13+3)) (l.getD i default).ev.deps∧(l.getD i default).Ok:=by
 have h9:=h.ent hi
 rw[←zJ default hi]at h9
 exact h9
structure Row where
 group:Int
 value:Int
 count:Int
 deriving DecidableEq,Inhabited
structure Row.Ok (e:Row):Prop where
 group:InR e.group
 value:InR e.value
 count:InR e.count
def Row.cells (e:Row):List Value:=[.int .i64 e.group,.int .i64 e.value,.int .i64 e.count]
instance:Rep Row where
 k:=3
 bytes:=24
 bpos:=by decide
 kpos:=by decide
 rd w F cs e:=cs=e.cells∧e.Ok
 len h:=by obtain⟨rfl,ho⟩:=h;rfl
 one h:=by obtain⟨rfl,ho⟩:=h;exact yo ⟨rfl,rfl,rfl,trivial⟩
 mono h hF:=by obtain⟨rfl,ho⟩:=h;exact⟨rfl,ho⟩
theorem RdS.row {w:World}{F:Nat→Prop}{v:Value}{l:List Row}(h:RdS w F v l){i:Nat}(hi:i<l.length):
 CellsAt w (sb v) (so v+i*3) (l[i].cells)∧l[i].Ok:=by
 obtain⟨cs,hc,rfl,ho⟩:=h.at_ i hi
 exact⟨hc,ho⟩
theorem Row.eq_iff {a b:Row}:a=b↔a.group=b.group∧a.value=b.value∧a.count=b.count:=by
 cases a;cases b;simp
structure Trn where
 first:Int
 most:Int
 skip:Int
 back:Bool
 deriving DecidableEq,Inhabited
structure Trn.Ok (e:Trn):Prop where
 first:InR e.first
 most:InR e.most
 skip:InR e.skip
def Trn.cells (e:Trn):List Value:=[.int .i64 e.first,.int .i64 e.most,.int .i64 e.skip,.bool e.back]
instance:Rep Trn where
 k:=4
 bytes:=32
 bpos:=by decide
 kpos:=by decide
 rd w F cs e:=cs=e.cells∧e.Ok
 len h:=by obtain⟨rfl,ho⟩:=h;rfl
 one h:=by obtain⟨rfl,ho⟩:=h;exact yo ⟨rfl,rfl,rfl,rfl,trivial⟩
 mono h hF:=by obtain⟨rfl,ho⟩:=h;exact⟨rfl,ho⟩
theorem RdS.trn {w:World}{F:Nat→Prop}{v:Value}{l:List Trn}(h:RdS w F v l){i:Nat}(hi:i<l.length):
 CellsAt w (sb v) (so v+i*4) (l[i].cells)∧l[i].Ok:=by
 obtain⟨cs,hc,rfl,ho⟩:=h.at_ i hi
 exact⟨hc,ho⟩
end
section
def Zp (n:Int):Int:=IntKind.i64.wrap n
theorem YK (n:Int):InR (Zp n):=by
 unfold Zp
 rw[IntKind.wrap_i64]
 omega
def Asc (l:List Int):Prop:=l.Pairwise (· < ·)
def ZW (l:List Int)(x:Int):List Int:=if x∈l then l else l.filter (fun y=>decide (y<x))++x::l.filter (fun y=>decide (x<y))
def Zz (l:List Int)(x:Int):List Int:=l.filter (fun y=>decide (y≠x))
theorem zaX {l:List Int}{x y:Int}:y∈ZW l x↔y=x∨y∈l:=by
 unfold ZW
 split
 ·rename_i h
  constructor
  ·exact .inr
  ·rintro(rfl|h2)
   ·exact h
   ·exact h2
 ·rename_i h
  simp only[List.mem_append,List.mem_cons,List.mem_filter,decide_eq_true_eq]
  constructor
  ·rintro(⟨h1,_⟩|rfl|⟨h1,_⟩)
   ·exact .inr h1
   ·exact .inl rfl
   ·exact .inr h1
  ·rintro(rfl|h1)
   ·exact .inr (.inl rfl)
   ·rcases Int.lt_trichotomy y x with h2|h2|h2
    ·exact .inl ⟨h1,h2⟩
    ·exact .inr (.inl h2)
    ·exact .inr (.inr ⟨h1,h2⟩)
theorem QL {l:List Int}(h:Asc l)(x:Int):Asc (ZW l x):=by
 unfold ZW
 split
 ·exact h
 ·refine List.pairwise_append.2 ⟨h.filter _,List.pairwise_cons.2 ⟨fun y hy=>?_,h.filter _⟩,fun a ha b hb=>?_⟩
  ·simpa using(List.mem_filter.1 hy).2
  ·have h1:a<x:=by simpa using(List.mem_filter.1 ha).2
   rcases List.mem_cons.1 hb with rfl|hb
   ·exact h1
   ·have h2:x<b:=by simpa using(List.mem_filter.1 hb).2
    omega
theorem zaS {l:List Int}(h:Asc l)(x:Int):Asc (Zz l x):=h.filter _
theorem zcl {a b:List Int}(ha:Asc a)(hb:Asc b)(h: ∀x,x∈a↔x∈b):a=b:=by
 have nd: ∀{l:List Int},Asc l→l.Nodup:=fun h=>h.imp (fun hlt e=>by subst e;omega)
 exact List.Perm.eq_of_pairwise (fun x y _ _ h1 h2=>by omega) ha hb ((List.perm_ext_iff_of_nodup (nd ha) (nd hb)).2 h)
theorem zaz {l:List Int}(h:Asc l)(x:Int):(ZW l x).length≤l.length+1:=by
 unfold ZW
 split
 ·omega
 ·have: ∀l:List Int,(l.filter (fun y=>decide (y<x))).length+(l.filter (fun y=>decide (x<y))).length≤l.length:=by
   intro l
   induction l with
   |nil=>simp
   |cons a l ih=>
    simp only[List.filter_cons,List.length_cons]
    by_cases h1:a<x
    ·have h2: ¬x<a:=by omega
     simp[h1,h2];omega
    ·by_cases h2:x<a
     ·simp[h1,h2];omega
     ·simp[h1,h2];omega
  have:=this l
  simp only[List.length_append,List.length_cons]
  omega
theorem zaY (l:List Int)(x:Int):(Zz l x).length≤l.length:=List.length_filter_le _ _
theorem Wq {l:List Int}{x:Int}(h:x∈l):ZW l x=l:=by unfold ZW;rw[if_pos h]
def xn (t:Typ)(f:Int):Fld:=t.fields.getD f.toNat default
def yE (cs:List Cel)(f:Int):Cel:=cs.getD f.toNat default
def Yg (fl:Fld)(a:Int):Mv:=fl.moves.getD a.toNat default
def xC (fl:Fld)(cs:List Cel)(c:Cel)(op arg:Int):Bool:=
 if op=1 then(decide (arg=0)||(decide (c.n<Zp (c.n+arg))== decide (0<arg)))&& !(fl.floor&&decide (Zp (c.n+arg)<0))
 else if op=3 then decide (arg∈c.set)||decide ((c.set.length:Int)<64)
 else if op=5 then decide (c.n=(Yg fl arg).frm)&&(decide ((Yg fl arg).need<0)||decide ((Yg fl arg).least≤(yE cs (Yg fl arg).need).n))
 else true
def xB (t:Typ)(cs:List Cel)(f op arg:Int):Int:=if xC (xn t f) cs (yE cs f) op arg=true then 0 else 10
def xd (fl:Fld)(c:Cel)(op arg:Int):Cel:=
 if op=1 then⟨Zp (c.n+arg),c.set⟩else if op=2 then⟨arg,c.set⟩else if op=3 then⟨c.n,ZW c.set arg⟩else if op=4 then⟨c.n,Zz c.set arg⟩else if op=5 then⟨(Yg fl arg).to,c.set⟩else c
def doL (t:Typ)(cs:List Cel)(f op arg:Int):List Cel:=cs.set f.toNat (xd (xn t f) (yE cs f) op arg)
theorem zcd (t:Typ)(cs:List Cel)(f op arg:Int):(doL t cs f op arg).length=cs.length:=by unfold doL;rw[List.length_set]
def Wy (t:Typ)(cs:List Cel)(f op arg:Int):Prop:=
 0≤f∧f<t.fields.length∧f<cs.length∧((op=3∨op=4)→Asc (yE cs f).set)∧(op=5→0≤arg∧arg<(xn t f).moves.length∧((Yg (xn t f) arg).need<0∨(Yg (xn t f) arg).need<cs.length))
structure TypOk (t:Typ):Prop where
 some:1≤t.fields.length
 few:t.fields.length≤8
 kind: ∀i,i<t.fields.length→1≤(t.fields.getD i default).kind∧(t.fields.getD i default).kind≤4
 floor: ∀i,i<t.fields.length→(t.fields.getD i default).floor=true→(t.fields.getD i default).kind=1
 moves: ∀i,i<t.fields.length→((t.fields.getD i default).kind=4→1≤(t.fields.getD i default).moves.length)∧(t.fields.getD i default).moves.length≤16
 need: ∀i,i<t.fields.length→ ∀j,j<(t.fields.getD i default).moves.length→((t.fields.getD i default).moves.getD j default).need= -1∨(0≤((t.fields.getD i default).moves.getD j default).need∧((t.fields.getD i default).moves.getD j default).need<t.fields.length∧(t.fields.getD ((t.fields.getD i default).moves.getD j default).need.toNat default).kind=1)
structure DclOk (d:Dcl):Prop where
 some:1≤d.types.length
 few:d.types.length≤8
 typ: ∀i,i<d.types.length→TypOk (d.types.getD i default)
structure Right (t:Typ) (c:List Cel):Prop where
 len:c.length=t.fields.length
 num: ∀i,i<c.length→(t.fields.getD i default).kind=3→(c.getD i default).n=0
 set: ∀i,i<c.length→(t.fields.getD i default).kind≠3→(c.getD i default).set=[]
 floor: ∀i,i<c.length→(t.fields.getD i default).floor=true→0≤(c.getD i default).n
 most: ∀i,i<c.length→(c.getD i default).set.length≤64
 asc: ∀i,i<c.length→Asc (c.getD i default).set
structure Fits (t:Typ) (f op arg:Int):Prop where
 lo:0≤f
 hi:f<t.fields.length
 kind:(op=1∧(xn t f).kind=1)∨(op=2∧(xn t f).kind=2)∨((op=3∨op=4)∧(xn t f).kind=3)∨(op=5∧(xn t f).kind=4∧0≤arg∧arg<(xn t f).moves.length)
theorem Fits.ask {t:Typ}{f op arg:Int}{c:List Cel}(h:Fits t f op arg)(ht:TypOk t)(hr:Right t c):Wy t c f op arg:=by
 have hl:=hr.len
 have hlo:=h.lo
 have hhi:=h.hi
 refine⟨h.lo,h.hi,by omega,fun _=>hr.asc f.toNat (by omega),fun h5=>?_⟩
 rcases h.kind with⟨h1,_⟩|⟨h1,_⟩|⟨h1,_⟩|⟨_,h1,h2,h3⟩
 ·omega
 ·omega
 ·omega
 ·refine⟨h2,h3,?_⟩
  have:=ht.need f.toNat (by omega) arg.toNat (by show arg.toNat<(xn t f).moves.length;omega)
  rcases this with h4|⟨_,h4,_⟩
  ·exact .inl (by show(Yg (xn t f) arg).need<0;have h4:(Yg (xn t f) arg).need= -1:=h4;omega)
  ·exact .inr (by have h4:(Yg (xn t f) arg).need<t.fields.length:=h4;omega)
theorem Xj {α:Type}{l:List α}{i:Nat}(h:i<l.length)(x d:α):(l.set i x).getD i d=x:=by
 rw[zJ _ (by simpa using h),List.getElem_set_self]
theorem Ws {α:Type}{l:List α}{i j:Nat}(h:i≠j)(x d:α):(l.set i x).getD j d=l.getD j d:=by
 rw[List.getD_eq_getElem?_getD,List.getD_eq_getElem?_getD,List.getElem?_set_ne h]
theorem zaD {t:Typ}{f op arg:Int}{c:List Cel}(h:Fits t f op arg)(ht:TypOk t)(hr:Right t c)(hm:xC (xn t f) c (yE c f) op arg=true):Right t (doL t c f op arg):=by
 have hl:=hr.len
 have hlo:=h.lo
 have hhi:=h.hi
 have hf:f.toNat<c.length:=by omega
 have hft:f.toNat<t.fields.length:=by omega
 have hlen:=zcd t c f op arg
 have split: ∀i,i<c.length→(i=f.toNat∧(doL t c f op arg).getD i default=xd (xn t f) (yE c f) op arg)∨(i≠f.toNat∧(doL t c f op arg).getD i default=c.getD i default):=by
  intro i hi
  by_cases e:i=f.toNat
  ·subst e;exact .inl ⟨rfl,Xj hf _ _⟩
  ·exact .inr ⟨e,Ws (Ne.symm e) _ _⟩
 have e1:t.fields.getD f.toNat default=xn t f:=rfl
 have e2:c.getD f.toNat default=yE c f:=rfl
 refine⟨hlen.trans hl,fun i hi hk=>?_,fun i hi hk=>?_,fun i hi hk=>?_,fun i hi=>?_,fun i hi=>?_⟩
 ·rcases split i (by omega)with⟨rfl,e⟩|⟨_,e⟩
  ·rw[e]
   have:=hr.num f.toNat hf hk
   rw[e2]at this
   rw[e1]at hk
   unfold xd
   rcases h.kind with⟨_,h1⟩|⟨_,h1⟩|⟨h0,_⟩|⟨_,h1,_⟩
   ·omega
   ·omega
   ·rcases h0 with rfl|rfl<;>simpa using this
   ·omega
  ·rw[e];exact hr.num i (by omega) hk
 ·rcases split i (by omega)with⟨rfl,e⟩|⟨_,e⟩
  ·rw[e]
   have:=hr.set f.toNat hf hk
   rw[e2]at this
   rw[e1]at hk
   unfold xd
   rcases h.kind with⟨rfl,_⟩|⟨rfl,_⟩|⟨_,h1⟩|⟨rfl,_⟩
   ·simpa using this
   ·simpa using this
   ·exact absurd h1 hk
   ·simpa using this
  ·rw[e];exact hr.set i (by omega) hk
 ·rcases split i (by omega)with⟨rfl,e⟩|⟨_,e⟩
  ·rw[e]
   have hk1:=ht.floor f.toNat hft hk
   rw[e1]at hk1 hk
   unfold xd
   unfold xC at hm
   rcases h.kind with⟨rfl,_⟩|⟨rfl,h1⟩|⟨_,h1⟩|⟨rfl,h1,_⟩
   ·simp only[if_true,hk,Bool.true_and,Bool.and_eq_true,Bool.not_eq_true',decide_eq_false_iff_not]at hm
    simp only[if_true];omega
   ·omega
   ·omega
   ·omega
  ·rw[e];exact hr.floor i (by omega) hk
 ·rcases split i (by omega)with⟨rfl,e⟩|⟨_,e⟩
  ·rw[e]
   have h64:=hr.most f.toNat hf
   have hasc:=hr.asc f.toNat hf
   rw[e2]at h64 hasc
   unfold xd
   unfold xC at hm
   rcases h.kind with⟨rfl,_⟩|⟨rfl,h1⟩|⟨rfl|rfl,h1⟩|⟨rfl,h1,_⟩
   ·simpa using h64
   ·simpa using h64
   ·have hm:(decide (arg∈(yE c f).set)||decide (((yE c f).set.length:Int)<64))=true:=hm
    simp only[Bool.or_eq_true,decide_eq_true_eq]at hm
    show(ZW (yE c f).set arg).length≤64
    rcases hm with hm|hm
    ·rw[Wq hm];exact h64
    ·have:=zaz hasc arg;omega
   ·exact Nat.le_trans (zaY _ _) h64
   ·simpa using h64
  ·rw[e];exact hr.most i (by omega)
 ·rcases split i (by omega)with⟨rfl,e⟩|⟨_,e⟩
  ·rw[e]
   have hasc:=hr.asc f.toNat hf
   rw[e2]at hasc
   unfold xd
   rcases h.kind with⟨rfl,_⟩|⟨rfl,h1⟩|⟨rfl|rfl,h1⟩|⟨rfl,h1,_⟩
   ·simpa using hasc
   ·simpa using hasc
   ·exact QL hasc arg
   ·exact zaS hasc arg
   ·simpa using hasc
  ·rw[e];exact hr.asc i (by omega)
end
end Go.Proofs.YtpdolkiohjdodaaGreatDoor
