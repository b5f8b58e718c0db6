import Derived.Test.YtbbabhaalmkbkaaGreatDoorE2
import Derived.Test.YtbbabhaalmkbkaaGreatDoorE5
set_option linter.unusedSimpArgs false
set_option linter.unusedVariables false
set_option linter.unusedSectionVars false
set_option linter.deprecated false
open Go.Proofs.Tryz renaming isAgg3→kT,sizeOf41→lT,sizeOf53→mT,sizeOf38→nT,isAgg41→oT,isAgg38→pT,sizeOf166→qT,isAgg166→rT,isAgg45→sT,underlying22→tT,isAgg53→uT,underlying51→vT,sizeOf110→wT,sizeOf25→kR,isAgg22→lR,results80→mR,zeroValue47→nR,sizeOf47→oR,isAgg25→pR,zeroValue53→qR,underlying26→rR,sizeOf131→sR,isAgg80→tR,isAgg85→uR,sizeOf85→vR,results40→wR,isAgg39→kY,results81→lY,results60→mY,zeroValue41→nY,underlying23→oY,underlying45→pY,isAgg81→qY,isAgg131→rY,underlying80→sY,underlying39→tY,results53→uY,call100→vY,zeroValue166→wY,isAgg110→kA,call44→lA,sizeOf39→mA,results86→nA,results87→pA,sizeOf45→qA,isAgg47→rA,sizeOf99→sA,zeroValue25→tA,isAgg51→uA,zeroValue131→vA,underlying81→wA,zeroValue26→kB
namespace Go.Proofs.YtbbabhaalmkbkaaGreatDoor
section
section
variable {P:Program}{n:Nat}{Q:xZ}{σ:Env}{w:World}{ops:List Oper}{pre:List (List Nat)}
def yM:List Nat→(Nat→Bool)→Nat
 |[],_=>0
 |s::r,d=>(if d s=true then 1 else 0)+2*yM r d
theorem Ub: ∀(ss:List Nat) (d:Nat→Bool),yM ss d<2^ss.length
 |[],_=>Nat.one_pos
 |s::r,d=>by
  have:=Ub r d
  simp only[yM,List.length_cons,Nat.pow_succ]
  split<;>omega
theorem Wv: ∀(ss:List Nat) (d:Nat→Bool) (p s:Nat),ss[p]? =some s→(yM ss d).testBit p=d s
 |[],_,_,_,h=>by simp at h
 |x::r,d,0,s,h=>by
  simp only[List.getElem?_cons_zero,Option.some.injEq]at h
  subst h
  rw[Nat.testBit_zero,yM]
  cases h:d x<;>simp<;>omega
 |x::r,d,p+1,s,h=>by
  have:=Wv r d p s (by simpa using h)
  rw[Nat.testBit_succ,yM,show((if d x=true then 1 else 0)+2*yM r d)/2=yM r d by split<;>omega]
  exact this
theorem Wk {ss:List Nat}{d:Nat→Bool}{i:Nat}(h:i∉ss):yM ss (fun j=>d j||j== i)=yM ss d:=by
 induction ss with
 |nil=>rfl
 |cons s r ih=>
  have hs: ¬s=i:=fun e=>h (e▸List.mem_cons_self)
  simp only[yM]
  rw[ih (fun hm=>h (List.mem_cons_of_mem _ hm))]
  simp[hs]
theorem QB {ss:List Nat}{d:Nat→Bool}{i:Nat}(hnd:ss.Nodup)(h:i∈ss)(hd:d i=false):yM ss (fun j=>d j||j== i)=yM ss d+2^ss.idxOf i:=by
 induction ss with
 |nil=>cases h
 |cons s r ih=>
  obtain⟨h1,h2⟩:=List.nodup_cons.1 hnd
  by_cases e:s=i
  ·subst e
   simp only[yM,List.idxOf_cons_self]
   rw[Wk h1]
   simp[hd]
   omega
  ·have hm:i∈r:=by
    rcases List.mem_cons.1 h with e2|hm
    ·exact absurd e2.symm e
    ·exact hm
   simp only[yM]
   rw[ih h2 hm,show(s::r).idxOf i=r.idxOf i+1 by rw[List.idxOf_cons,show(s== i)=false from beq_eq_false_iff_ne.2 e];rfl,Nat.pow_succ]
   simp[e]
   omega
theorem Wz: ∀{ss:List Nat} {d:Nat→Bool},(∀s∈ss,d s=true)→yM ss d=2^ss.length-1
 |[],_,_=>rfl
 |s::r,d,h=>by
  have:=Wz (ss:=r) (d:=d) (fun q hq=>h q (List.mem_cons_of_mem _ hq))
  have h2:0<2^r.length:=Nat.two_pow_pos _
  simp only[yM,List.length_cons,Nat.pow_succ,h s List.mem_cons_self,if_true,this]
  omega
theorem XJ: ∀{ss:List Nat} {d:Nat→Bool},(∀s∈ss,d s=false)→yM ss d=0
 |[],_,_=>rfl
 |s::r,d,h=>by
  have:=XJ (ss:=r) (d:=d) (fun q hq=>h q (List.mem_cons_of_mem _ hq))
  simp[yM,h s List.mem_cons_self,this]
def Jo (pre:List (List Nat))(ss:List Nat)(m i:Nat):Bool:=(List.range ss.length).all fun p=>match ss.getD p 0 with
 |s=>(!(pre.getD i []).contains s||m.testBit p)&&(!(Nat.beq s i||(pre.getD s []).contains i)|| !m.testBit p)&&(!m.testBit p||(List.range ss.length).all fun r=> !(pre.getD s []).contains (ss.getD r 0)||m.testBit r)
def maskOk (pre:List (List Nat))(ss:List Nat)(sees:List (List Nat)):Bool:=(List.range sees.length).all fun i=>(List.range (2^ss.length)).all fun m=> !Jo pre ss m i||(sees.getD i []).contains m
theorem maskOk.mem {ss:List Nat}{sees:List (List Nat)}(h:maskOk pre ss sees=true){i:Nat}(hi:i<sees.length){done:Nat→Bool}(hc:closed pre done)(hd:done i=false)(hp: ∀j∈pre.getD i [],done j=true):yM ss done∈sees.getD i []:=by
 simp only[maskOk,List.all_eq_true,List.mem_range]at h
 have h1:=h i hi (yM ss done) (Ub _ _)
 have hcons:Jo pre ss (yM ss done) i=true:=by
  simp only[Jo,List.all_eq_true,List.mem_range]
  intro p hp'
  have hb: ∀r,r<ss.length→(yM ss done).testBit r=done (ss.getD r 0):=fun r hr=>Wv ss done r _ (by rw[List.getD_eq_getElem?_getD,List.getElem?_eq_getElem hr];rfl)
  simp only[Bool.and_eq_true,Bool.or_eq_true,Bool.not_eq_true',List.all_eq_true,List.mem_range]
  rw[hb p hp']
  refine⟨⟨?_,?_⟩,?_⟩
  ·cases hk:(pre.getD i []).contains (ss.getD p 0)with
   |false=>exact .inl rfl
   |true=>exact .inr (hp _ (List.contains_iff_mem.1 hk))
  ·cases hk:(Nat.beq (ss.getD p 0) i||(pre.getD (ss.getD p 0) []).contains i)with
   |false=>exact .inl rfl
   |true=>
    right
    rcases Bool.or_eq_true _ _▸hk with h2|h2
    ·rw[Nat.eq_of_beq_eq_true h2];exact hd
    ·cases hds:done (ss.getD p 0)with
     |false=>rfl
     |true=>have:=hc _ hds i (List.contains_iff_mem.1 h2);rw[hd]at this;cases this
  ·cases hds:done (ss.getD p 0)with
   |false=>exact .inl rfl
   |true=>
    right
    intro r hr
    rw[hb r hr]
    cases hk:(pre.getD (ss.getD p 0) []).contains (ss.getD r 0)with
    |false=>exact .inl rfl
    |true=>exact .inr (hc _ hds _ (List.contains_iff_mem.1 hk))
 rw[hcons]at h1
 simpa using h1
def Vn (P:Program)(ops:List Oper)(pre:List (List Nat))(ss:List Nat)(sees:List (List Nat))(W:Nat→(Nat→Value)→World→Prop)(A:Nat→(Nat→Value)→Prop)(σ:Env):Nat→List Oper→Prop
 |_,[]=>True
 |i,o::rest=>(∀k vals w,k∈sees.getD i []→W k vals w→(∀j,j∈pre.getD i []→A j vals)→
  if Region.wanted o (yl ops.toArray (Xa ops (pre.getD i []) σ vals))then opV P o (Xa ops (pre.getD i []) σ vals) w (fun v w'=> ∀vals',vals' i=v→(∀j,j≠i→vals' j=vals j)→(if ss.contains i then W (k+2^ss.idxOf i) vals' w' else w'=w)∧A i vals')
  else ∀vals',vals' i=undef→(∀j,j≠i→vals' j=vals j)→(if ss.contains i then W (k+2^ss.idxOf i) vals' w else True)∧A i vals')∧
  Vn P ops pre ss sees W A σ (i+1) rest
theorem KK {ss:List Nat}{sees:List (List Nat)}{W:Nat→(Nat→Value)→World→Prop}{A:Nat→(Nat→Value)→Prop}{i0:Nat}: ∀{l:List Oper},Vn P ops pre ss sees W A σ i0 l→ ∀i o,l[i]? =some o→ ∀k vals w,k∈sees.getD (i0+i) []→W k vals w→(∀j,j∈pre.getD (i0+i) []→A j vals)→
 if Region.wanted o (yl ops.toArray (Xa ops (pre.getD (i0+i) []) σ vals))then opV P o (Xa ops (pre.getD (i0+i) []) σ vals) w (fun v w'=> ∀vals',vals' (i0+i)=v→(∀j,j≠i0+i→vals' j=vals j)→(if ss.contains (i0+i)then W (k+2^ss.idxOf (i0+i)) vals' w' else w'=w)∧A (i0+i) vals')
 else ∀vals',vals' (i0+i)=undef→(∀j,j≠i0+i→vals' j=vals j)→(if ss.contains (i0+i)then W (k+2^ss.idxOf (i0+i)) vals' w else True)∧A (i0+i) vals':=by
 intro l
 induction l generalizing i0 with
 |nil=>intro _ i o h;simp at h
 |cons x l ih=>
  intro h i o ho
  obtain⟨h1,h2⟩:=h
  cases i with
  |zero=>simp only[List.getElem?_cons_zero,Option.some.injEq]at ho;subst ho;exact h1
  |succ i=>
   have:=ih h2 i o (by simpa using ho)
   rw[show i0+1+i=i0+(i+1) by omega]at this
   exact this
theorem zbp {ss:List Nat}{sees:List (List Nat)}{W:Nat→(Nat→Value)→World→Prop}{A:Nat→(Nat→Value)→Prop}(hf:Fit ops pre ops.length)(hd:yQ n ops=true)(hkl:sees.length=ops.length)(hk:maskOk pre ss sees=true)(hsl: ∀s∈ss,s<ops.length)(hnd:ss.Nodup)
 (hloc: ∀k vals vals' w,(∀s∈ss,vals' s=vals s)→W k vals w→W k vals' w)
 (hlocA: ∀i vals vals',(∀j,j=i∨j∈pre.getD i []→vals' j=vals j)→A i vals→A i vals') (hob:Vn P ops pre ss sees W A σ 0 ops)
 (hfin: ∀vals w',W (2^ss.length-1) vals w'→(∀j,j<ops.length→A j vals)→Q .normal (behind ops vals σ ops.length) w'):
 ∀(fuel:Nat) (listed:Array Bool) (a:Act) (vals:Nat→Value) (w:World),listed.size=ops.length→closed pre (dn listed)→(∀j,dn listed j=true→j<ops.length)→
 ops.length≤cnt (dn listed) ops.length+fuel→Sim n (mixed ops (dn listed) vals σ) a→W (yM ss (dn listed)) vals w→(∀j,dn listed j=true→A j vals)→
 wpAny P .any ops.toArray (fun e a' w'=> ∃σ'',Sim n σ'' a'∧Q e σ'' w') fuel listed a w:=by
 have hend: ∀(listed:Array Bool) (a:Act) (vals:Nat→Value) (w:World),(∀j,j<ops.length→dn listed j=true)→(∀j,dn listed j=true→j<ops.length)→Sim n (mixed ops (dn listed) vals σ) a→W (yM ss (dn listed)) vals w→(∀j,dn listed j=true→A j vals)→
  ∃σ'',Sim n σ'' a∧Q .normal σ'' w:=by
  intro listed a vals w hall hlt hsim hW hA
  have hdn:dn listed=fun j=>decide (j<ops.length):=by
   funext j
   rw[Bool.eq_iff_iff,decide_eq_true_eq]
   exact⟨hlt j,hall j⟩
  have hst:yM ss (dn listed)=2^ss.length-1:=Wz fun s hs=>hall s (hsl s hs)
  rw[hdn,←Zw hf ops.length (Nat.le_refl _)]at hsim
  exact⟨_,hsim,hfin vals w (hst▸hW) fun j hj=>hA j (hall j hj)⟩
 intro fuel
 induction fuel with
 |zero=>
  intro listed a vals w hs hc hlt hfu hsim hW hA
  have hall:=Xj (done:=dn listed) (m:=ops.length) (by omega)
  refine⟨?_,hend listed a vals w hall hlt hsim hW hA⟩
  cases hr:Region.ready .any ops.toArray listed with
  |nil=>rfl
  |cons i r=>
   have hi:i∈Region.ready .any ops.toArray listed:=by rw[hr];exact List.mem_cons_self
   obtain⟨h1,o,ho,_⟩:=(ZX hs).1 hi
   have:=hall i (List.getElem?_eq_some_iff.1 ho).1
   rw[h1]at this;cases this
 |succ fuel ih=>
  intro listed a vals w hs hc hlt hfu hsim hW hA
  refine⟨fun hr=>hend listed a vals w (Wb hf hs hr) hlt hsim hW hA,fun i hi=>?_⟩
  obtain⟨o,ho,hni,hpre⟩:=Ws hf hs hc hi
  have hilen:=(List.getElem?_eq_some_iff.1 ho).1
  have hdst: ∀d,o.dst=some d→d<n:=by
   intro d hd'
   simp only[yQ,List.all_eq_true]at hd
   have:=hd o (List.mem_of_getElem? ho)
   rw[hd']at this
   simpa[Nat.blt_eq]using this
  have hv:=Xw (σ:=σ) (vals:=vals) hf ho hc hni hpre
  have hbd:=maskOk.mem hk (i:=i) (by omega) hc hni hpre
  have hO:=KK hob i o ho (yM ss (dn listed)) vals w
  simp only[Nat.zero_add]at hO
  have hO':=hO hbd hW (fun j hj=>hA j (hpre j hj))
  have hset:=Jm hs ho
  have hnext: ∀v a' w',(∀vals',vals' i=v→(∀j,j≠i→vals' j=vals j)→(if ss.contains i then W (yM ss (dn listed)+2^ss.idxOf i) vals' w' else W (yM ss (dn listed)) vals w')∧A i vals')→Sim n (Zr (mixed ops (dn listed) vals σ) o.dst v) a'→
   wpAny P .any ops.toArray (fun e a' w'=> ∃σ'',Sim n σ'' a'∧Q e σ'' w') fuel (listed.setIfInBounds i true) a' w':=by
   intro v a' w' hn hs'
   rw[XO hf ho hni v]at hs'
   obtain⟨hWn,hAn⟩:=hn (fun j=>if j=i then v else vals j) (if_pos rfl) (fun j hj=>if_neg hj)
   refine ih _ a' (fun j=>if j=i then v else vals j) w' (by simpa using hs) ?_ ?_ ?_ ?_ ?_ ?_
   ·intro j hj j' hj'
    rw[hset]at hj⊢
    simp only[Bool.or_eq_true,beq_iff_eq]at hj⊢
    rcases hj with hj|rfl
    ·exact .inl (hc j hj j' hj')
    ·exact .inl (hpre j' hj')
   ·intro j hj
    rw[hset]at hj
    simp only[Bool.or_eq_true,beq_iff_eq]at hj
    rcases hj with hj|rfl
    ·exact hlt j hj
    ·exact hilen
   ·rw[hset,WQ hni,if_pos hilen];omega
   ·rw[hset];exact hs'
   ·rw[hset]
    by_cases hm:i∈ss
    ·rw[if_pos (List.contains_iff_mem.2 hm)]at hWn
     rw[QB hnd hm hni]
     exact hWn
    ·rw[if_neg (fun h=>hm (List.contains_iff_mem.1 h))]at hWn
     rw[Wk hm]
     exact hloc _ _ _ _ (fun s hs=>if_neg (fun e:s=i=>hm (e▸hs))) hWn
   ·intro j hj
    rw[hset]at hj
    simp only[Bool.or_eq_true,beq_iff_eq]at hj
    by_cases hji:j=i
    ·subst hji;exact hAn
    ·rcases hj with hj|hj
     ·refine hlocA j vals _ (fun q hq=>if_neg (fun e:q=i=>?_)) (hA j hj)
      subst e
      rcases hq with hq|hq
      ·exact hji hq.symm
      ·have:=hc j hj q hq;rw[hni]at this;cases this
     ·exact(hji hj).elim
  unfold wpOp
  simp only[List.getElem?_toArray,ho]
  rw[hsim.yielded,Yn (σ:=Xa ops (pre.getD i []) σ vals) hv]
  split
  ·rename_i hw
   rw[if_pos hw]at hO'
   refine .inl (UB hsim (K:=fun σ'' w'=> ∃v,(∀vals',vals' i=v→(∀j,j≠i→vals' j=vals j)→(if ss.contains i then W (yM ss (dn listed)+2^ss.idxOf i) vals' w' else W (yM ss (dn listed)) vals w')∧A i vals')∧σ''=Zr (mixed ops (dn listed) vals σ) o.dst v) ?_ hdst ?_)
   ·rintro a' σ'' w' hs' ⟨v,h1,rfl⟩
    exact hnext v a' w' h1 hs'
   ·unfold opP
    rw[WA (hf.sel i o ho) hv]
    refine Vo (fun v w' h=>⟨v,fun vals' h1 h2=>?_,rfl⟩) hO'
    obtain⟨h3,h4⟩:=h vals' h1 h2
    refine⟨?_,h4⟩
    split
    ·rename_i hm;rw[if_pos hm]at h3;exact h3
    ·rename_i hm;rw[if_neg hm]at h3;subst h3;exact hW
  ·rename_i hw
   rw[if_neg hw]at hO'
   refine hnext undef _ w (fun vals' h1 h2=>?_) (hsim.put hdst undef)
   obtain⟨h3,h4⟩:=hO' vals' h1 h2
   refine⟨?_,h4⟩
   split
   ·rename_i hm;rw[if_pos hm]at h3;exact h3
   ·exact hW
theorem JP {id:Nat}(W:Nat→(Nat→Value)→World→Prop)(A:Nat→(Nat→Value)→Prop)(pre:List (List Nat))(ss:List Nat)(sees:List (List Nat))(hm:P.follows .mixedOrders=true)(hd:yQ n ops=true)(hok:drawOk ops pre ops.length=true)
 (hkl:sees.length=ops.length) (hk:maskOk pre ss sees=true) (hsl:(ss.all fun s=>Nat.blt s ops.length)=true) (hnd:ss.Nodup)
 (hW: ∀w0:World,w0.heap=w.heap→w0.os=w.os→w0.tape=w.tape→w0.output=w.output∧w.drawn≤w0.drawn→ ∀vals,W 0 vals w0)
 (hloc: ∀k vals vals' w,(∀s∈ss,vals' s=vals s)→W k vals w→W k vals' w)
 (hlocA: ∀i vals vals',(∀j,j=i∨j∈pre.getD i []→vals' j=vals j)→A i vals→A i vals')
 (hob:Vn P ops pre ss sees W A σ 0 ops)
 (hfin: ∀vals w',W (2^ss.length-1) vals w'→(∀j,j<ops.length→A j vals)→WPs P ops.toArray (Q .normal) [] (behind ops vals σ ops.length) w'):
 WP P n (.region id ops.toArray true) Q σ w:=by
 intro a hs
 have hf:=drawOk.fit hok
 have hz:dn (Array.replicate ops.toArray.size false)=fun _=>false:=by
  funext i
  simp[dn,Array.getElem?_replicate]
  split<;>rfl
 refine wp_region_any hm ?_
 refine zbp (ss:=ss) (vals:=fun _=>undef) hf hd hkl hk (fun s hs=>by
  have:=(List.all_eq_true.1 hsl) s hs;simpa[Nat.blt_eq]using this) hnd hloc hlocA hob hfin _ _ a _ (by simp) ?_ ?_ ?_ ?_ ?_ ?_
 ·intro i hi;rw[hz]at hi;cases hi
 ·intro i hi;rw[hz]at hi;cases hi
 ·simp
 ·have:mixed ops (dn (Array.replicate ops.toArray.size false)) (fun _=>undef) σ=σ:=by
   funext t
   exact xp fun j _=>by rw[hz]
  rw[this];exact hs
 ·have:yM ss (dn (Array.replicate ops.toArray.size false))=0:=XJ fun s _=>by rw[hz]
  rw[this];exact hW {w with drawn:=w.drawn+1} rfl rfl rfl ⟨rfl,Nat.le_succ _⟩ _
 ·intro i hi;rw[hz]at hi;cases hi
end
theorem WD6 {P:Program}{n:Nat}{Q:xZ}{σ:Env}{w W0:World}{G0:Nat→Prop}{As:List HP}{ops:List Oper}{id:Nat}(W:Nat→(Nat→Value)→World→Prop)(A:Nat→(Nat→Value)→Prop)(pre:List (List Nat))(ss:List Nat)(sees:List (List Nat))(hS:Sep G0 W0 As w)
 (hob:Vn P ops pre ss sees W A σ 0 ops)
 (hfin: ∀vals w',W (2^ss.length-1) vals w'→(∀j,j<ops.length→A j vals)→WPs P ops.toArray (Q .normal) [] (behind ops vals σ ops.length) w')
 (hlocA: ∀i vals vals',(∀j,j=i∨j∈pre.getD i []→vals' j=vals j)→A i vals→A i vals':=by exact xb (by repeat first|exact trivial|refine⟨dA,?_⟩|refine⟨dT,?_⟩))
 (hm:P.follows .mixedOrders=true:=by kernel_rfl) (hd:yQ n ops=true:=by kernel_rfl) (hok:drawOk ops pre ops.length=true:=by kernel_rfl) (hkl:sees.length=ops.length:=by rfl) (hk:maskOk pre ss sees=true:=by kernel_rfl) (hsl:(ss.all fun s=>Nat.blt s ops.length)=true:=by kernel_rfl) (hnd:ss.Nodup:=by decide)
 (h0: ∀vals w,Sep G0 W0 As w→W 0 vals w:=by exact fun _ _ h=>h)
 (hloc: ∀k vals vals' w,(∀s∈ss,vals' s=vals s)→W k vals w→W k vals' w:=by
  intro k vals u w H h
  try simp only[List.mem_cons,List.not_mem_nil,forall_eq_or_imp,or_false,forall_eq]at H
  rcases k with _|_|_|_|_|_|_|_|_|_|_|_|_|_|_|_|_|_|_|_|_|_|_|_|_|_|_|_|_|_|_|_|_|_
  all_goals first|exact h|exact trivial|(simp only[WF,List.getElem?_cons_zero,List.getElem?_cons_succ,H]at h⊢;exact h)):
 WP P n (.region id ops.toArray true) Q σ w:=JP W A pre ss sees hm hd hok hkl hk hsl hnd (fun _ h1 h2 h3 h4 _=>h0 _ _ (hS.same h1 h2 h3 h4)) hloc hlocA hob hfin
end
section
set_option maxRecDepth 8000
set_option maxHeartbeats 4000000
open Go.Proofs Go.RowKit
theorem Wl (a b c d:Int):(decide (a=c∧b=d))=(a== c&&b== d):=by
 by_cases h1:a=c<;>by_cases h2:b=d<;>simp[h1,h2]
theorem ck3 (w:World)(e:Bool)(n:Nat)(a:Int):(Instr.checkKey e (n+1) 3 (.int .i64 a)).run Tryz.prog w=.ok () w:=MapKept.run_checkKey Tryz.underlying3 (show MapKept.IsKey (.int .i64) (.int .i64 a)from rfl) e n
def yR (k:Int×Int):Value:=.agg #[.int .i64 k.1,.int .i64 k.2]
def xO (k:Int×Int×Int):Value:=.agg #[.int .i64 k.1,.int .i64 k.2.1,.int .i64 k.2.2]
theorem K2:KLaw Tryz.prog 85 yR where
 inj:=by
  rintro⟨a,b⟩ ⟨c,d⟩ h
  simp only[yR,Value.agg.injEq,Array.mk.injEq,List.cons.injEq,Value.int.injEq,true_and,and_true]at h
  rw[h.1,h.2]
 desc:=⟨_,Tryz.underlying85,fun _ _=>rfl⟩
 check:=by
  intro w e k
  show(Instr.checkKey e 10000 85 (.agg #[.int .i64 k.1,.int .i64 k.2])).run Tryz.prog w=.ok () w
  rw[show(10000:Nat)=9998+1+1 from rfl,Instr.checkKey]
  simp[go_sem,ck3]
 eql:=by
  rintro w ⟨a,b⟩ ⟨c,d⟩
  rw[show decide ((a,b)=(c,d))=(a== c&&b== d) by rw[←Wl];simp]
  unfold Op.equal Op.maxDepth yR
  simp[go_sem]
  by_cases h1:a=c<;>by_cases h2:b=d<;>simp[h1,h2]
 stays:=by intro k;simp[Instr.sameBits,yR]
theorem K3:KLaw Tryz.prog 131 xO where
 inj:=by
  rintro⟨a,b,c⟩ ⟨d,e,f⟩ h
  simp only[xO,Value.agg.injEq,Array.mk.injEq,List.cons.injEq,Value.int.injEq,true_and,and_true]at h
  rw[h.1,h.2.1,h.2.2]
 desc:=⟨_,Tryz.underlying131,fun _ _=>rfl⟩
 check:=by
  intro w e k
  show(Instr.checkKey e 10000 131 (.agg #[.int .i64 k.1,.int .i64 k.2.1,.int .i64 k.2.2])).run Tryz.prog w=.ok () w
  rw[show(10000:Nat)=9997+1+1+1 from rfl,Instr.checkKey]
  simp[go_sem,ck3]
  rw[Instr.checkKey]
  simp[go_sem,ck3]
 eql:=by
  rintro w ⟨a,b,c⟩ ⟨d,e,f⟩
  rw[show decide ((a,b,c)=(d,e,f))=(a== d&&b== e&&c== f) by by_cases h1:a=d<;>by_cases h2:b=e<;>by_cases h3:c=f<;>simp[h1,h2,h3]]
  unfold Op.equal Op.maxDepth xO
  simp[go_sem]
  by_cases h1:a=d<;>by_cases h2:b=e<;>by_cases h3:c=f<;>simp[h1,h2,h3]
 stays:=by intro k;simp[Instr.sameBits,xO]
def E1 (v:Value)(x:Nat×List Cel):HP:=⟨fun w f=> ∃vc,v=.agg #[.int .i64 ((x.1:Nat):Int),vc]∧(RowE (α:=Cel) own 99 vc x.2).p w f,fun h hf=>by
 obtain⟨vc,h1,h2⟩:=h
 exact⟨vc,h1,HP.loc _ h2 hf⟩⟩
def E2 (v:Value)(l:List Ev):HP:=RowE (α:=Ev) own 41 v l
def VV:Value:=.agg #[.int .i64 0,.slice none 0 0]
def ViewO (b:Nat)(d:Dcl)(L M:List Ent):HP:=Ex1 fun vt=>Ex1 fun vp=>Ex1 fun ve=>Ex1 fun m1=>Ex1 fun m2=>Star [Blk b #[vt,vp,ve,.map (some m1),.map (some m2)] 83,RowE (α:=Typ) own 53 vt d.types,RowE (α:=Prj) own 115 vp d.projs,RowE (α:=Ent) own 57 ve L,MapO yR E1 m1 (zn d M),MapO xO E2 m2 (yC M)]
section
variable {G:Nat→Prop}{W w:World}{As:List HP}{b:Nat}{d:Dcl}{L M:List Ent}
theorem ViewO.open (h:Sep G W (ViewO b d L M::As) w): ∃vt vp ve m1 m2,Sep G W (Blk b #[vt,vp,ve,.map (some m1),.map (some m2)] 83::RowE (α:=Typ) own 53 vt d.types::RowE (α:=Prj) own 115 vp d.projs::RowE (α:=Ent) own 57 ve L::MapO yR E1 m1 (zn d M)::MapO xO E2 m2 (yC M)::As) w:=by
 obtain⟨vt,h⟩:=h.openEx
 obtain⟨vp,h⟩:=h.openEx
 obtain⟨ve,h⟩:=h.openEx
 obtain⟨m1,h⟩:=h.openEx
 obtain⟨m2,h⟩:=h.openEx
 exact⟨vt,vp,ve,m1,m2,h.openStar⟩
theorem ViewO.close {vt vp ve:Value}{m1 m2:Nat}(h:Sep G W (Blk b #[vt,vp,ve,.map (some m1),.map (some m2)] 83::RowE (α:=Typ) own 53 vt d.types::RowE (α:=Prj) own 115 vp d.projs::RowE (α:=Ent) own 57 ve L::MapO yR E1 m1 (zn d M)::MapO xO E2 m2 (yC M)::As) w):Sep G W (ViewO b d L M::As) w:=by
 have h:=Sep.closeStar (Bs:=[Blk b #[vt,vp,ve,.map (some m1),.map (some m2)] 83,RowE (α:=Typ) own 53 vt d.types,RowE (α:=Prj) own 115 vp d.projs,RowE (α:=Ent) own 57 ve L,MapO yR E1 m1 (zn d M),MapO xO E2 m2 (yC M)]) h
 exact Sep.closeEx (A:=fun vt=>Ex1 fun vp=>Ex1 fun ve=>Ex1 fun m1=>Ex1 fun m2=>Star [Blk b #[vt,vp,ve,.map (some m1),.map (some m2)] 83,RowE (α:=Typ) own 53 vt d.types,RowE (α:=Prj) own 115 vp d.projs,RowE (α:=Ent) own 57 ve L,MapO yR E1 m1 (zn d M),MapO xO E2 m2 (yC M)]) vt (Sep.closeEx (A:=fun vp=>Ex1 fun ve=>Ex1 fun m1=>Ex1 fun m2=>Star [Blk b #[vt,vp,ve,.map (some m1),.map (some m2)] 83,RowE (α:=Typ) own 53 vt d.types,RowE (α:=Prj) own 115 vp d.projs,RowE (α:=Ent) own 57 ve L,MapO yR E1 m1 (zn d M),MapO xO E2 m2 (yC M)]) vp (Sep.closeEx (A:=fun ve=>Ex1 fun m1=>Ex1 fun m2=>Star [Blk b #[vt,vp,ve,.map (some m1),.map (some m2)] 83,RowE (α:=Typ) own 53 vt d.types,RowE (α:=Prj) own 115 vp d.projs,RowE (α:=Ent) own 57 ve L,MapO yR E1 m1 (zn d M),MapO xO E2 m2 (yC M)]) ve (Sep.closeEx (A:=fun m1=>Ex1 fun m2=>Star [Blk b #[vt,vp,ve,.map (some m1),.map (some m2)] 83,RowE (α:=Typ) own 53 vt d.types,RowE (α:=Prj) own 115 vp d.projs,RowE (α:=Ent) own 57 ve L,MapO yR E1 m1 (zn d M),MapO xO E2 m2 (yC M)]) m1 (Sep.closeEx (A:=fun m2=>Star [Blk b #[vt,vp,ve,.map (some m1),.map (some m2)] 83,RowE (α:=Typ) own 53 vt d.types,RowE (α:=Prj) own 115 vp d.projs,RowE (α:=Ent) own 57 ve L,MapO yR E1 m1 (zn d M),MapO xO E2 m2 (yC M)]) m2 h))))
theorem KS {v:Value}{k:Int×Int×Int}(h:Sep G W (YJ E2 v (yC M k)::As) w)(hv:yC M k=none→v=.slice none 0 0):Sep G W (RowE (α:=Ev) own 41 v (yf k M)::As) w:=by
 refine h.impl (i:=0) rfl (fun f hA=>?_)
 unfold yC at hA hv
 split at hA
 ·rename_i he
  rw[if_pos he]at hv
  rw[hv rfl,List.isEmpty_iff.1 he]
  exact RowE.nil _ _ _ _
 ·exact hA
theorem Wf {v:Value}{k:Int×Int×Int}(h:Sep G W (RowE (α:=Ev) own 41 v (yf k M)::As) w):Sep G W (YJ E2 v (yC M k)::As) w:=by
 refine h.impl (i:=0) rfl (fun f hA=>?_)
 unfold yC
 split
 ·exact trivial
 ·exact hA
def stL (d:Dcl)(k:Int×Int)(M:List Ent):List Cel:=if yd k M=0 then[]else zQ d k M
theorem Wu {v:Value}{k:Int×Int}(h:Sep G W (YJ E1 v (zn d M k)::As) w)(hv:zn d M k=none→v=VV): ∃vc,v=.agg #[.int .i64 ((yd k M:Nat):Int),vc]∧Sep G W (RowE (α:=Cel) own 99 vc (stL d k M)::As) w:=by
 unfold zn at h hv
 unfold stL
 by_cases he:yd k M=0
 ·rw[if_pos he]at hv h
  rw[if_pos he]
  refine⟨.slice none 0 0,by rw[hv rfl,he];rfl,h.impl (i:=0) rfl (fun f _=>RowE.nil _ _ _ _)⟩
 ·rw[if_neg he]at h
  rw[if_neg he]
  obtain⟨f,⟨vc,h1,h2⟩,_⟩:=h.get (i:=0) rfl
  refine⟨vc,h1,h.impl (i:=0) rfl (fun f hA=>?_)⟩
  obtain⟨vc',h3,h4⟩:=hA
  rw[h1]at h3
  simp only[Value.agg.injEq,Array.mk.injEq,List.cons.injEq,and_true,true_and]at h3
  rw[h3]
  exact h4
theorem UA {vc:Value}{k:Int×Int}(h:Sep G W (RowE (α:=Cel) own 99 vc (stL d k M)::As) w):Sep G W (YJ E1 (.agg #[.int .i64 ((yd k M:Nat):Int),vc]) (zn d M k)::As) w:=by
 refine h.impl (i:=0) rfl (fun f hA=>?_)
 unfold zn
 unfold stL at hA
 by_cases he:yd k M=0
 ·rw[if_pos he];exact trivial
 ·rw[if_neg he]at hA⊢;exact⟨vc,rfl,hA⟩
theorem QA {vc:Value}{n:Nat}{c:List Cel}(h:Sep G W (RowE (α:=Cel) own 99 vc c::As) w):Sep G W (E1 (.agg #[.int .i64 ((n:Nat):Int),vc]) (n,c)::As) w:=h.impl (i:=0) rfl (fun f hA=>⟨vc,rfl,hA⟩)
end
end
section
set_option maxRecDepth 8000
set_option maxHeartbeats 4000000
open Go.Proofs Go.RowKit
theorem WK {G:Nat→Prop}{W w:World}{Rs:List HP}{vv:Value}{v:List Int}(hv:RdS W G vv v){o:Int}(ho:InR o)(hS0:Sep G W Rs w):Ret Tryz.prog 53 [vv,.int .i64 (o)] w (fun r w'=>r=(.int .i64 (yt v o):Value)∧(InR (yt v o))∧Sep G W Rs w'):=by
 have hvs:_*8≤_:=hv.small
 refine zi (args:=[vv,Iv o]) Tryz.func53 rfl rfl ?_
 refine za (R0 fun _=>st (aS (Iv 0) (zd (za (za (zz kr (st (mV (Iv o) (st (zJ (k:=.i64) (a:=o) (b:=0) rfl rfl (st (mV (.bool (decide (o<0))) (stc (V:=Iv o) rfl rfl (fun l=>?_) ?_)))))))))))))
 have hl2:=fD l
 exact mV (Iv o) ⟨rfl,rfl⟩
 refine stc (V:=vv) rfl rfl (fun m=>?_) ?_
 have hl4:=fD m
 exact mV vv ⟨rfl,rfl⟩
 refine stc (V:=Iw v.length) rfl rfl (fun g=>?_) ?_
 have hl6:=fD g
 exact zR (n:=v.length) tY (if_pos g) hv.sl ⟨rfl,rfl⟩
 refine stc (V:=.bool (decide (((v.length:Nat):Int)≤o))) rfl rfl (fun c=>?_) ?_
 have hl8:=fD c
 exact xv (k:=.i64) (a:=o) (b:=((v.length:Nat):Int)) (if_pos c) (if_pos c) ⟨rfl,rfl⟩
 refine st (zp (b:=decide (o<0)) (b':=decide (((v.length:Nat):Int)≤o)) rfl (fun hbp=>(if_pos hbp)) (zd ?_))
 cases h:(decide (o<0))||(decide (((v.length:Nat):Int)≤o))
 try simp only[ze]at h
 refine zg rfl (zl (za (R0 fun _=>st (mV vv (st (mV (Iv o) ?_))))))
 have hi10:o.toNat<v.length:=bo
 refine st (zA (k:=1) (i:=o) tY Tryz.sizeOf3 rfl hv.sl rfl ⟨by omega,by omega⟩ ?_)
 have d:o.toNat<v.length:=bo
 obtain⟨e,hxe11⟩:=hv.intD d
 have f:=hS0.cells e (hv.foot (ne_of_lt d))
 refine st (lD (Iv ((v.getD o.toNat 0))) kT rfl (f.get (j:=0) rfl) (st (YE (k:=.i64) (a:=(v.getD o.toNat 0)) (b:=0) rfl rfl (st (aS (Iv (max (v.getD o.toNat 0) 0)) (zd (zj (zK uY (show _=(Iv (max (v.getD o.toNat 0) 0):Value)from rfl) ?_))))))))
 refine⟨?_,?_,hS0⟩
 unfold yt;rw[if_neg (by omega)]
 unfold yt;rw[if_neg (by omega)];omega
 try simp only[ze]at h
 refine zh rfl (za (R0 fun _=>st (aS (Iv 0) (zd (zj (zK uY (show _=(Iv 0:Value)from rfl) ?_))))))
 refine⟨?_,?_,hS0⟩
 unfold yt;rw[if_pos (by omega)]
 unfold yt;rw[if_pos (by omega)];omega
theorem Vw {G:Nat→Prop}{W w:World}{Rs:List HP}{a:Ev}{da0:Value}(hda0:RdS W G da0 a.deps)(oa:a.Ok){b:Ev}{db0:Value}(hdb0:RdS W G db0 b.deps)(ob:b.Ok)(hS0:Sep G W Rs w):Ret Tryz.prog 100 [.agg (a.cells da0).toArray,.agg (b.cells db0).toArray] w (fun r w'=>r=(.bool ((YL a b)):Value)∧Sep G W Rs w'):=by
 have hda0s:_*8≤_:=hda0.small
 have hdb0s:_*8≤_:=hdb0.small
 refine zi (args:=[.agg (a.cells da0).toArray,.agg (b.cells db0).toArray]) Tryz.func100 rfl rfl ?_
 refine za (R0 fun _=>st (zN (v:=.agg (a.cells da0).toArray) rfl ?_))
 intro w3 b2 L
 refine st (zN (v:=.agg (b.cells db0).toArray) rfl ?_)
 intro w7 D M
 refine st (aS (.bool false) (zd (za ?_)))
 refine WD4 ((fun TT C=>WF [fun vals E=>Sep G W (C::TT) E,fun vals E=>(vals 5=(Iv (yt b.deps a.origin):Value))∧(InR (yt b.deps a.origin))∧Sep G W (C::TT) E]) ((Blk b2 (a.cells da0).toArray 41)::Rs) (Blk D (b.cells db0).toArray 41)) (AF [Vl 0 (Ix D 3),Vl 1 (db0),Vl 2 (Ix b2 0),Vl 3 (Ix b2 0),Vl 4 (Iv (a.origin)),fun _=>True,Vl 6 (Ix b2 0),Vl 7 (Ix b2 1),Vl 8 (Iv (a.seq)),Vl 9 (.bool (decide (a.seq≤(yt b.deps a.origin)))),Vl 10 (.bool (decide (a.seq≤(yt b.deps a.origin))))]) [[],[0],[],[2],[2,3],(rg 5),[],[6],[6,7],(rg 9),(rg 10)] [5] [(0,0),(0,0),(0,0),(0,0),(0,0),(0,0),(0,1),(0,1),(0,1),(1,1),(1,1)] ((hS0.new L).new M) ⟨fun _ _ _ _ _ _ _=>obl rfl (xf rfl dR),ob1 0 fun _ _ (j:Sep _ _ _ _) l=>obl rfl (lD db0 kY (l 0 dc) (zb (j.b0) rfl) dR),fun _ _ _ _ _ _ _=>obl rfl (yD rfl dR),fun _ _ _ _ _ _ m=>obl rfl (xD (m 2 dc) dR),ob1 0 fun _ _ (n:Sep _ _ _ _) p=>obl rfl (lD (Iv (a.origin)) kT (p 3 dc) (zb (n.b1) rfl) dR),?_,fun _ _ _ _ _ _ _=>obl rfl (yD rfl dR),fun _ _ _ _ _ _ q=>obl rfl (Zz (q 6 dc) dR),?_,?_,fun _ _ _ _ _ _ s=>obl rfl (ya (v:=.bool (decide (a.seq≤(yt b.deps a.origin)))) (s 9 dc) dR),trivial⟩ ?_
 refine ob1 0 fun vals _ (F:Sep _ _ _ _) i=>(obl rfl ((zG (f:=53) (vals:=[db0,Iv (a.origin)]) (cap:=[]) rfl (yK ⟨(i 1 dc),(i 4 dc),trivial⟩) Tryz.call53 (WK (v:=b.deps) (vv:=db0) (o:=a.origin) hdb0 oa.origin F) ?_)))
 rintro _ w54 ⟨rfl,c,H⟩
 exact fun vals' N hv'=>⟨(zv N (zv c H)),trivial⟩
 refine fun d _ _ I J g h=>?_
 have hkk:=xA I J
 rcases hkk with rfl|rfl
 have t:Sep _ _ _ _:=g
 exact obl rfl (lD (Iv (a.seq)) kT (h 7 dc) (zb (t.b1) rfl) dR)
 obtain⟨e,c,u⟩:=g
 exact obl rfl (lD (Iv (a.seq)) kT (h 7 dc) (zb (u.b1) rfl) dR)
 refine ob1 1 fun _ _ x y=>?_
 obtain⟨e,c,hS157⟩:=x
 exact obl rfl (xv (k:=.i64) (a:=yt b.deps a.origin) (b:=a.seq) e (y 8 dc) dR)
 intro vals w166 z A
 obtain⟨e,c,B⟩:=z
 have K:=A 10 dc
 refine zZ (kv:=[(0,.agg (a.cells da0).toArray),(1,.agg (b.cells db0).toArray),(2,Ix b2 0),(3,Ix D 0),(4,.bool (decide (a.seq≤(yt b.deps a.origin))))]) ⟨rfl,rfl,rfl,rfl,(by exact K),trivial⟩ (fun ρw166=>(zd (zj (zK Tryz.results100 (show _=(.bool (decide (a.seq≤(yt b.deps a.origin))):Value)from rfl) ?_))))
 refine⟨rfl,(B.s2_)⟩
theorem eqS38 {x y:Operand}{a0 a1 b0 b1:Int}: ∀w,(do eqGuard .eql 38 x y (.agg #[.int .i64 a0,.int .i64 a1]) (.agg #[.int .i64 b0,.int .i64 b1]);binOp .eql 38 (.agg #[.int .i64 a0,.int .i64 a1]) (.agg #[.int .i64 b0,.int .i64 b1]):Sem Value).run Tryz.prog w=.ok (.bool (decide (a0=b0∧a1=b1))) w:=by
 intro w
 have h: ∀w,(Op.equal 38 (.agg #[.int .i64 a0,.int .i64 a1]) (.agg #[.int .i64 b0,.int .i64 b1])).run Tryz.prog w=.ok (decide (a0=b0∧a1=b1)) w:=by
  intro w
  unfold Op.equal Op.maxDepth;rw[Wl];simp[go_sem];(try(by_cases h1:a0=b0<;>by_cases h2:a1=b1<;>simp[h1,h2]))
 simp[eqGuard,binOp,h,go_sem]
theorem zbv {x y:Operand}{a0 a1 b0 b1:Int}: ∀w,(do eqGuard .neq 38 x y (.agg #[.int .i64 a0,.int .i64 a1]) (.agg #[.int .i64 b0,.int .i64 b1]);binOp .neq 38 (.agg #[.int .i64 a0,.int .i64 a1]) (.agg #[.int .i64 b0,.int .i64 b1]):Sem Value).run Tryz.prog w=.ok (.bool (!decide (a0=b0∧a1=b1))) w:=by
 intro w
 have h: ∀w,(Op.equal 38 (.agg #[.int .i64 a0,.int .i64 a1]) (.agg #[.int .i64 b0,.int .i64 b1])).run Tryz.prog w=.ok (decide (a0=b0∧a1=b1)) w:=by
  intro w
  unfold Op.equal Op.maxDepth;rw[Wl];simp[go_sem];(try(by_cases h1:a0=b0<;>by_cases h2:a1=b1<;>simp[h1,h2]))
 simp[eqGuard,binOp,h,go_sem]
theorem zab {G:Nat→Prop}{W w:World}{Rs:List HP}{a:Ev}{da0:Value}(hda0:RdS W G da0 a.deps)(oa:a.Ok){b:Ev}{db0:Value}(hdb0:RdS W G db0 b.deps)(ob:b.Ok)(hS0:Sep G W Rs w):Ret Tryz.prog 81 [.agg (a.cells da0).toArray,.agg (b.cells db0).toArray] w (fun r w'=>r=(.bool ((ZA a b)):Value)∧Sep G W Rs w'):=by
 have hda0s:_*8≤_:=hda0.small
 have hdb0s:_*8≤_:=hdb0.small
 refine zi (args:=[.agg (a.cells da0).toArray,.agg (b.cells db0).toArray]) Tryz.func81 rfl rfl ?_
 refine za (R0 fun _=>st (zN (v:=.agg (a.cells da0).toArray) rfl ?_))
 intro w3 b2 q
 refine st (zN (v:=.agg (b.cells db0).toArray) rfl ?_)
 intro w7 b6 s
 have f:=(hS0.new q).new s
 refine st (aS (.bool false) (zd (za (zz kr (st (yD rfl (st (zf (k:=2) (cs:=[Iv (a.origin),Iv (a.seq)]) pT nT rfl rfl (CellsAt.sub (CellsAt.all (f.b1)) 0 (cs2:=[Iv (a.origin),Iv (a.seq)]) rfl) (st (yD rfl (st (zf (k:=2) (cs:=[Iv (b.origin),Iv (b.seq)]) pT nT rfl rfl (CellsAt.sub (CellsAt.all (f.b0)) 0 (cs2:=[Iv (b.origin),Iv (b.seq)]) rfl) (st (WV (e:=decide (a.origin=b.origin∧a.seq=b.seq)) (xs:=#[Iv (a.origin),Iv (a.seq)]) (ys:=#[Iv (b.origin),Iv (b.seq)]) zbv rfl rfl (st (mV (.bool (!decide (a.origin=b.origin∧a.seq=b.seq))) (stc (V:=.agg (a.cells da0).toArray) rfl rfl (fun t=>?_) ?_)))))))))))))))))
 have hl10:=zy t
 exact zf (k:=10) oT lT rfl rfl (CellsAt.all (f.b1)) ⟨rfl,rfl⟩
 refine stc (V:=.agg (b.cells db0).toArray) rfl rfl (fun j=>?_) ?_
 have hl12:=zy j
 exact zf (k:=10) oT lT rfl rfl (CellsAt.all (f.b0)) ⟨rfl,rfl⟩
 cases c: !decide (a.origin=b.origin∧a.seq=b.seq)
 have d:=c
 have c:=zu c
 refine stx rfl rfl (stx rfl rfl (st (zU (v:=.bool false) rfl rfl (st (mV (.bool false) (stx rfl rfl (stx rfl rfl (stx rfl rfl (stx rfl rfl (st (zU (v:=.bool false) rfl rfl (st (aS (.bool false) (zd (zj (zK lY (show _=(.bool false:Value)from rfl) ?_))))))))))))))))
 refine⟨?_,(f.s2_)⟩
 unfold ZA
 first|rfl|simp only[d,Bool.not_true,Bool.not_false,Bool.false_and,Bool.true_and,Bool.and_false]
 have d:=c
 have c:=zy c
 refine sty rfl rfl (cL vY (Vw (a:=a) (b:=b) hda0 oa hdb0 ob f) ?_)
 rintro _ w15 ⟨rfl,g⟩
 refine sty rfl rfl (yF (a:=(YL a b)) rfl (st (yj (v:=.bool (!(YL a b))) rfl rfl (st (mV (.bool (!(YL a b))) (stc (V:=.agg (b.cells db0).toArray) rfl rfl (fun l=>?_) ?_))))))
 have m:=l
 try simp only[ze]at m
 exact zf (k:=10) oT lT rfl rfl (CellsAt.all (g.b0)) ⟨rfl,rfl⟩
 refine stc (V:=.agg (a.cells da0).toArray) rfl rfl (fun n=>?_) ?_
 have o:=n
 try simp only[ze]at o
 exact zf (k:=10) oT lT rfl rfl (CellsAt.all (g.b1)) ⟨rfl,rfl⟩
 cases h: !(YL a b)
 have i:=h
 try simp only[ze]at h
 refine stx rfl rfl (stx rfl rfl (st (zU (v:=.bool false) rfl rfl (st (aS (.bool false) (zd (zj (zK lY (show _=(.bool false:Value)from rfl) ?_))))))))
 refine⟨?_,(g.s2_)⟩
 unfold ZA
 first|rfl|simp only[d,i,Bool.not_true,Bool.not_false,Bool.false_and,Bool.true_and,Bool.and_false]
 have i:=h
 try simp only[ze]at h
 refine sty rfl rfl (cL vY (Vw (a:=b) (b:=a) hdb0 ob hda0 oa g) ?_)
 rintro _ w23 ⟨rfl,p⟩
 refine sty rfl rfl (yF (a:=(YL b a)) rfl (st (yj (v:=.bool (!(YL b a))) rfl rfl (st (aS (.bool (!(YL b a))) (zd (zj (zK lY (show _=(.bool (!(YL b a)):Value)from rfl) ?_))))))))
 refine⟨?_,(p.s2_)⟩
 unfold ZA
 first|rfl|simp only[d,i,Bool.not_true,Bool.not_false,Bool.false_and,Bool.true_and,Bool.and_false]
theorem Va {x y:Operand}{a0 a1 b0 b1:Int}: ∀w,(do eqGuard .eql 166 x y (.agg #[.int .i64 a0,.int .i64 a1]) (.agg #[.int .i64 b0,.int .i64 b1]);binOp .eql 166 (.agg #[.int .i64 a0,.int .i64 a1]) (.agg #[.int .i64 b0,.int .i64 b1]):Sem Value).run Tryz.prog w=.ok (.bool (decide (a0=b0∧a1=b1))) w:=by
 intro w
 have h: ∀w,(Op.equal 166 (.agg #[.int .i64 a0,.int .i64 a1]) (.agg #[.int .i64 b0,.int .i64 b1])).run Tryz.prog w=.ok (decide (a0=b0∧a1=b1)) w:=by
  intro w
  unfold Op.equal Op.maxDepth;rw[Wl];simp[go_sem];(try(by_cases h1:a0=b0<;>by_cases h2:a1=b1<;>simp[h1,h2]))
 simp[eqGuard,binOp,h,go_sem]
theorem US {x y:Operand}{a0 a1 b0 b1:Int}: ∀w,(do eqGuard .neq 166 x y (.agg #[.int .i64 a0,.int .i64 a1]) (.agg #[.int .i64 b0,.int .i64 b1]);binOp .neq 166 (.agg #[.int .i64 a0,.int .i64 a1]) (.agg #[.int .i64 b0,.int .i64 b1]):Sem Value).run Tryz.prog w=.ok (.bool (!decide (a0=b0∧a1=b1))) w:=by
 intro w
 have h: ∀w,(Op.equal 166 (.agg #[.int .i64 a0,.int .i64 a1]) (.agg #[.int .i64 b0,.int .i64 b1])).run Tryz.prog w=.ok (decide (a0=b0∧a1=b1)) w:=by
  intro w
  unfold Op.equal Op.maxDepth;rw[Wl];simp[go_sem];(try(by_cases h1:a0=b0<;>by_cases h2:a1=b1<;>simp[h1,h2]))
 simp[eqGuard,binOp,h,go_sem]
theorem QW {G:Nat→Prop}{W w:World}{Rs:List HP}{f:Fld}{df0:Value}(hdf0:RdS W G df0 f.moves)(of:f.Ok){oA:Int}(hoA:InR oA){aA:Int}(haA:InR aA){oB:Int}(hoB:InR oB){aB:Int}(haB:InR aB)(hS0:Sep G W Rs w):Ret Tryz.prog 80 [.agg (f.cells df0).toArray,.int .i64 (oA),.int .i64 (aA),.int .i64 (oB),.int .i64 (aB)] w (fun r w'=>r=(.bool ((WM f.kind oA aA oB aB)):Value)∧Sep G W Rs w'):=by
 have hdf0s:_*32≤_:=hdf0.small
 refine zi (args:=[.agg (f.cells df0).toArray,Iv oA,Iv aA,Iv oB,Iv aB]) Tryz.func80 rfl rfl ?_
 refine za (R0 fun _=>st (zN (v:=.agg (f.cells df0).toArray) rfl ?_))
 intro w3 b2 ak
 refine st (aS (.bool false) (zd (za (yx (by kernel_rfl) (fun _=>(st (mV (Iv oA) (st (mV (Iv aA) (st (zP (parts':=[(0,Iv oA),(1,Iv aA)]) (v:=.agg #[Iv oA,Iv aA]) rfl (by simp+zetaDelta [Instr.build,Instr.fill,Ev.cells,go_sem,Mv.cells,Fld.cells,Typ.cells,Prj.cells,Dcl.cells,Cel.cells,AskR.cells,CelS.cells,Ev.cells,Ent.cells,Sta.cells]) (st (mV (Iv oB) (st (mV (Iv aB) (st (zP (parts':=[(0,Iv oB),(1,Iv aB)]) (v:=.agg #[Iv oB,Iv aB]) rfl (by simp+zetaDelta [Instr.build,Instr.fill,Ev.cells,go_sem,Mv.cells,Fld.cells,Typ.cells,Prj.cells,Dcl.cells,Cel.cells,AskR.cells,CelS.cells,Ev.cells,Ent.cells,Sta.cells]) (st (zt wY ?_)))))))))))))))))))
 intro w7 b6 al
 refine st (zt wY ?_)
 intro w11 E am
 have q:=((hS0.new ak).new al).new am
 refine stn (zq (v:=.agg #[Iv oA,Iv aA]) (c':=#[Iv oA,Iv aA]) qT rfl rfl (q.b1) (ye ⟨rfl,rfl,trivial⟩) yqc rfl ?_)
 intro w13 F
 have s:=q.pt1 F
 refine stn (zq (v:=.agg #[Iv oB,Iv aB]) (c':=#[Iv oB,Iv aB]) qT rfl rfl (s.b0) (ye ⟨rfl,rfl,trivial⟩) yqc rfl ?_)
 intro w16 H
 have c:=s.pt0 H
 refine zd (za (za (R0 fun _=>st (xF rfl (st (lD (Iv (f.kind)) kT rfl (zb (c.b2) rfl) (zd (zx (za (R0 fun _=>st (yc (k:=.i64) (a:=f.kind) (b:=2) rfl rfl (st (aS (.bool (decide (f.kind=2))) (zd ?_))))))))))))))
 cases g:decide (f.kind=2)
 have hc19r:=g
 have g:=fD g
 refine zg rfl (za (R0 fun _=>st (yc (k:=.i64) (a:=f.kind) (b:=4) rfl rfl (st (aS (.bool (decide (f.kind=4))) (zd ?_))))))
 cases h:decide (f.kind=4)
 have hc20r:=h
 have h:=fD h
 refine zg rfl (za (R0 fun _=>st (yc (k:=.i64) (a:=f.kind) (b:=3) rfl rfl (st (aS (.bool (decide (f.kind=3))) (zd ?_))))))
 cases i:decide (f.kind=3)
 have hc21r:=i
 have i:=fD i
 refine zg rfl (zl (za (R0 fun _=>st (aS (.bool false) (zd (zj (zK mR (show _=(.bool false:Value)from rfl) ?_)))))))
 refine⟨?_,(c.s3_)⟩
 unfold WM
 (first|rw[if_pos (by omega)]|rw[if_neg (by omega),if_pos (by omega)]|rw[if_neg (by omega),if_neg (by omega),if_pos (by omega)]|rw[if_neg (by omega),if_neg (by omega),if_neg (by omega)])<;>(first|rfl|simp_all)
 have i:=tD i
 refine zh rfl (za (zz (by kernel_rfl) (st (zf (k:=2) rT qT rfl rfl (CellsAt.all (c.b1)) (st (mV (Iv aB) (st (zP (parts':=[(0,Iv 3),(1,Iv aB)]) (v:=.agg #[Iv 3,Iv aB]) rfl (by simp+zetaDelta [Instr.build,Instr.fill,Ev.cells,go_sem,Mv.cells,Fld.cells,Typ.cells,Prj.cells,Dcl.cells,Cel.cells,AskR.cells,CelS.cells,Ev.cells,Ent.cells,Sta.cells]) (st (Ys (e:=decide (oA=3∧aA=aB)) (xs:=#[Iv oA,Iv aA]) (ys:=#[Iv 3,Iv aB]) Va rfl rfl (st (mV (.bool (decide (oA=3∧aA=aB))) (stc (V:=.agg #[Iv oB,Iv aB]) rfl rfl (fun I=>?_) ?_)))))))))))))
 have hl24:=tD I
 exact zf (k:=2) rT qT rfl rfl (CellsAt.all (c.b0)) ⟨rfl,rfl⟩
 refine stc (V:=Iv aA) rfl rfl (fun J=>?_) ?_
 have hl26:=tD J
 exact mV (Iv aA) ⟨rfl,rfl⟩
 refine stc (V:=.agg #[Iv 4,Iv aA]) rfl rfl (fun t=>?_) ?_
 have hl28:=tD t
 exact zP (parts':=[(0,Iv 4),(1,Iv aA)]) (v:=.agg #[Iv 4,Iv aA]) (ZE ⟨rfl,rfl,rfl,(if_pos t),trivial⟩) (by simp+zetaDelta [Instr.build,Instr.fill,Ev.cells,go_sem,Mv.cells,Fld.cells,Typ.cells,Prj.cells,Dcl.cells,Cel.cells,AskR.cells,CelS.cells,Ev.cells,Ent.cells,Sta.cells]) ⟨rfl,rfl⟩
 refine stc (V:=.bool (decide (oB=4∧aB=aA))) rfl rfl (fun l=>?_) ?_
 have hl30:=tD l
 exact Ys (e:=decide (oB=4∧aB=aA)) (xs:=#[Iv oB,Iv aB]) (ys:=#[Iv 4,Iv aA]) Va (if_pos l) (if_pos l) ⟨rfl,rfl⟩
 refine st (zC (b:=decide (oA=3∧aA=aB)) (b':=decide (oB=4∧aB=aA)) rfl (fun hbp=>(if_pos hbp)) (st (mV (.bool ((decide (oA=3∧aA=aB))&&(decide (oB=4∧aB=aA)))) (stc (V:=.agg #[Iv oA,Iv aA]) rfl rfl (fun K=>?_) ?_))))
 have L:=K
 try simp only[ze]at L
 exact zf (k:=2) rT qT rfl rfl (CellsAt.all (c.b1)) ⟨rfl,rfl⟩
 refine stc (V:=Iv aB) rfl rfl (fun M=>?_) ?_
 have N:=M
 try simp only[ze]at N
 exact mV (Iv aB) ⟨rfl,rfl⟩
 refine stc (V:=.agg #[Iv 4,Iv aB]) rfl rfl (fun u=>?_) ?_
 have O:=u
 try simp only[ze]at O
 exact zP (parts':=[(0,Iv 4),(1,Iv aB)]) (v:=.agg #[Iv 4,Iv aB]) (ZE ⟨rfl,rfl,rfl,(if_pos u),trivial⟩) (by simp+zetaDelta [Instr.build,Instr.fill,Ev.cells,go_sem,Mv.cells,Fld.cells,Typ.cells,Prj.cells,Dcl.cells,Cel.cells,AskR.cells,CelS.cells,Ev.cells,Ent.cells,Sta.cells]) ⟨rfl,rfl⟩
 refine stc (V:=.bool (decide (oA=4∧aA=aB))) rfl rfl (fun m=>?_) ?_
 have P:=m
 try simp only[ze]at P
 exact Ys (e:=decide (oA=4∧aA=aB)) (xs:=#[Iv oA,Iv aA]) (ys:=#[Iv 4,Iv aB]) Va (if_pos m) (if_pos m) ⟨rfl,rfl⟩
 refine stc (V:=.bool (decide (oA=4∧aA=aB))) rfl rfl (fun x=>?_) ?_
 have Q:=x
 try simp only[ze]at Q
 exact zV (v:=.bool (decide (oA=4∧aA=aB))) (if_pos x) ⟨rfl,rfl⟩
 refine yN (V:=.agg #[Iv oB,Iv aB]) rfl rfl (fun y=>?_) ?_
 have R:=y.1
 try simp only[ze]at R
 have hl43:=tD y.2
 exact zf (k:=2) rT qT rfl rfl (CellsAt.all (c.b0)) ⟨rfl,rfl⟩
 refine yN (V:=Iv aA) rfl rfl (fun z=>?_) ?_
 have S:=z.1
 try simp only[ze]at S
 have hl46:=tD z.2
 exact mV (Iv aA) ⟨rfl,rfl⟩
 refine yN (V:=.agg #[Iv 3,Iv aA]) rfl rfl (fun j=>?_) ?_
 have T:=j.1
 try simp only[ze]at T
 have hl49:=tD j.2
 exact zP (parts':=[(0,Iv 3),(1,Iv aA)]) (v:=.agg #[Iv 3,Iv aA]) (ZE ⟨rfl,rfl,rfl,(if_pos ⟨j.1,j.2⟩),trivial⟩) (by simp+zetaDelta [Instr.build,Instr.fill,Ev.cells,go_sem,Mv.cells,Fld.cells,Typ.cells,Prj.cells,Dcl.cells,Cel.cells,AskR.cells,CelS.cells,Ev.cells,Ent.cells,Sta.cells]) ⟨rfl,rfl⟩
 refine yN (V:=.bool (decide (oB=3∧aB=aA))) rfl rfl (fun d=>?_) ?_
 have U:=d.1
 try simp only[ze]at U
 have hl52:=tD d.2
 exact Ys (e:=decide (oB=3∧aB=aA)) (xs:=#[Iv oB,Iv aB]) (ys:=#[Iv 3,Iv aA]) Va (if_pos ⟨d.1,d.2⟩) (if_pos ⟨d.1,d.2⟩) ⟨rfl,rfl⟩
 refine stc (V:=.bool ((decide (oA=4∧aA=aB))&&(decide (oB=3∧aB=aA)))) rfl rfl (fun n=>?_) ?_
 have X:=n
 try simp only[ze]at X
 exact zC (b:=decide (oA=4∧aA=aB)) (b':=decide (oB=3∧aB=aA)) (if_pos n) (fun hbp=>(if_pos ⟨n,hbp⟩)) ⟨rfl,rfl⟩
 refine st (zp (b:=(decide (oA=3∧aA=aB))&&(decide (oB=4∧aB=aA))) (b':=(decide (oA=4∧aA=aB))&&(decide (oB=3∧aB=aA))) rfl (fun hbp=>(if_pos hbp)) (st (aS (.bool (((decide (oA=3∧aA=aB))&&(decide (oB=4∧aB=aA)))||((decide (oA=4∧aA=aB))&&(decide (oB=3∧aB=aA))))) (zd (zj (zK mR (show _=(.bool (((decide (oA=3∧aA=aB))&&(decide (oB=4∧aB=aA)))||((decide (oA=4∧aA=aB))&&(decide (oB=3∧aB=aA)))):Value)from rfl) ?_))))))
 refine⟨?_,(c.s3_)⟩
 unfold WM
 (first|rw[if_pos (by omega)]|rw[if_neg (by omega),if_pos (by omega)]|rw[if_neg (by omega),if_neg (by omega),if_pos (by omega)]|rw[if_neg (by omega),if_neg (by omega),if_neg (by omega)])<;>(first|rfl|simp_all)
 have h:=tD h
 refine zh rfl (za (zz kr (st (Xg rfl (st (lD (Iv oA) kT rfl (zb (c.b1) rfl) (st (yc (k:=.i64) (a:=oA) (b:=5) rfl rfl (st (mV (.bool (decide (oA=5))) (stc (V:=Ix E 0) rfl rfl (fun Y=>?_) ?_)))))))))))
 have hl57:=tD Y
 exact Xg rfl ⟨rfl,rfl⟩
 refine stc (V:=Iv oB) rfl rfl (fun A=>?_) ?_
 have hl59:=tD A
 exact lD (Iv oB) kT (if_pos A) (zb (c.b0) rfl) ⟨rfl,rfl⟩
 refine stc (V:=.bool (decide (oB=5))) rfl rfl (fun B=>?_) ?_
 have hl61:=tD B
 exact yc (k:=.i64) (a:=oB) (b:=5) (if_pos B) rfl ⟨rfl,rfl⟩
 refine st (zC (b:=decide (oA=5)) (b':=decide (oB=5)) rfl (fun hbp=>(if_pos hbp)) (st (mV (.bool ((decide (oA=5))&&(decide (oB=5)))) (stc (V:=.agg #[Iv oA,Iv aA]) rfl rfl (fun Z=>?_) ?_))))
 have aa:=Z
 try simp only[ze]at aa
 exact zf (k:=2) rT qT rfl rfl (CellsAt.all (c.b1)) ⟨rfl,rfl⟩
 refine stc (V:=.agg #[Iv oB,Iv aB]) rfl rfl (fun ab=>?_) ?_
 have ac:=ab
 try simp only[ze]at ac
 exact zf (k:=2) rT qT rfl rfl (CellsAt.all (c.b0)) ⟨rfl,rfl⟩
 refine stc (V:=.bool (!decide (oA=oB∧aA=aB))) rfl rfl (fun o=>?_) ?_
 have ad:=o
 try simp only[ze]at ad
 exact WV (e:=decide (oA=oB∧aA=aB)) (xs:=#[Iv oA,Iv aA]) (ys:=#[Iv oB,Iv aB]) US (if_pos o) (if_pos o) ⟨rfl,rfl⟩
 refine st (zC (b:=(decide (oA=5))&&(decide (oB=5))) (b':= !decide (oA=oB∧aA=aB)) rfl (fun hbp=>(if_pos hbp)) (st (aS (.bool (((decide (oA=5))&&(decide (oB=5)))&&(!decide (oA=oB∧aA=aB)))) (zd (zj (zK mR (show _=(.bool (((decide (oA=5))&&(decide (oB=5)))&&(!decide (oA=oB∧aA=aB))):Value)from rfl) ?_))))))
 refine⟨?_,(c.s3_)⟩
 unfold WM
 (first|rw[if_pos (by omega)]|rw[if_neg (by omega),if_pos (by omega)]|rw[if_neg (by omega),if_neg (by omega),if_pos (by omega)]|rw[if_neg (by omega),if_neg (by omega),if_neg (by omega)])<;>(first|rfl|simp_all)
 have g:=tD g
 refine zh rfl (za (zz kr (st (Xg rfl (st (lD (Iv oA) kT rfl (zb (c.b1) rfl) (st (yc (k:=.i64) (a:=oA) (b:=2) rfl rfl (st (mV (.bool (decide (oA=2))) (stc (V:=Ix E 0) rfl rfl (fun ae=>?_) ?_)))))))))))
 have hl70:=tD ae
 exact Xg rfl ⟨rfl,rfl⟩
 refine stc (V:=Iv oB) rfl rfl (fun C=>?_) ?_
 have hl72:=tD C
 exact lD (Iv oB) kT (if_pos C) (zb (c.b0) rfl) ⟨rfl,rfl⟩
 refine stc (V:=.bool (decide (oB=2))) rfl rfl (fun D=>?_) ?_
 have hl74:=tD D
 exact yc (k:=.i64) (a:=oB) (b:=2) (if_pos D) rfl ⟨rfl,rfl⟩
 refine st (zC (b:=decide (oA=2)) (b':=decide (oB=2)) rfl (fun hbp=>(if_pos hbp)) (st (mV (.bool ((decide (oA=2))&&(decide (oB=2)))) (stc (V:=.agg #[Iv oA,Iv aA]) rfl rfl (fun af=>?_) ?_))))
 have ag:=af
 try simp only[ze]at ag
 exact zf (k:=2) rT qT rfl rfl (CellsAt.all (c.b1)) ⟨rfl,rfl⟩
 refine stc (V:=.agg #[Iv oB,Iv aB]) rfl rfl (fun ah=>?_) ?_
 have ai:=ah
 try simp only[ze]at ai
 exact zf (k:=2) rT qT rfl rfl (CellsAt.all (c.b0)) ⟨rfl,rfl⟩
 refine stc (V:=.bool (!decide (oA=oB∧aA=aB))) rfl rfl (fun p=>?_) ?_
 have aj:=p
 try simp only[ze]at aj
 exact WV (e:=decide (oA=oB∧aA=aB)) (xs:=#[Iv oA,Iv aA]) (ys:=#[Iv oB,Iv aB]) US (if_pos p) (if_pos p) ⟨rfl,rfl⟩
 refine st (zC (b:=(decide (oA=2))&&(decide (oB=2))) (b':= !decide (oA=oB∧aA=aB)) rfl (fun hbp=>(if_pos hbp)) (st (aS (.bool (((decide (oA=2))&&(decide (oB=2)))&&(!decide (oA=oB∧aA=aB)))) (zd (zj (zK mR (show _=(.bool (((decide (oA=2))&&(decide (oB=2)))&&(!decide (oA=oB∧aA=aB))):Value)from rfl) ?_))))))
 refine⟨?_,(c.s3_)⟩
 unfold WM
 (first|rw[if_pos (by omega)]|rw[if_neg (by omega),if_pos (by omega)]|rw[if_neg (by omega),if_neg (by omega),if_pos (by omega)]|rw[if_neg (by omega),if_neg (by omega),if_neg (by omega)])<;>(first|rfl|simp_all)
theorem zaL {G:Nat→Prop}{W w:World}{Rs:List HP}{f:Fld}{df0:Value}(hdf0:RdS W G df0 f.moves)(of:f.Ok){x:Ev}{dx0:Value}(hdx0:RdS W G dx0 x.deps)(ox:x.Ok){e:Ev}{de0:Value}(hde0:RdS W G de0 e.deps)(oe:e.Ok)(hS0:Sep G W Rs w):Ret Tryz.prog 60 [.agg (f.cells df0).toArray,.agg (x.cells dx0).toArray,.agg (e.cells de0).toArray] w (fun r w'=>r=(.bool ((xo f x e)):Value)∧Sep G W Rs w'):=by
 have hdf0s:_*32≤_:=hdf0.small
 have hdx0s:_*8≤_:=hdx0.small
 have hde0s:_*8≤_:=hde0.small
 refine zi (args:=[.agg (f.cells df0).toArray,.agg (x.cells dx0).toArray,.agg (e.cells de0).toArray]) Tryz.func60 rfl rfl ?_
 refine za (R0 fun _=>st (zN (v:=.agg (f.cells df0).toArray) rfl ?_))
 intro w3 b2 X
 refine st (zN (v:=.agg (x.cells dx0).toArray) rfl ?_)
 intro w7 D Y
 refine st (zN (v:=.agg (e.cells de0).toArray) rfl ?_)
 intro w11 o Z
 have c:=((hS0.new X).new Y).new Z
 refine st (aS (.bool false) (zd (za (zz kr (st (Yw rfl (st (lD (Iv (f.policy)) kT rfl (zb (c.b2) rfl) (st (yc (k:=.i64) (a:=f.policy) (b:=2) rfl rfl (st (mV (.bool (decide (f.policy=2))) (stc (V:=Ix b2 1) rfl rfl (fun E=>?_) ?_)))))))))))))
 have hl14:=fD E
 exact Yw rfl ⟨rfl,rfl⟩
 refine stc (V:=Iv (f.policy)) rfl rfl (fun p=>?_) ?_
 have hl16:=fD p
 exact lD (Iv (f.policy)) kT (if_pos p) (zb (c.b2) rfl) ⟨rfl,rfl⟩
 refine stc (V:=.bool (decide (f.policy=3))) rfl rfl (fun q=>?_) ?_
 have hl18:=fD q
 exact yc (k:=.i64) (a:=f.policy) (b:=3) (if_pos q) rfl ⟨rfl,rfl⟩
 refine stc (V:=.bool (decide (f.policy=3))) rfl rfl (fun s=>?_) ?_
 have hl20:=fD s
 exact zV (v:=.bool (decide (f.policy=3))) (if_pos s) ⟨rfl,rfl⟩
 refine yN (V:=Ix D 8) rfl rfl (fun t=>?_) ?_
 have hl22:=fD t.1
 have hl23:=tD t.2
 exact Zo rfl ⟨rfl,rfl⟩
 refine yN (V:=Iv (x.arg)) rfl rfl (fun h=>?_) ?_
 have hl25:=fD h.1
 have hl26:=tD h.2
 exact lD (Iv (x.arg)) kT (if_pos ⟨h.1,h.2⟩) (zb (c.b1) rfl) ⟨rfl,rfl⟩
 refine yN (V:=Ix o 8) rfl rfl (fun u=>?_) ?_
 have hl28:=fD u.1
 have hl29:=tD u.2
 exact Zo rfl ⟨rfl,rfl⟩
 refine yN (V:=Iv (e.arg)) rfl rfl (fun i=>?_) ?_
 have hl31:=fD i.1
 have hl32:=tD i.2
 exact lD (Iv (e.arg)) kT (if_pos ⟨i.1,i.2⟩) (zb (c.b0) rfl) ⟨rfl,rfl⟩
 refine yN (V:=.bool (decide (e.arg<x.arg))) rfl rfl (fun d=>?_) ?_
 have hl34:=fD d.1
 have hl35:=tD d.2
 exact yU (k:=.i64) (a:=x.arg) (b:=e.arg) (if_pos ⟨d.1,d.2⟩) (if_pos ⟨d.1,d.2⟩) ⟨rfl,rfl⟩
 refine stc (V:=.bool ((decide (f.policy=3))&&(decide (e.arg<x.arg)))) rfl rfl (fun n=>?_) ?_
 have hl37:=fD n
 exact zC (b:=decide (f.policy=3)) (b':=decide (e.arg<x.arg)) (if_pos n) (fun hbp=>(if_pos ⟨n,hbp⟩)) ⟨rfl,rfl⟩
 refine st (zp (b:=decide (f.policy=2)) (b':=(decide (f.policy=3))&&(decide (e.arg<x.arg))) rfl (fun hbp=>(if_pos hbp)) (st (aS (.bool ((decide (f.policy=2))||((decide (f.policy=3))&&(decide (e.arg<x.arg))))) (zd (za (zz kr (st (mV (.bool ((decide (f.policy=2))||((decide (f.policy=3))&&(decide (e.arg<x.arg))))) (st (mV (.bool ((decide (f.policy=2))||((decide (f.policy=3))&&(decide (e.arg<x.arg))))) (stc (V:=.agg (f.cells df0).toArray) rfl rfl (fun F=>?_) ?_)))))))))))
 have H:=F
 try simp only[ze]at H
 exact zf (k:=4) kA wT rfl rfl (CellsAt.all (c.b2)) ⟨rfl,rfl⟩
 refine stc (V:=Ix D 7) rfl rfl (fun I=>?_) ?_
 have J:=I
 try simp only[ze]at J
 exact xS rfl ⟨rfl,rfl⟩
 refine stc (V:=Iv (x.op)) rfl rfl (fun y=>?_) ?_
 have K:=y
 try simp only[ze]at K
 exact lD (Iv (x.op)) kT (if_pos y) (zb (c.b1) rfl) ⟨rfl,rfl⟩
 refine stc (V:=Ix D 8) rfl rfl (fun L=>?_) ?_
 have M:=L
 try simp only[ze]at M
 exact Zo rfl ⟨rfl,rfl⟩
 refine stc (V:=Iv (x.arg)) rfl rfl (fun z=>?_) ?_
 have N:=z
 try simp only[ze]at N
 exact lD (Iv (x.arg)) kT (if_pos z) (zb (c.b1) rfl) ⟨rfl,rfl⟩
 refine stc (V:=Ix o 7) rfl rfl (fun O=>?_) ?_
 have P:=O
 try simp only[ze]at P
 exact xS rfl ⟨rfl,rfl⟩
 refine stc (V:=Iv (e.op)) rfl rfl (fun A=>?_) ?_
 have Q:=A
 try simp only[ze]at Q
 exact lD (Iv (e.op)) kT (if_pos A) (zb (c.b0) rfl) ⟨rfl,rfl⟩
 refine stc (V:=Ix o 8) rfl rfl (fun R=>?_) ?_
 have S:=R
 try simp only[ze]at S
 exact Zo rfl ⟨rfl,rfl⟩
 refine stc (V:=Iv (e.arg)) rfl rfl (fun B=>?_) ?_
 have T:=B
 try simp only[ze]at T
 exact lD (Iv (e.arg)) kT (if_pos B) (zb (c.b0) rfl) ⟨rfl,rfl⟩
 cases j:(decide (f.policy=2))||((decide (f.policy=3))&&(decide (e.arg<x.arg)))
 have g:=j
 try simp only[ze]at j
 refine stx rfl rfl (st (zU (v:=.bool false) rfl rfl (st (mV (.bool false) (stx rfl rfl (stx rfl rfl (stx rfl rfl (st (zU (v:=.bool false) rfl rfl (st (aS (.bool false) (zd (zj (zK mY (show _=(.bool false:Value)from rfl) ?_))))))))))))))
 refine⟨?_,(c.s3_)⟩
 unfold xo
 first|rfl|simp only[g,Bool.false_and,Bool.true_and,Bool.and_false,Bool.and_true,Bool.true_or,Bool.or_true]
 have g:=j
 try simp only[ze]at j
 refine sty rfl rfl (cL Tryz.call80 (QW (f:=f) (oA:=x.op) (aA:=x.arg) (oB:=e.op) (aB:=e.arg) hdf0 of ox.op ox.arg oe.op oe.arg c) ?_)
 rintro _ w58 ⟨rfl,l⟩
 refine st (yj (v:=.bool ((WM f.kind x.op x.arg e.op e.arg))) rfl rfl (st (mV (.bool ((WM f.kind x.op x.arg e.op e.arg))) (stc (V:=.agg (x.cells dx0).toArray) rfl rfl (fun hb60=>?_) ?_))))
 exact zf (k:=10) oT lT rfl rfl (CellsAt.all (l.b1)) ⟨rfl,rfl⟩
 refine stc (V:=.agg (e.cells de0).toArray) rfl rfl (fun hb62=>?_) ?_
 exact zf (k:=10) oT lT rfl rfl (CellsAt.all (l.b0)) ⟨rfl,rfl⟩
 cases C:(WM f.kind x.op x.arg e.op e.arg)
 have m:=C
 refine stx rfl rfl (st (zU (v:=.bool false) rfl rfl (st (aS (.bool false) (zd (zj (zK mY (show _=(.bool false:Value)from rfl) ?_)))))))
 refine⟨?_,(l.s3_)⟩
 unfold xo
 first|rfl|simp only[g,m,Bool.false_and,Bool.true_and,Bool.and_false,Bool.and_true,Bool.true_or,Bool.or_true]
 have m:=C
 refine sty rfl rfl (cL Tryz.call81 (zab (a:=x) (b:=e) hdx0 ox hde0 oe l) ?_)
 rintro _ w66 ⟨rfl,U⟩
 refine st (yj (v:=.bool ((ZA x e))) rfl rfl (st (aS (.bool ((ZA x e))) (zd (zj (zK mY (show _=(.bool ((ZA x e)):Value)from rfl) ?_))))))
 refine⟨?_,(U.s3_)⟩
 unfold xo
 first|rfl|simp only[g,m,Bool.false_and,Bool.true_and,Bool.and_false,Bool.and_true,Bool.true_or,Bool.or_true]
theorem WE {G:Nat→Prop}{W w:World}{Rs:List HP}{e:Ev}{de0:Value}(hde0:RdS W G de0 e.deps)(oe:e.Ok)(hS0:Sep G W Rs w):Ret Tryz.prog 41 [.agg (e.cells de0).toArray] w (fun r w'=> ∃(v:Value),r=(.agg (e.cells v).toArray:Value)∧Sep G W ((RowE (α:=Int) own 3 v e.deps)::Rs) w'):=by
 have hde0s:_*8≤_:=hde0.small
 refine zi (args:=[.agg (e.cells de0).toArray]) Tryz.func41 rfl rfl ?_
 refine za (R0 fun _=>st (zN (v:=.agg (e.cells de0).toArray) rfl ?_))
 intro w3 b2 n
 refine st (zt nY ?_)
 intro w7 p o
 have i:=(hS0.new n).new o
 refine zd (za (R0 fun _=>st (xf rfl (st (lD de0 kY rfl (zb (i.b1) rfl) (st (cL lA (xV (l:=e.deps) (vl:=de0) hde0 i) ?_)))))))
 rintro g w10 ⟨_,rfl,a⟩
 have d:=a.r0
 have hr12s:_*8≤_:=d.2
 refine st (xf rfl (stn (yz (v:=g) (c:=[Iv (e.origin),Iv (e.seq),Iv (e.lam),de0,Iv (e.typ),Iv (e.agg),Iv (e.field),Iv (e.op),Iv (e.arg),Iv (e.key)]) (c':=[Iv (e.origin),Iv (e.seq),Iv (e.lam),g,Iv (e.typ),Iv (e.agg),Iv (e.field),Iv (e.op),Iv (e.arg),Iv (e.key)]) mA rfl rfl (a.b2) d.1.one rfl rfl ?_)))
 intro w13 j
 have ok15:Ev.Ok e:=⟨(show InR (e.origin)from oe.origin),(show InR (e.seq)from oe.seq),(show InR (e.lam)from oe.lam),(show InR (e.typ)from oe.typ),(show InR (e.agg)from oe.agg),(show InR (e.field)from oe.field),(show InR (e.op)from oe.op),(show InR (e.arg)from oe.arg),(show InR (e.key)from oe.key)⟩
 have f:=a.pt2 j
 refine zd (za (R0 fun _=>st (zf (k:=10) oT lT rfl rfl (CellsAt.all (f.b2)) (stn (zq (v:=.agg (e.cells g).toArray) (c':=(e.cells g).toArray) lT rfl rfl (f.b1) (ye ⟨rfl,rfl,rfl,d.1.one,rfl,rfl,rfl,rfl,rfl,rfl,trivial⟩) yqc rfl ?_)))))
 intro w17 m
 have h:=f.pt1 m
 refine zd (zj (QX (b:=p) Tryz.results41 oT lT rfl rfl (CellsAt.all (h.b1)) ?_))
 refine⟨g,rfl,(h.s3_a)⟩
instance:Flat Prj:=⟨fun h=>h⟩
theorem el23:Elem Tryz.prog 23 115 5 40:=⟨oY,_,_,rfl,rfl,rfl,rfl,rfl⟩
theorem Ux {G:Nat→Prop}{W w:World}{Rs:List HP}{vl:Value}{l:List Prj}(hl:RdS W G vl l)(hS0:Sep G W Rs w):Ret Tryz.prog 86 [vl] w (fun r w'=> ∃(v:Value),r=(v:Value)∧Sep G W ((RowE (α:=Prj) own 115 v l)::Rs) w'):=by
 have hls:_*40≤_:=hl.small
 refine zi (args:=[vl]) Tryz.func86 rfl rfl ?_
 refine za (R0 fun _=>st (aS (Iz) (zd (za (za (R0 fun _=>st (mV vl (st (Zm (v:=vl) oY rfl hl.sl (zd ?_))))))))))
 cases i:Zd vl
 refine zg rfl (zl (za (R0 fun _=>st (zY (k:=5) (parts':=[]) (c:=#[]) oY Tryz.sizeOf115 Tryz.zeroValue115 dc rfl kr ?_))))
 intro o p j
 refine st (mV vl ?_)
 have d:Sep G W ((RowE (α:=Prj) own 115 (Iy p 0 0) ([]:List Prj))::Rs) o:=Sep.blkRow (src:=own) (l:=([]:List Prj)) (css:=[]) (hS0.new j) rfl trivial yqa
 have e:=d.r0
 have hr10s:_*40≤_:=e.2
 refine st (xY (src:=own) (bytes:=40) d el23 rfl rfl hl yqb rfl (hq':=fun _ _ h _ _=>Xn h) ?_)
 intro b q a
 have a:Sep G W ((RowE (α:=Prj) own 115 b l)::Rs) q:=a
 have f:=a.r0
 have hr11s:_*40≤_:=f.2
 refine st (aS b (zd (zj (zK nA (show _=(b:Value)from rfl) ?_))))
 refine⟨b,rfl,a⟩
 have m:=Yp hl.sl i
 refine zh rfl (za (R0 fun _=>st (aS (Iz) (zd (zj (zK nA (show _=((Iz):Value)from rfl) ?_))))))
 have g:Sep G W ((RowE (α:=Prj) own 115 (Iz) ([]:List Prj))::Rs) w:=hS0.rowNil own 115
 have n:l=[]:=List.length_eq_zero_iff.1 m
 subst n
 refine⟨(Iz),rfl,g⟩
theorem el51:Elem Tryz.prog 51 110 4 48:=⟨vT,_,_,rfl,rfl,rfl,rfl,rfl⟩
theorem Ui {G:Nat→Prop}{W w:World}{Rs:List HP}{vl:Value}{l:List Fld}(hl:RdS W G vl l)(hS0:Sep G W Rs w):Ret Tryz.prog 87 [vl] w (fun r w'=> ∃(v:Value),r=(v:Value)∧Sep G W ((RowE (α:=Fld) (shr G W) 110 v l)::Rs) w'):=by
 have hls:_*48≤_:=hl.small
 refine zi (args:=[vl]) Tryz.func87 rfl rfl ?_
 refine za (R0 fun _=>st (aS (Iz) (zd (za (za (R0 fun _=>st (mV vl (st (Zm (v:=vl) vT rfl hl.sl (zd ?_))))))))))
 cases i:Zd vl
 refine zg rfl (zl (za (R0 fun _=>st (zY (k:=4) (parts':=[]) (c:=#[]) vT wT Tryz.zeroValue110 dc rfl kr ?_))))
 intro o p j
 refine st (mV vl ?_)
 have d:Sep G W ((RowE (α:=Fld) (shr G W) 110 (Iy p 0 0) ([]:List Fld))::Rs) o:=Sep.blkRow (src:=(shr G W)) (l:=([]:List Fld)) (css:=[]) (hS0.new j) rfl trivial yqa
 have e:=d.r0
 have hr10s:_*48≤_:=e.2
 refine st (xY (src:=(shr G W)) (bytes:=48) d el51 rfl rfl hl yqb rfl (hq':=fun _ _ h _ _=>h) ?_)
 intro b q a
 have a:Sep G W ((RowE (α:=Fld) (shr G W) 110 b l)::Rs) q:=a
 have f:=a.r0
 have hr11s:_*48≤_:=f.2
 refine st (aS b (zd (zj (zK pA (show _=(b:Value)from rfl) ?_))))
 refine⟨b,rfl,a⟩
 have m:=Yp hl.sl i
 refine zh rfl (za (R0 fun _=>st (aS (Iz) (zd (zj (zK pA (show _=((Iz):Value)from rfl) ?_))))))
 have g:Sep G W ((RowE (α:=Fld) (shr G W) 110 (Iz) ([]:List Fld))::Rs) w:=hS0.rowNil (shr G W) 110
 have n:l=[]:=List.length_eq_zero_iff.1 m
 subst n
 refine⟨(Iz),rfl,g⟩
theorem JQ {G:Nat→Prop}{W w:World}{Rs:List HP}{x:Sta}{dx0:Value}(hdx0:RdS W G dx0 x.cls)(ox:x.Ok)(hS0:Sep G W Rs w):Ret Tryz.prog 34 [.agg (x.cells dx0).toArray] w (fun r w'=> ∃(v:Value),r=(.agg (x.cells v).toArray:Value)∧Sep G W ((RowE (α:=Cel) own 99 v x.cls)::Rs) w'):=by
 have hdx0s:_*32≤_:=hdx0.small
 refine zi (args:=[.agg (x.cells dx0).toArray]) Tryz.func34 rfl rfl ?_
 refine za (R0 fun _=>st (zN (v:=.agg (x.cells dx0).toArray) rfl ?_))
 intro w3 b2 aD
 refine st (zt nR ?_)
 intro w7 R aE
 have aw:=(hS0.new aD).new aE
 refine zd (za (R0 fun _=>st (yY rfl (st (lD dx0 sT rfl (zb (aw.b1) rfl) (st (cL Tryz.call43 (Xz (l:=x.cls) (vl:=dx0) hdx0 aw) ?_)))))))
 rintro m w10 ⟨_,rfl,F⟩
 have H:=F.r0
 have hr12s:_*32≤_:=H.2
 refine st (yY rfl (stn (yz (v:=m) (c:=[Iv (x.ver),dx0]) (c':=[Iv (x.ver),m]) qA rfl rfl (F.b2) H.1.one rfl rfl ?_)))
 intro w13 ax
 have ok15:Sta.Ok x:=⟨(show InR (x.ver)from ox.ver)⟩
 have S:=F.pt2 ax
 refine zd (za (za (R0 fun _=>st (yY rfl (st (lD m sT rfl (zb (S.b2) rfl) (st (zR (n:=x.cls.length) pY rfl H.1 (st (mV (Iv 0) (zd (zx ?_))))))))))))
 have ay:=S.toMix
 refine yq (fun mq σ y=> ∃(k:Nat) (ρ:Env),mq=x.cls.length-k∧σ=yi ρ [(1,Ix b2 0),(2,Ix R 0),(10,Iw x.cls.length),(11,Iw k)]∧(k≤x.cls.length)∧Sep G W ((RowE (α:=Bool×Cel) (mix (α:=Cel) G W) 99 m (Za k x.cls))::(Blk R #[Iv 0,(Iz)] 47)::(Blk b2 (x.cells m).toArray 47)::Rs) y) ⟨0,_,rfl,sSf,Nat.zero_le _,ay⟩ ?_
 rintro m19 σ20 aF ⟨k,ρl1,rfl,rfl,hkk,I⟩
 have J:=I.r0
 rw[xK]at J
 refine za (R0 fun _=>st (zJ (k:=.i64) (a:=((k:Nat):Int)) (b:=((x.cls.length:Nat):Int)) rfl rfl (zd (za ?_))))
 cases z:decide (((k:Nat):Int)<((x.cls.length:Nat):Int))
 have z:=fD z
 have A:Sep G W ((RowE (α:=Cel) own 99 m x.cls)::(Blk R #[Iv 0,(Iz)] 47)::(Blk b2 (x.cells m).toArray 47)::Rs) aF:=I.ofMix om
 have T:=A.r0
 have hr25s:_*32≤_:=T.2
 refine zg rfl (yr (yg (za (R0 fun _=>st (zf (k:=2) rA oR rfl rfl (CellsAt.all (A.b2)) (stn (zq (v:=.agg (x.cells m).toArray) (c':=(x.cells m).toArray) oR rfl rfl (A.b1) (ye ⟨rfl,T.1.one,trivial⟩) yqc rfl ?_)))))))
 intro w26 az
 have U:=A.pt1 az
 refine zd (zj (QX (b:=R) Tryz.results34 rA oR rfl rfl (CellsAt.all (U.b1)) ?_))
 refine⟨m,rfl,(U.s3_a)⟩
 have z:=tD z
 refine zh rfl (zl (za (zx (za (R0 fun _=>st (mV (Iw k) (st (aS (Iw k) (zd ?_)))))))))
 refine WD4 ((fun TT V=>WF [fun vals y=>Sep G W (V::TT) y,fun vals y=> ∃(e:Value),(vals 8=(e:Value))∧(RdS W G e (x.cls.getD k default).set)∧(Cel.Ok (x.cls.getD k default))∧Sep G W (V::TT) y,fun vals y=> ∃(e:Value) (p:Value),(vals 8=(e:Value))∧(vals 9=(p:Value))∧(RdS W G e (x.cls.getD k default).set)∧(Cel.Ok (x.cls.getD k default))∧Sep G W ((RowE (α:=Int) own 3 p ((x.cls.getD k default).set))::V::TT) y,fun vals y=> ∃(e:Value) (p:Value),(vals 8=(e:Value))∧(vals 9=(p:Value))∧(RdS W G e (x.cls.getD k default).set)∧(Cel.Ok (x.cls.getD k default))∧Sep G W ((RowE (α:=Bool×Cel) (mix (α:=Cel) G W) 99 m (Za (k+1) x.cls))::TT) y]) ((Blk R #[Iv 0,(Iz)] 47)::(Blk b2 (x.cells m).toArray 47)::Rs) (RowE (α:=Bool×Cel) (mix (α:=Cel) G W) 99 m (Za k x.cls))) (AF [Vl 0 (Ix b2 1),Vl 1 (m),Vl 2 (Iw k),Vl 3 (Ix b2 1),Vl 4 (m),Vl 5 (Iw k),Vl 6 (Ix (sb m) (so m+k*2)),Vl 7 (Ix (sb m) (so m+k*2+1)),fun _=>True,fun _=>True,Vl 10 (Ix (sb m) (so m+k*2)),Vl 11 (Ix (sb m) (so m+k*2+1)),fun _=>True]) [[],[0],[],[],[3],[],[3,4,5],[3,4,5,6],[3,4,5,6,7],[3,4,5,6,7,8],(rg 10),(rg 11),(rg 12)] [8,9,12] [(0,2),(0,2),(0,2),(0,0),(0,0),(0,0),(0,0),(0,0),(0,0),(1,1),(2,2),(2,2),(2,2)] I ⟨fun _ _ _ _ _ _ _=>obl rfl (yY rfl dR),?_,fun _ _ _ _ _ _ _=>obl rfl (mV (Iw k) dR),fun _ _ _ _ _ _ _=>obl rfl (yY rfl dR),ob1 0 fun _ _ (Z:Sep _ _ _ _) aa=>obl rfl (lD m sT (aa 3 dc) (zb (Z.b2) rfl) dR),fun _ _ _ _ _ _ _=>obl rfl (mV (Iw k) dR),?_,fun _ _ _ _ _ _ ab=>obl rfl (xx (ab 6 dc) dR),?_,?_,?_,fun _ _ _ _ _ _ ac=>obl rfl (xx (ac 10 dc) dR),?_,trivial⟩ ?_
 refine fun t _ _ aA aB B C=>?_
 have hkk:=JI aA aB
 rcases hkk with rfl|rfl|rfl
 have ad:Sep _ _ _ _:=B
 exact obl rfl (lD m sT (C 0 dc) (zb (ad.b2) rfl) dR)
 obtain⟨e,q,g,h,ae⟩:=B
 exact obl rfl (lD m sT (C 0 dc) (zb (ae.b2) rfl) dR)
 obtain⟨e,p,q,s,g,h,af⟩:=B
 exact obl rfl (lD m sT (C 0 dc) (zb (af.b3) rfl) dR)
 refine ob1 0 fun _ _ _ K=>(obl rfl ?_)
 have ag:k<x.cls.length:=bo
 exact zm (k:=2) (i:=k) pY sA (K 4 dc) J.1 (K 5 dc) ag dR
 refine ob1 0 fun _ _ (X:Sep _ _ _ _) aC=>(obl rfl ?_)
 have Y:k<x.cls.length:=bo
 obtain⟨_,L,e,rfl,g,h⟩:=X.mixAt (i:=0) (j:=k) rfl (Nat.le_refl _) Y
 rw[←zF default Y]at L g h
 exact(lD e kY (aC 7 dc) (L.get (j:=1) rfl) (fun M hv E=>⟨(exiA e (zv hv (zv g (zv h X)))),trivial⟩))
 refine ob1 1 fun vals _ ai _=>?_
 obtain⟨e,q,g,h,aj⟩:=ai
 refine obl rfl ((zG (f:=44) (vals:=[e]) (cap:=[]) rfl (yK ⟨q,trivial⟩) lA (xV (l:=(x.cls.getD k default).set) (vl:=e) g aj) ?_))
 rintro p w106 ⟨_,rfl,N⟩
 have ak:=N.r0
 have hr108s:_*8≤_:=ak.2
 exact fun M hv E=>⟨(exiA e (exiA p (zv ((E 8 dc).trans q) (zv hv (zv g (zv h N)))))),trivial⟩
 refine ob1 2 fun _ _ al O=>?_
 obtain⟨e,p,q,s,g,h,hS208⟩:=al
 refine obl rfl ?_
 have am:k<x.cls.length:=bo
 exact zm (k:=2) (i:=k) pY sA (O 1 dc) J.1 (O 2 dc) am dR
 refine ob1 2 fun _ _ an ao=>?_
 obtain⟨e,p,q,s,g,h,ap⟩:=an
 refine obl rfl ?_
 have P:=ap.mv1
 have Q:k<x.cls.length:=bo
 have D:=P.r1
 have hr139s:_*8≤_:=D.2
 refine(Wd (α:=Cel) (j:=k) (o:=1) (u:=p) (us:=[p]) P mA Q (ao 11 (by decide)) s (congrArg Array.toList (xa D.1.one)) (Nat.le_of_ble_eq_true rfl) (ye ⟨D.1.one,trivial⟩) (fun w f cs0 hr hN=>(by obtain⟨d,rfl,hd,hok⟩:=hr;exact⟨_,rfl,(by rw[←zF default Q];exact RowE.soft hN),hok⟩)) ?_)
 intro w135 aq
 exact fun M hv E=>⟨(exiA e (exiA p (zv ((E 8 dc).trans q) (zv ((E 9 dc).trans s) (zv g (zv h aq)))))),trivial⟩
 intro vals w219 ar hA221
 obtain⟨e,p,q,s,g,h,au⟩:=ar
 refine zZ (kv:=[(1,Ix b2 0),(2,Ix R 0),(10,Iw x.cls.length),(11,Iw k),(12,.bool true),(13,Iw k),(3,Iw k)]) sEv (fun ρw219=>(zd (R0 fun _=>?_)))
 have av:InR ((k+1:Nat):Int):=bo
 refine st (yb (r:=((k+1:Nat):Int)) (k:=.i64) (a:=((k:Nat):Int)) (b:=1) rfl rfl (by rw[show(((k:Nat):Int)+1:Int)=((k+1:Nat):Int)from bo];exact zM av) (st (mV (Iw (k+1)) (zd ?_))))
 exact⟨_,by omega,k+1,_,rfl,sSf,by omega,au⟩
theorem el22:Elem Tryz.prog 22 53 1 24:=⟨tT,_,_,rfl,rfl,rfl,rfl,rfl⟩
theorem Uy {G:Nat→Prop}{W w:World}{Rs:List HP}{d:Dcl}{dd0:Value}(hdd0:RdS W G dd0 d.types){dd1:Value}(hdd1:RdS W G dd1 d.projs)(od:d.Ok)(hS0:Sep G W Rs w):Ret Tryz.prog 71 [.agg (d.cells dd0 dd1).toArray] w (fun r w'=> ∃(v1:Value) (v2:Value),r=(.agg (d.cells v1 v2).toArray:Value)∧Sep G W ((RowE (α:=Typ) own 53 v1 d.types)::(RowE (α:=Prj) own 115 v2 d.projs)::Rs) w'):=by
 have hdd0s:_*24≤_:=hdd0.small
 have hdd1s:_*40≤_:=hdd1.small
 refine zi (args:=[.agg (d.cells dd0 dd1).toArray]) Tryz.func71 rfl rfl ?_
 refine za (R0 fun _=>st (zN (v:=.agg (d.cells dd0 dd1).toArray) rfl ?_))
 intro w3 b2 aH
 refine st (zt tA ?_)
 intro w7 H aI
 have ag:=(hS0.new aH).new aI
 refine zd (za (R0 fun _=>st (Xm rfl (st (lD dd1 Tryz.isAgg23 rfl (zb (ag.b1) rfl) (st (cL Tryz.call86 (Ux (l:=d.projs) (vl:=dd1) hdd1 ag) ?_)))))))
 rintro g w10 ⟨_,rfl,I⟩
 have s:=I.r0
 have hr12s:_*40≤_:=s.2
 have ok13:Dcl.Ok (⟨[],d.projs⟩:Dcl):=⟨⟩
 refine st (zP (parts':=[(1,g)]) (v:=.agg ((⟨[],d.projs⟩:Dcl).cells (Iz) g).toArray) rfl (by obtain⟨_,_,ai,_⟩:=s.1;rw[show g=Value.slice _ _ _ from ai];simp[Instr.build,Instr.fill,Ev.cells,go_sem,Mv.cells,Fld.cells,Typ.cells,Prj.cells,Dcl.cells,Cel.cells,AskR.cells,CelS.cells,Ev.cells,Ent.cells,Sta.cells]) (st (zt tA ?_)))
 intro w17 z aj
 have J:=I.new aj
 refine stn (zq (v:=.agg ((⟨[],d.projs⟩:Dcl).cells (Iz) g).toArray) (c':=((⟨[],d.projs⟩:Dcl).cells (Iz) g).toArray) kR rfl rfl (J.b0) (ye ⟨rfl,s.1.one,trivial⟩) yqc rfl ?_)
 intro w19 ak
 have K:=J.pt0 ak
 refine zd (za (za (R0 fun _=>st (yG rfl (st (lD dd0 lR rfl (zb (K.b3) rfl) (st (zR (n:=d.types.length) tT rfl hdd0.sl (st (mV (Iv 0) (zd (zx ?_))))))))))))
 have al:Sep _ _ ((RowE (α:=Typ) own 53 (Iz) ([]:List Typ))::_) _:=K.rowNil own 53
 refine yq (fun mq σ wq=> ∃(k:Nat) (vo:Value) (ρ:Env),mq=d.types.length-k∧σ=yi ρ [(1,Ix b2 0),(2,Ix H 0),(3,Ix z 0),(13,dd0),(14,Iw d.types.length),(15,Iw k)]∧(k≤d.types.length)∧Sep G W ((RowE (α:=Typ) own 53 vo (d.types.take k))::(Blk z #[vo,g] 25)::(RowE (α:=Prj) own 115 g d.projs)::(Blk H #[(Iz),(Iz)] 25)::(Blk b2 (d.cells dd0 dd1).toArray 25)::Rs) wq) ⟨0,(Iz),_,rfl,sSf,Nat.zero_le _,al⟩ ?_
 rintro m24 σ25 w23 ⟨k,vo,ρl1,rfl,rfl,hkk,h⟩
 have an:=h.r0
 have hr27s:_*24≤_:=an.2
 refine za (R0 fun _=>st (zJ (k:=.i64) (a:=((k:Nat):Int)) (b:=((d.types.length:Nat):Int)) rfl rfl (zd (za ?_))))
 cases t:decide (((k:Nat):Int)<((d.types.length:Nat):Int))
 have t:=fD t
 have hkn:k=d.types.length:=by omega
 rw[hkn,List.take_of_length_le (Nat.le_refl d.types.length)]at h
 have L:=h.r0
 have hr29s:_*24≤_:=L.2
 refine zg rfl (yr (yg (za (R0 fun _=>?_))))
 have ok30:Dcl.Ok d:=⟨⟩
 refine st (zf (k:=2) pR kR rfl rfl (CellsAt.all (h.b1)) (stn (zq (v:=.agg (d.cells vo g).toArray) (c':=(d.cells vo g).toArray) kR rfl rfl (h.b3) (ye ⟨L.1.one,s.1.one,trivial⟩) yqc rfl ?_)))
 intro aJ ao
 have M:=h.pt3 ao
 refine zd (zj (QX (b:=H) Tryz.results71 pR kR rfl rfl (CellsAt.all (M.b3)) ?_))
 have ap:Sep G W ((RowE (α:=Typ) own 53 vo d.types)::(RowE (α:=Prj) own 115 g d.projs)::Rs) aJ:=M.sel 5 [0,2] (Nat.le_add_left _ _) rfl rfl
 refine⟨vo,g,rfl,ap⟩
 have t:=tD t
 refine zh rfl (zl (za (zx (za (R0 fun _=>?_)))))
 have aq:k<d.types.length:=bo
 refine st (zm (k:=1) (i:=k) tT mT rfl hdd0.sl rfl aq ?_)
 have N:k<d.types.length:=bo
 obtain⟨ad,m,hoke36⟩:=hdd0.typD N
 have hsm38:((d.types.getD k default).fields).length*48≤140737488355328:=m.small
 have ae:=h.cells ad (hdd0.foot (ne_of_lt N))
 refine st (zf (k:=1) uT mT rfl rfl ae (st (zt qR ?_)))
 intro w42 O ar
 have P:=h.new ar
 refine stn (zq (v:=.agg ((d.types.getD k default).cells (zI W (sb dd0) (so dd0+k*1+0))).toArray) (c':=((d.types.getD k default).cells (zI W (sb dd0) (so dd0+k*1+0))).toArray) mT rfl rfl (P.b0) (ye ⟨m.sl.one,trivial⟩) yqc rfl ?_)
 intro w44 au
 have Q:=P.pt0 au
 refine zd (za (R0 fun _=>st (xe rfl (st (lD (zI W (sb dd0) (so dd0+k*1+0)) uA rfl (zb (Q.b0) rfl) (st (cL Tryz.call87 (Ui (l:=(d.types.getD k default).fields) (vl:=(zI W (sb dd0) (so dd0+k*1+0))) m Q) ?_)))))))
 rintro e w48 ⟨_,rfl,R⟩
 have S:=R.r0
 have hr50s:_*48≤_:=S.2
 refine st (aS e (zd (za (za (R0 fun _=>st (mV e (st (zR (n:=((d.types.getD k default).fields).length) vT rfl S.1 (st (mV (Iv 0) (zd (zx ?_))))))))))))
 have av:=R.toMix
 refine yq (fun mq σ wq=> ∃(q:Nat) (ρ:Env),mq=((d.types.getD k default).fields).length-q∧σ=yi ρ [(1,Ix b2 0),(2,Ix H 0),(3,Ix z 0),(5,Ix O 0),(6,e),(13,dd0),(14,Iw d.types.length),(15,Iw k),(23,Iw (((d.types.getD k default).fields).length)),(24,Iw q)]∧(q≤((d.types.getD k default).fields).length)∧Sep G W ((RowE (α:=Bool×Fld) (mix (α:=Fld) G W) 110 e (Za q ((d.types.getD k default).fields)))::(Blk O ((d.types.getD k default).cells (zI W (sb dd0) (so dd0+k*1+0))).toArray 53)::(RowE (α:=Typ) own 53 vo (d.types.take k))::(Blk z #[vo,g] 25)::(RowE (α:=Prj) own 115 g d.projs)::(Blk H #[(Iz),(Iz)] 25)::(Blk b2 (d.cells dd0 dd1).toArray 25)::Rs) wq) ⟨0,_,rfl,sSf,Nat.zero_le _,av⟩ ?_
 rintro m53 σ54 aK ⟨q,ρl2,rfl,rfl,hkq,x⟩
 have B:=x.r0
 rw[xK]at B
 refine za (R0 fun _=>st (zJ (k:=.i64) (a:=((q:Nat):Int)) (b:=((((d.types.getD k default).fields).length:Nat):Int)) rfl rfl (zd (za ?_))))
 cases y:decide (((q:Nat):Int)<((((d.types.getD k default).fields).length:Nat):Int))
 have y:=fD y
 have C:Sep G W ((RowE (α:=Fld) own 110 e ((d.types.getD k default).fields))::(Blk O ((d.types.getD k default).cells (zI W (sb dd0) (so dd0+k*1+0))).toArray 53)::(RowE (α:=Typ) own 53 vo (d.types.take k))::(Blk z #[vo,g] 25)::(RowE (α:=Prj) own 115 g d.projs)::(Blk H #[(Iz),(Iz)] 25)::(Blk b2 (d.cells dd0 dd1).toArray 25)::Rs) aK:=x.ofMix om
 have T:=C.r0
 have hr59s:_*48≤_:=T.2
 refine zg rfl (yr (yg (R0 fun _=>st (yG rfl (st (lD vo lR rfl (zb (C.b3) rfl) (st (mV e ?_))))))))
 have aw:Typ.Ok (d.types.getD k default):=⟨⟩
 refine st (zP (parts':=[(0,e)]) (v:=.agg ((d.types.getD k default).cells e).toArray) rfl (by obtain⟨_,_,ax,_⟩:=T.1;rw[show e=Value.slice _ _ _ from ax];simp[Instr.build,Instr.fill,Ev.cells,go_sem,Mv.cells,Fld.cells,Typ.cells,Prj.cells,Dcl.cells,Cel.cells,AskR.cells,CelS.cells,Ev.cells,Ent.cells,Sta.cells]) (st (zY (k:=1) (parts':=[(0,.agg ((d.types.getD k default).cells e).toArray)]) (c:=((d.types.getD k default).cells e).toArray) tT mT qR (by decide) rfl (by kernel_rfl) ?_)))
 intro w64 b63 ay
 have U:=C.new ay
 have af:=U.b0
 refine st (xg (src:=own) (bytes:=24) (x1:=(d.types.getD k default)) (U.s8_dbcefgh) el22 rfl rfl af (fun _ _ hN=>⟨_,rfl,RowE.soft hN,aw⟩) yqb rfl ?_)
 intro V w66 D
 have X:=D.r0
 have hr71s:_*24≤_:=X.2
 refine st (yG rfl (stn (yz (v:=V) (c:=[vo,g]) (c':=[V,g]) Tryz.sizeOf22 rfl rfl (D.b2) X.1.one rfl rfl ?_)))
 intro w72 aA
 have ok74:Dcl.Ok (⟨(d.types.take k)++[(d.types.getD k default)],d.projs⟩:Dcl):=⟨⟩
 refine zd (R0 fun _=>?_)
 have aB:InR ((k+1:Nat):Int):=bo
 refine st (yb (r:=((k+1:Nat):Int)) (k:=.i64) (a:=((k:Nat):Int)) (b:=1) rfl rfl (by rw[show(((k:Nat):Int)+1:Int)=((k+1:Nat):Int)from bo];exact zM aB) (st (mV (Iw (k+1)) (zd ?_))))
 have Y:=(D.pt2 aA).s6_acdef
 have aC:(d.types.take (k+1))=(d.types.take k)++[(d.types.getD k default)]:=(List.take_getD om)
 rw[←aC]at Y
 exact⟨_,by omega,k+1,V,_,rfl,sSf,by omega,Y⟩
 have y:=tD y
 refine zh rfl (zl (za (zx (za (R0 fun _=>st (mV (Iw q) (st (aS (Iw q) (zd (R0 fun _=>st (mV e (st (mV (Iw q) (st (mV e (st (mV (Iw q) ?_)))))))))))))))))
 have aD:q<((d.types.getD k default).fields).length:=bo
 refine st (zm (k:=4) (i:=q) vT wT rfl B.1 rfl aD (st (yL rfl ?_)))
 have Z:q<((d.types.getD k default).fields).length:=bo
 obtain⟨_,F,A,rfl,p,aa⟩:=x.mixAt (i:=0) (j:=q) rfl (Nat.le_refl _) Z
 rw[←zF default Z]at F p aa
 refine st (lD A Tryz.isAgg108 rfl (F.get (j:=3) rfl) (st (cL Tryz.call88 (Ww (l:=(((d.types.getD k default).fields).getD q default).moves) (vl:=A) p x) ?_)))
 rintro ah w83 ⟨_,rfl,ab⟩
 have E:=ab.r0
 have hr85s:_*32≤_:=E.2
 have aE:q<((d.types.getD k default).fields).length:=bo
 refine st (zm (k:=4) (i:=q) vT wT rfl B.1 rfl aE (st (yL rfl ?_)))
 have ac:q<((d.types.getD k default).fields).length:=bo
 refine stn (Wd (α:=Fld) (j:=q) (o:=3) (u:=ah) (us:=[ah]) (ab.mv1) Tryz.sizeOf108 ac rfl rfl (congrArg Array.toList (xa E.1.one)) (Nat.le_of_ble_eq_true rfl) (ye ⟨E.1.one,trivial⟩) (fun w f cs0 hr hN=>(by obtain⟨d,rfl,hd,hok⟩:=hr;exact⟨_,rfl,(by rw[←zF default ac];exact RowE.soft hN),hok⟩)) ?_)
 intro w87 aF
 refine zd (R0 fun _=>?_)
 have aG:InR ((q+1:Nat):Int):=bo
 refine st (yb (r:=((q+1:Nat):Int)) (k:=.i64) (a:=((q:Nat):Int)) (b:=1) rfl rfl (by rw[show(((q:Nat):Int)+1:Int)=((q+1:Nat):Int)from bo];exact zM aG) (st (mV (Iw (q+1)) (zd ?_))))
 exact⟨_,by omega,q+1,_,rfl,sSf,by omega,aF⟩
theorem zbg {G:Nat→Prop}{W w:World}{Rs:List HP}{d:Dcl}{dd0:Value}(hdd0:RdS W G dd0 d.types){dd1:Value}(hdd1:RdS W G dd1 d.projs)(od:d.Ok)(hS0:Sep G W Rs w):Ret Tryz.prog 50 [.agg (d.cells dd0 dd1).toArray] w (fun r w'=> ∃(b:Nat),r=(.pointer (some ⟨b,0,none⟩):Value)∧Sep G W ((ViewO b d [] [])::Rs) w'):=by
 have hdd0s:_*24≤_:=hdd0.small
 have hdd1s:_*40≤_:=hdd1.small
 refine zi (args:=[.agg (d.cells dd0 dd1).toArray]) Tryz.func50 rfl rfl ?_
 refine za (R0 fun _=>st (zN (v:=.agg (d.cells dd0 dd1).toArray) rfl ?_))
 intro w3 b2 y
 have l:=hS0.new y
 refine st (aS (.pointer none) (zd (za (R0 fun _=>st (zf (k:=2) pR kR rfl rfl (CellsAt.all (l.b0)) (st (cL Tryz.call71 (Uy (d:=d) hdd0 hdd1 od l) ?_)))))))
 rintro _ C ⟨a,c,rfl,h⟩
 have A:=h.r0
 have hr9s:_*24≤_:=A.2
 have n:=h.r1
 have hr10s:_*40≤_:=n.2
 refine st (Zy ?_)
 intro m o
 obtain⟨e,i⟩: ∃z,z=C.heap.size:=⟨_,rfl⟩;rw[←i]
 have p:Sep G W ((MapO yR E1 e (fun _=>none))::(RowE (α:=Typ) own 53 a d.types)::(RowE (α:=Prj) own 115 c d.projs)::(Blk b2 (d.cells dd0 dd1).toArray 25)::Rs) m:=(by rw[i];exact h.mapoNew o)
 refine st (Zy ?_)
 intro B q
 obtain⟨f,j⟩: ∃z,z=m.heap.size:=⟨_,rfl⟩;rw[←j]
 have s:Sep G W ((MapO xO E2 f (fun _=>none))::(MapO yR E1 e (fun _=>none))::(RowE (α:=Typ) own 53 a d.types)::(RowE (α:=Prj) own 115 c d.projs)::(Blk b2 (d.cells dd0 dd1).toArray 25)::Rs) B:=(by rw[j];exact p.mapoNew q)
 refine st (zP (parts':=[(0,.agg (d.cells a c).toArray),(2,.map (some e)),(3,.map (some f))]) (v:=.agg #[a,c,(Iz),.map (some e),.map (some f)]) rfl (by simp[Instr.build,Instr.fill,go_sem,Dcl.cells]) (st (zN (v:=.agg #[a,c,(Iz),.map (some e),.map (some f)]) rfl ?_)))
 intro w21 g t
 refine st (aS (Ix g 0) (zd (zj (zK Tryz.results50 (show _=(Ix g 0:Value)from rfl) ?_))))
 have u:Sep _ _ ((RowE (α:=Ent) own 57 (Iz) ([]:List Ent))::_) _:=(s.new t).rowNil own 57
 have x:Sep _ _ ((ViewO g d [] [])::_) _:=ViewO.close (d:=d) (L:=[]) (M:=[]) (u.s7_befadcg)
 refine⟨g,rfl,(x.s2_a)⟩
theorem Vc {P:Program}{n:Nat}{c:Code}{Q:xZ}{σ:Env}{w:World}(J:Env→World→Prop)(h:WP P n c (fun e σ w=>e=.normal∧J σ w) σ w)(hq: ∀σ w,J σ w→Q .normal σ w):WP P n c Q σ w:=fun a hs=>
 wp_mono (h a hs) (by rintro e a' w' ⟨σ'',hs'',rfl,hj⟩;exact⟨σ'',hs'',hq _ _ hj⟩)
abbrev RwV (v:Value)(l:List Ev):HP:=RowE (α:=Ev) own 41 v l
abbrev RwN (v:Value)(l:List Ent):HP:=RowE (α:=Ent) own 57 v l
abbrev RwT (v:Value)(l:List Typ):HP:=RowE (α:=Typ) own 53 v l
abbrev RwP (v:Value)(l:List Prj):HP:=RowE (α:=Prj) own 115 v l
abbrev RwI (v:Value)(l:List Int):HP:=RowE (α:=Int) own 3 v l
abbrev RwC (v:Value)(l:List Cel):HP:=RowE (α:=Cel) own 99 v l
abbrev Ms1 (m:Nat)(d:Dcl)(M:List Ent)(k:Int×Int)(vc:Value):HP:=xX yR E1 VV m (zn d M) k (.agg #[.int .i64 ((yd k M:Nat):Int),vc])
abbrev Md1 (m:Nat)(M:List Ent)(e:Ev)(v:Value):HP:=xX xO E2 (.slice none 0 0) m (yC M) (e.typ,e.agg,e.field) v
abbrev BkP (b:Nat)(e:Ev):HP:=Blk b #[.int .i64 e.typ,.int .i64 e.agg,.int .i64 e.field] 131
abbrev BkT (b:Nat)(d:Dcl)(e:Ev)(W:World)(v:Value):HP:=Blk b ((d.types.getD e.typ.toNat default).cells (zI W (sb v) (so v+e.typ.toNat*1+0))).toArray 53
abbrev BkV (b:Nat)(vt vp ve:Value)(m4 m5:Nat):HP:=Blk b #[vt,vp,ve,.map (some m4),.map (some m5)] 83
abbrev BkS (b:Nat)(M:List Ent)(k:Int×Int)(v:Value):HP:=Blk b #[.int .i64 ((yd k M:Nat):Int),v] 47
abbrev clL (d:Dcl)(M:List Ent)(e:Ev):List Cel:=zQ d (e.typ,e.agg) M
theorem Vh {P:Program}{σ:Env}{w:World}{fn:Func}{a u:Tmp}{t:TypeId}{R:Value→World→Prop}{b k:Nat}{cs:List Value}{v':Value}(hr:fn.results=#[.tmp u,.cell a t])(hA: ∀w,(isAgg t).run P w=.ok true w)(hS: ∀w,(sizeOf t).run P w=.ok k w)(hk:cs.length=k)
 (hv:σ a=.pointer (some ⟨b,0,none⟩)) (hc:CellsAt w b 0 cs) (hu:σ u=v') (h:R (.tuple #[v',.agg cs.toArray]) w):Yh P fn R .ret σ w:=by
 subst hk
 refine⟨_,fun tmps ht=>?_,h⟩
 have:=yI (P:=P) (w:=w) b 0 cs 0 #[] (fun j hj=>by simpa using hc j hj)
 have e:tmps[a]?.getD undef=.pointer (some ⟨b,0,none⟩):=by rw[←hv,←ht a];simp
 have e2:tmps[u]?.getD undef=v':=by rw[←hu,←ht u];simp
 simp[results,hr,e,e2,asAddr,loadVar,hA,hS,loadCells,this,go_sem]
theorem Qk {p:Ev→Bool}: ∀{l:List Ev} {k:Nat},k<l.length→(∀i,i<k→p (l.getD i default)=false)→p (l.getD k default)=true→l.find? p=some (l.getD k default)
 |[],k,hk,_,_=>absurd hk (Nat.not_lt_zero k)
 |x::l,0,_,_,h1=>by have h1:p x=true:=h1;rw[List.find?_cons,h1];rfl
 |x::l,k+1,hk,h0,h1=>by
  have hx:p x=false:=h0 0 (Nat.succ_pos _)
  rw[List.find?_cons,hx]
  exact Qk (by simpa using hk) (fun i hi=>h0 (i+1) (by omega)) h1
theorem zaf {p:Ev→Bool}{l:List Ev}(h: ∀i,i<l.length→p (l.getD i default)=false):l.find? p=none:=by
 rw[List.find?_eq_none]
 intro x hx
 obtain⟨i,hi,rfl⟩:=List.getElem_of_mem hx
 have:=h i hi
 rw[zF _ hi]at this
 rw[this];decide
theorem Ki (k:Int×Int×Int)(L:List Ent):(yf k L).length≤L.length:=by unfold yf;rw[List.length_map];exact List.length_filter_le _ _
section
variable {d:Dcl}{M:List Ent}{e:Ev}
theorem UN (h: ¬xc d e.typ e.field e.op e.arg=0):yp d M e=(true,0,0):=by unfold yp;rw[if_pos h]
theorem zbq {k:Nat}(h:xc d e.typ e.field e.op e.arg=0)(hk:k<(yf (e.typ,e.agg,e.field) M).length)(h0: ∀i,i<k→xo ((d.types.getD e.typ.toNat default).fields.getD e.field.toNat default) ((yf (e.typ,e.agg,e.field) M).getD i default) e=false)
 (h1:xo ((d.types.getD e.typ.toNat default).fields.getD e.field.toNat default) ((yf (e.typ,e.agg,e.field) M).getD k default) e=true):yp d M e=(true,((yf (e.typ,e.agg,e.field) M).getD k default).origin,((yf (e.typ,e.agg,e.field) M).getD k default).seq):=by
 unfold yp xN
 rw[if_neg (by simpa using h),Qk (p:=fun x=>xo ((d.types.getD e.typ.toNat default).fields.getD e.field.toNat default) x e) hk h0 h1]
theorem Je (h:xc d e.typ e.field e.op e.arg=0)(h0: ∀i,i<(yf (e.typ,e.agg,e.field) M).length→xo ((d.types.getD e.typ.toNat default).fields.getD e.field.toNat default) ((yf (e.typ,e.agg,e.field) M).getD i default) e=false):
 yp d M e=if ¬yX (d.types.getD e.typ.toNat default) (zQ d (e.typ,e.agg) M) e.field e.op e.arg=0 then(true,0,0)else(false,0,0):=by
 unfold yp xN
 rw[if_neg (by simpa using h),zaf (p:=fun x=>xo ((d.types.getD e.typ.toNat default).fields.getD e.field.toNat default) x e) h0]
end
theorem VU {G:Nat→Prop}{W w:World}{As:List HP}{d:Dcl}{M:List Ent}{v2 vc:Value}{k:Int×Int}(h:Sep G W (RowE (α:=Cel) own 99 v2 (zQ d k M)::As) w)(hv:v2=vc∨yd k M=0):Sep G W (YJ E1 (.agg #[.int .i64 ((yd k M:Nat):Int),vc]) (zn d M k)::As) w:=by
 refine h.impl (i:=0) rfl (fun f hA=>?_)
 unfold zn
 by_cases he:yd k M=0
 ·rw[if_pos he];exact trivial
 ·rw[if_neg he]
  obtain rfl:=hv.resolve_right he
  exact⟨v2,rfl,hA⟩
theorem Kf {d:Dcl}{M:List Ent}{k:Int×Int}(h:(zn d M k).isSome=false):yd k M=0:=by
 unfold zn at h
 by_cases h8:yd k M=0
 ·exact h8
 ·rw[if_neg h8]at h;cases h
theorem Kc {d:Dcl}{M:List Ent}{k:Int×Int}(h:(zn d M k).isSome=true): ¬yd k M=0:=by
 intro h8
 unfold zn at h
 rw[if_pos h8]at h;cases h
theorem Kk {t:Typ}{c:List Cel}{f:Int}(h:Right t c)(h0:0≤f)(h1:f<t.fields.length):(yo c f).set.length≤1000:=by
 have:=h.most f.toNat (by have:=h.len;omega)
 exact Nat.le_trans this (by omega)
theorem zbn:Elem Tryz.prog 26 41 10 96:=⟨rR,_,_,rfl,rfl,rfl,rfl,rfl⟩
set_option maxHeartbeats 8000000 in
theorem D_try {G:Nat→Prop}{W w:World}{Rs:List HP}{b:Nat}{d:Dcl}{L:List Ent}{M:List Ent}{e:Ev}{ve0:Value}(oe:e.Ok)(hKN:RdS W G (.slice (some ⟨0,0,none⟩) 6 6) kindsL)(hS0:Sep G W ((ViewO b d L M)::(RowE (α:=Int) own 3 ve0 e.deps)::Rs) w)(hd:DclOk d)(hinv:Inv d M)(hml:M.length≤1000000):Ret Tryz.prog 40 [.pointer (some ⟨b,0,none⟩),.agg (e.cells ve0).toArray] w (fun r w'=>r=(.tuple #[.bool ((yp d M e).1),.agg #[.int .i64 ((yp d M e).2.1),.int .i64 ((yp d M e).2.2)]]:Value)∧(InR (yp d M e).2.1∧InR (yp d M e).2.2)∧Sep G W ((ViewO b d L (M++[yE d M e]))::Rs) w'):=by
 let jZ:=ViewO b d L (M++[yE d M e])
 let bi:=(e.typ,e.agg,e.field)
 have hKNs:_*8≤_:=hKN.small
 refine zi (args:=[Ix b 0,.agg (e.cells ve0).toArray]) Tryz.func40 rfl rfl ?_
 obtain⟨l,O,T,P,R,jN⟩:=ViewO.open hS0
 let jX:=MapO xO E2 R (yC M)
 let jV:=MapO yR E1 P (zn d M)
 let hv:=MapO yR E1 P (ZD (zn d M) (e.typ,e.agg) (yd (e.typ,e.agg) M+1,(doL (d.types.getD e.typ.toNat default) (clL d M e) e.field e.op e.arg)))
 have bb:Sep G W ((BkV b l O T P R)::(RwT l d.types)::(RwP O d.projs)::(RwN T L)::jV::jX::(RwI ve0 e.deps)::Rs) w:=jN
 have jO:=bb.r1
 have hr7s:_*24≤_:=jO.2
 have jP:=bb.r2
 have hr8s:_*40≤_:=jP.2
 have jQ:=bb.r3
 have hr9s:_*120≤_:=jQ.2
 have jn:=bb.r6
 have hr10s:_*8≤_:=jn.2
 refine za (R0 fun _=>st (zN (v:=.agg (e.cells ve0).toArray) rfl ?_))
 intro w13 s jo
 let bG:=Blk s (e.cells ve0).toArray 41
 refine st (aS (.bool false) (st (zt Tryz.zeroValue38 ?_)))
 intro w17 I jp
 let jU:=Blk I #[Iv 0,Iv 0] 38
 refine zd (za (za ?_))
 refine WD4 ((fun TT J ab ad=>WF [fun vals B=>Sep G W (J::ab::ad::(RwT l d.types)::(RwP O d.projs)::TT) B,fun vals B=>(vals 12=(Iv (xc d e.typ e.field e.op e.arg):Value))∧Sep G W ((RwT l d.types)::(RwP O d.projs)::J::ab::ad::TT) B]) ((RwN T L)::jV::jX::(RwI ve0 e.deps)::Rs) jU bG (BkV b l O T P R)) (AF [Vl 0 (Ix b 0),Vl 1 (Ix b 0),Vl 2 (Ix b 0),Vl 3 (.agg (d.cells l O).toArray),Vl 4 (Ix s 4),Vl 5 (Iv (e.typ)),Vl 6 (Ix s 6),Vl 7 (Iv (e.field)),Vl 8 (Ix s 7),Vl 9 (Iv (e.op)),Vl 10 (Ix s 8),Vl 11 (Iv (e.arg)),fun _=>True,Vl 13 (.bool (!decide ((xc d e.typ e.field e.op e.arg)=0)))]) [[],[0],[0,1],[0,1,2],[],[4],[],[6],[],[8],[],[10],(rg 12),(rg 13)] [12] [(0,0),(0,0),(0,0),(0,0),(0,0),(0,0),(0,0),(0,0),(0,0),(0,0),(0,0),(0,0),(0,0),(1,1)] ((bb.new jo).new jp) ⟨fun _ _ _ _ _ _ _=>obl rfl (mV (Ix b 0) dR),fun _ _ _ _ _ _ gu=>obl rfl (zB (b:=b) (o:=0) (gu 0 dc) dR),fun _ _ _ _ _ _ gv=>obl rfl (Ka (gv 1 dc) dR),?_,fun _ _ _ _ _ _ _=>obl rfl (Zu rfl dR),ob1 0 fun _ _ (gw:Sep _ _ _ _) gx=>obl rfl (lD (Iv (e.typ)) kT (gx 4 dc) (zb (gw.b1) rfl) dR),fun _ _ _ _ _ _ _=>obl rfl (xW rfl dR),ob1 0 fun _ _ (gy:Sep _ _ _ _) gz=>obl rfl (lD (Iv (e.field)) kT (gz 6 dc) (zb (gy.b1) rfl) dR),fun _ _ _ _ _ _ _=>obl rfl (xS rfl dR),ob1 0 fun _ _ (gA:Sep _ _ _ _) gB=>obl rfl (lD (Iv (e.op)) kT (gB 8 dc) (zb (gA.b1) rfl) dR),fun _ _ _ _ _ _ _=>obl rfl (Zo rfl dR),ob1 0 fun _ _ (gC:Sep _ _ _ _) gD=>obl rfl (lD (Iv (e.arg)) kT (gD 10 dc) (zb (gC.b1) rfl) dR),?_,?_,trivial⟩ ?_
 refine ob1 0 fun _ _ (gE:Sep _ _ _ _) gF=>(obl rfl ?_)
 have ok172:Dcl.Ok d:=⟨⟩
 exact zf (k:=2) (cs:=[l,O]) pR kR rfl (gF 2 dc) (CellsAt.sub (CellsAt.all (gE.b2)) 0 (cs2:=[l,O]) rfl) dR
 refine ob1 0 fun vals _ (gG:Sep _ _ _ _) aq=>(obl rfl ?_)
 obtain⟨G117,gH,gI,gJ,gK⟩:=(gG.mv3).lend
 have bK:=RowE.rd gH
 have hrd123s:_*24≤_:=bK.small
 obtain⟨G125,gL,cT,gM,gN⟩:=(gJ.mv3).lend
 have bL:=RowE.rd gL
 have hrd131s:_*40≤_:=bL.small
 refine(zG (f:=51) (vals:=[.agg (d.cells l O).toArray,Iv (e.typ),Iv (e.field),Iv (e.op),Iv (e.arg)]) (cap:=[]) rfl (yK ⟨(aq 3 dc),(aq 5 dc),(aq 7 dc),(aq 9 dc),(aq 11 dc),trivial⟩) Tryz.call51 (JW (d:=d) (ty:=e.typ) (f:=e.field) (op:=e.op) (arg:=e.arg) (RdS.base bK cT) bL (⟨⟩:Dcl.Ok d) oe.typ oe.field oe.op oe.arg (RdS.base (RdS.base hKN gI) cT) gM) ?_)
 rintro _ w132 ⟨rfl,gO⟩
 have gP:=gN _ _ gO
 have gQ:=gK _ _ gP
 exact fun C Q D=>⟨(zv Q gQ),trivial⟩
 refine ob1 1 fun _ _ gR _=>?_
 obtain⟨cU,hS235⟩:=gR
 exact obl rfl (yh (k:=.i64) (a:=xc d e.typ e.field e.op e.arg) (b:=0) cU rfl dR)
 intro vals p gS gT
 let bF:=zI p (sb l) (so l+e.typ.toNat*1+0)
 let jR:=(d.types.getD e.typ.toNat default).cells bF
 obtain⟨cU,cV⟩:=gS
 have jq:=gT 13 dc
 refine zZ (kv:=[(0,Ix b 0),(1,.agg (e.cells ve0).toArray),(3,Ix s 0),(4,.bool false),(5,Ix I 0),(25,.bool (!decide ((xc d e.typ e.field e.op e.arg)=0)))]) ⟨rfl,rfl,rfl,rfl,rfl,(by exact jq),trivial⟩ (fun ρw236=>(zd ?_))
 cases ag: !decide ((xc d e.typ e.field e.op e.arg)=0)
 have ag:=zu ag
 have hfo:=Yx ag
 have hfz:=ag
 have dM:=hfo.1;have dN:=hfo.2.1;have hft:=hfo.2.2
 have hfl:=hft.lo;have hfh:=hft.hi
 refine zg rfl (zl (za ?_))
 have cW:=cV.s9_acdeghibf
 generalize bx:((RwP O d.projs)::(RwN T L)::Rs)=aj at cW
 obtain⟨N,gU,hB248,gV,bz⟩:=cW.lend
 have K:=RowE.rd gU
 have hrd251s:_*24≤_:=K.small
 refine WD6 ((fun TT J=>WF [fun vals B=>Sep N p (J::TT) B,fun vals B=> ∃(j:Nat),(vals 17=(Ix j 0:Value))∧Sep N p ((Blk j #[(Iz)] 53)::J::TT) B,fun vals B=> ∃(g:Nat),(vals 18=(Ix g 0:Value))∧Sep N p ((Blk g #[Iv 0,Iv 0,Iv 0] 131)::J::TT) B,fun vals B=> ∃(j:Nat) (g:Nat),(vals 17=(Ix j 0:Value))∧(vals 18=(Ix g 0:Value))∧Sep N p ((Blk g #[Iv 0,Iv 0,Iv 0] 131)::(Blk j #[(Iz)] 53)::J::TT) B,fun _ _=>True,fun _ _=>True,fun _ _=>True,fun vals B=> ∃(j:Nat) (g:Nat),(vals 17=(Ix j 0:Value))∧(vals 18=(Ix g 0:Value))∧Sep N p ((Blk g #[Iv 0,Iv 0,Iv 0] 131)::(BkT j d e p l)::J::TT) B,fun _ _=>True,fun _ _=>True,fun _ _=>True,fun _ _=>True,fun _ _=>True,fun _ _=>True,fun _ _=>True,fun vals B=> ∃(j:Nat) (g:Nat),(vals 17=(Ix j 0:Value))∧(vals 18=(Ix g 0:Value))∧Sep N p ((BkP g e)::(BkT j d e p l)::J::TT) B]) (bG::(BkV b l O T P R)::jV::jX::(RwI ve0 e.deps)::aj) jU) (AF [Vl 0 (Ix b 0),Vl 1 (Ix b 0),Vl 2 (Ix b 0),Vl 3 (Ix b 0),Vl 4 (l),Vl 5 (Ix s 4),Vl 6 (Iv (e.typ)),Vl 7 (Ix (sb l) (so l+e.typ.toNat*1)),Vl 8 (.agg jR.toArray),Vl 9 (Ix s 4),Vl 10 (Iv (e.typ)),Vl 11 (Ix s 5),Vl 12 (Iv (e.agg)),Vl 13 (.agg #[Iv (e.typ),Iv (e.agg)]),Vl 14 (Ix s 6),Vl 15 (Iv (e.field)),Vl 16 (.agg #[Iv (e.typ),Iv (e.agg),Iv (e.field)]),fun _=>True,fun _=>True,fun _=>True,fun _=>True]) [[],[0],[0,1],[0,1,2],(rg 4),[],[5],(rg 7),(rg 8),[],[9],[],[11],[9,10,11,12],[],[14],[9,10,11,12,13,14,15],[],[],[0,1,2,3,4,5,6,7,8,17,18],(rg 20)] [17,18,19,20] [(rg 4),(rg 4),(rg 4),(rg 4),(rg 4),(rg 4),(rg 4),(rg 4),(rg 4),[0,1,2,3,7],[0,1,2,3,7],[0,1,2,3,7],[0,1,2,3,7],[0,1,2,3,7],[0,1,2,3,7],[0,1,2,3,7],[0,1,2,3,7],[0,2],[0,1],[3],[7]] gV ⟨fun _ _ _ _ _ _=>obl rfl (mV (Ix b 0) dR),fun _ _ _ _ _ gW=>obl rfl (zB (b:=b) (o:=0) (gW 0 (by decide)) dR),fun _ _ _ _ _ gX=>obl rfl (Ka (gX 1 (by decide)) dR),fun _ _ _ _ _ gY=>obl rfl (yG (gY 2 (by decide)) dR),?_,fun _ _ _ _ _ _=>obl rfl (Zu rfl dR),?_,?_,?_,fun _ _ _ _ _ _=>obl rfl (Zu rfl dR),?_,fun _ _ _ _ _ _=>obl rfl (Xp rfl dR),?_,fun _ _ _ _ _ cX=>obl rfl (zP (parts':=[(0,Iv (e.typ)),(1,Iv (e.agg))]) (v:=.agg #[Iv (e.typ),Iv (e.agg)]) (ZE ⟨rfl,(cX 10 (by decide)),rfl,(cX 12 (by decide)),trivial⟩) (by simp+zetaDelta [Instr.build,Instr.fill,Ev.cells,go_sem,Mv.cells,Fld.cells,Typ.cells,Prj.cells,Dcl.cells,Cel.cells,AskR.cells,CelS.cells,Ev.cells,Ent.cells,Sta.cells]) dR),fun _ _ _ _ _ _=>obl rfl (xW rfl dR),?_,fun _ _ _ _ _ cY=>obl rfl (zP (parts':=[(0,.agg #[Iv (e.typ),Iv (e.agg)]),(1,Iv (e.field))]) (v:=.agg #[Iv (e.typ),Iv (e.agg),Iv (e.field)]) (ZE ⟨rfl,(cY 13 (by decide)),rfl,(cY 15 (by decide)),trivial⟩) (by simp+zetaDelta [Instr.build,Instr.fill,Ev.cells,go_sem,Mv.cells,Fld.cells,Typ.cells,Prj.cells,Dcl.cells,Cel.cells,AskR.cells,CelS.cells,Ev.cells,Ent.cells,Sta.cells]) dR),?_,?_,?_,?_,trivial⟩ ?_
 intro jr vals w439 gZ aK aL
 have bM:jr∈[0,1,2,3]:=gZ
 simp only[yB]at bM
 rcases bM with rfl|rfl|rfl|rfl
 have ha:Sep _ _ _ _:=aK
 exact obl rfl (lD l lR (aL 3 dc) (zb (ha.b2) rfl) dR)
 obtain⟨j,y,hb⟩:=aK
 exact obl rfl (lD l lR (aL 3 dc) (zb (hb.b3) rfl) dR)
 obtain⟨g,z,hc⟩:=aK
 exact obl rfl (lD l lR (aL 3 dc) (zb (hc.b3) rfl) dR)
 obtain⟨j,g,y,z,he⟩:=aK
 exact obl rfl (lD l lR (aL 3 dc) (zb (he.b4) rfl) dR)
 intro js vals w457 hf aM aN
 have bN:js∈[0,1,2,3]:=hf
 simp only[yB]at bN
 rcases bN with rfl|rfl|rfl|rfl
 have hg:Sep _ _ _ _:=aM
 exact obl rfl (lD (Iv (e.typ)) kT (aN 5 dc) (zb (hg.b1) rfl) dR)
 obtain⟨j,y,hh⟩:=aM
 exact obl rfl (lD (Iv (e.typ)) kT (aN 5 dc) (zb (hh.b2) rfl) dR)
 obtain⟨g,z,hj⟩:=aM
 exact obl rfl (lD (Iv (e.typ)) kT (aN 5 dc) (zb (hj.b2) rfl) dR)
 obtain⟨j,g,y,z,hk⟩:=aM
 exact obl rfl (lD (Iv (e.typ)) kT (aN 5 dc) (zb (hk.b3) rfl) dR)
 intro jt vals w470 hl aO ae
 have bO:jt∈[0,1,2,3]:=hl
 simp only[yB]at bO
 rcases bO with rfl|rfl|rfl|rfl
 have hS474:Sep _ _ _ _:=aO
 refine obl rfl ?_
 have hi477:e.typ.toNat<d.types.length:=bo
 exact zA (k:=1) (i:=e.typ) tT mT (ae 4 dc) K.sl (ae 6 dc) ⟨by omega,by omega⟩ dR
 obtain⟨j,y,hS478⟩:=aO
 refine obl rfl ?_
 have hi481:e.typ.toNat<d.types.length:=bo
 exact zA (k:=1) (i:=e.typ) tT mT (ae 4 dc) K.sl (ae 6 dc) ⟨by omega,by omega⟩ dR
 obtain⟨g,z,hS482⟩:=aO
 refine obl rfl ?_
 have hi485:e.typ.toNat<d.types.length:=bo
 exact zA (k:=1) (i:=e.typ) tT mT (ae 4 dc) K.sl (ae 6 dc) ⟨by omega,by omega⟩ dR
 obtain⟨j,g,y,z,hS486⟩:=aO
 refine obl rfl ?_
 have hi489:e.typ.toNat<d.types.length:=bo
 exact zA (k:=1) (i:=e.typ) tT mT (ae 4 dc) K.sl (ae 6 dc) ⟨by omega,by omega⟩ dR
 intro ju vals w491 hm aP aQ
 have bP:ju∈[0,1,2,3]:=hm
 simp only[yB]at bP
 rcases bP with rfl|rfl|rfl|rfl
 have hn:Sep _ _ _ _:=aP
 refine obl rfl ?_
 have cZ:e.typ.toNat<d.types.length:=bo
 obtain⟨dO,cO,hoke497⟩:=K.typD cZ
 have hsm499:((d.types.getD e.typ.toNat default).fields).length*48≤140737488355328:=cO.small
 have dP:=hn.cells dO (K.foot (ne_of_lt cZ))
 exact zf (k:=1) uT mT rfl (aQ 7 dc) dP dR
 obtain⟨j,y,ho⟩:=aP
 refine obl rfl ?_
 have da:e.typ.toNat<d.types.length:=bo
 obtain⟨dQ,cP,hoke503⟩:=K.typD da
 have hsm505:((d.types.getD e.typ.toNat default).fields).length*48≤140737488355328:=cP.small
 have dS:=ho.cells dQ (K.foot (ne_of_lt da))
 exact zf (k:=1) uT mT rfl (aQ 7 dc) dS dR
 obtain⟨g,z,hp⟩:=aP
 refine obl rfl ?_
 have db:e.typ.toNat<d.types.length:=bo
 obtain⟨dU,cQ,hoke509⟩:=K.typD db
 have hsm511:((d.types.getD e.typ.toNat default).fields).length*48≤140737488355328:=cQ.small
 have dV:=hp.cells dU (K.foot (ne_of_lt db))
 exact zf (k:=1) uT mT rfl (aQ 7 dc) dV dR
 obtain⟨j,g,y,z,hq⟩:=aP
 refine obl rfl ?_
 have dd:e.typ.toNat<d.types.length:=bo
 obtain⟨dW,cR,hoke515⟩:=K.typD dd
 have hsm517:((d.types.getD e.typ.toNat default).fields).length*48≤140737488355328:=cR.small
 have dX:=hq.cells dW (K.foot (ne_of_lt dd))
 exact zf (k:=1) uT mT rfl (aQ 7 dc) dX dR
 intro jv vals w525 hr ar au
 have bQ:jv∈[0,1,2,3,7]:=hr
 simp only[yB]at bQ
 rcases bQ with rfl|rfl|rfl|rfl|rfl
 have hs:Sep _ _ _ _:=ar
 exact obl rfl (lD (Iv (e.typ)) kT (au 9 dc) (zb (hs.b1) rfl) dR)
 obtain⟨j,y,ht⟩:=ar
 exact obl rfl (lD (Iv (e.typ)) kT (au 9 dc) (zb (ht.b2) rfl) dR)
 obtain⟨g,z,hu⟩:=ar
 exact obl rfl (lD (Iv (e.typ)) kT (au 9 dc) (zb (hu.b2) rfl) dR)
 obtain⟨j,g,y,z,hw⟩:=ar
 exact obl rfl (lD (Iv (e.typ)) kT (au 9 dc) (zb (hw.b3) rfl) dR)
 obtain⟨j,g,y,z,hx⟩:=ar
 exact obl rfl (lD (Iv (e.typ)) kT (au 9 dc) (zb (hx.b3) rfl) dR)
 intro jw vals w545 hy av aw
 have bR:jw∈[0,1,2,3,7]:=hy
 simp only[yB]at bR
 rcases bR with rfl|rfl|rfl|rfl|rfl
 have hz:Sep _ _ _ _:=av
 exact obl rfl (lD (Iv (e.agg)) kT (aw 11 dc) (zb (hz.b1) rfl) dR)
 obtain⟨j,y,hA⟩:=av
 exact obl rfl (lD (Iv (e.agg)) kT (aw 11 dc) (zb (hA.b2) rfl) dR)
 obtain⟨g,z,hB⟩:=av
 exact obl rfl (lD (Iv (e.agg)) kT (aw 11 dc) (zb (hB.b2) rfl) dR)
 obtain⟨j,g,y,z,hC⟩:=av
 exact obl rfl (lD (Iv (e.agg)) kT (aw 11 dc) (zb (hC.b3) rfl) dR)
 obtain⟨j,g,y,z,hD⟩:=av
 exact obl rfl (lD (Iv (e.agg)) kT (aw 11 dc) (zb (hD.b3) rfl) dR)
 intro jx vals w572 hE ax ay
 have bS:jx∈[0,1,2,3,7]:=hE
 simp only[yB]at bS
 rcases bS with rfl|rfl|rfl|rfl|rfl
 have hF:Sep _ _ _ _:=ax
 exact obl rfl (lD (Iv (e.field)) kT (ay 14 dc) (zb (hF.b1) rfl) dR)
 obtain⟨j,y,hG⟩:=ax
 exact obl rfl (lD (Iv (e.field)) kT (ay 14 dc) (zb (hG.b2) rfl) dR)
 obtain⟨g,z,hH⟩:=ax
 exact obl rfl (lD (Iv (e.field)) kT (ay 14 dc) (zb (hH.b2) rfl) dR)
 obtain⟨j,g,y,z,hI⟩:=ax
 exact obl rfl (lD (Iv (e.field)) kT (ay 14 dc) (zb (hI.b3) rfl) dR)
 obtain⟨j,g,y,z,hJ⟩:=ax
 exact obl rfl (lD (Iv (e.field)) kT (ay 14 dc) (zb (hJ.b3) rfl) dR)
 intro jy vals w594 hK de hA595
 have bT:jy∈[0,2]:=hK
 simp only[yB]at bT
 rcases bT with rfl|rfl
 have hL:Sep _ _ _ _:=de
 refine obl rfl ((zt qR ?_))
 intro w601 j hM
 exact fun C Q D=>⟨(exiA j (zv Q (hL.new hM))),trivial⟩
 obtain⟨g,z,hO⟩:=de
 refine obl rfl ((zt qR ?_))
 intro w606 j hP
 exact fun C Q D=>⟨(exiA j (exiA g (zv Q (zv ((D 18 dc).trans z) ((hO.new hP).mv1))))),trivial⟩
 intro jz vals w610 hQ df hA611
 have bU:jz∈[0,1]:=hQ
 simp only[yB]at bU
 rcases bU with rfl|rfl
 have hR:Sep _ _ _ _:=df
 refine obl rfl ((zt vA ?_))
 intro w617 g hS
 exact fun C Q D=>⟨(exiA g (zv Q (hR.new hS))),trivial⟩
 obtain⟨j,y,hU⟩:=df
 refine obl rfl ((zt vA ?_))
 intro w622 g hV
 exact fun C Q D=>⟨(exiA j (exiA g (zv ((D 17 dc).trans y) (zv Q (hU.new hV))))),trivial⟩
 intro jA vals w625 hW hX hY
 have bV:jA∈[3]:=hW
 simp only[yB]at bV
 subst bV
 obtain⟨j,g,y,z,bA⟩:=hX
 refine obl rfl ?_
 have dg:e.typ.toNat<d.types.length:=bo
 obtain⟨dY,bc,hoke633⟩:=K.typD dg
 have hsm635:((d.types.getD e.typ.toNat default).fields).length*48≤140737488355328:=bc.small
 have hcw636:=bA.cells dY (K.foot (ne_of_lt dg))
 refine(zq (v:=.agg jR.toArray) (c':=jR.toArray) mT y (hY 8 dc) (bA.b1) (ye ⟨bc.sl.one,trivial⟩) yqc rfl ?_)
 intro w631 hZ
 exact fun C Q D=>⟨(exiA j (exiA g (zv ((D 17 dc).trans y) (zv ((D 18 dc).trans z) (bA.pt1 hZ))))),trivial⟩
 intro jB vals w639 ia ib ic
 have bW:jB∈[7]:=ia
 simp only[yB]at bW
 subst bW
 obtain⟨j,g,y,z,dh⟩:=ib
 refine obl rfl ((zq (v:=.agg #[Iv (e.typ),Iv (e.agg),Iv (e.field)]) (c':=#[Iv (e.typ),Iv (e.agg),Iv (e.field)]) sR z (ic 16 dc) (dh.b0) (ye ⟨rfl,rfl,rfl,trivial⟩) yqc rfl ?_))
 intro w645 id
 exact fun C Q D=>⟨(exiA j (exiA g (zv ((D 17 dc).trans y) (zv ((D 18 dc).trans z) (dh.pt0 id))))),trivial⟩
 intro vals w648 ie hA650
 obtain⟨j,g,y,z,di⟩:=ie
 refine zZ (kv:=[(0,Ix b 0),(1,.agg (e.cells ve0).toArray),(3,Ix s 0),(4,.bool false),(5,Ix I 0),(25,.bool false),(6,Ix j 0),(7,Ix g 0)]) ⟨rfl,rfl,rfl,rfl,rfl,rfl,(by exact y),(by exact z),trivial⟩ (fun ρw648=>(zd (za (za ?_))))
 have dj:e.typ.toNat<d.types.length:=bo
 obtain⟨dZ,V,aG⟩:=K.typD dj
 have hsm654:((d.types.getD e.typ.toNat default).fields).length*48≤140737488355328:=V.small
 have hcw655:=di.cells dZ (K.foot (ne_of_lt dj))
 obtain⟨m,ea,ig⟩:=(di.mv6).mapoTake (Iz) bi
 let ka:=RwV m (yf bi M)
 have dk:Sep _ _ (ka::_) _:=KS (ig.mv1) ea
 have dl:=dk.r0
 have hr662s:_*96≤_:=dl.2
 have hdl9:=Ki bi M
 refine WD4 (WF [fun vals B=>Sep N p (ka::(Md1 R M e m)::(BkP g e)::(BkT j d e p l)::jU::bG::(BkV b l O T P R)::jV::(RwI ve0 e.deps)::aj) B]) (AF [Vl 0 (Ix b 0),Vl 1 (Ix b 0),Vl 2 (Ix b 4),Vl 3 (.map (some R)),Vl 4 (.agg #[Iv (e.typ),Iv (e.agg),Iv (e.field)]),Vl 5 (m),Vl 6 (Iw ((yf bi M).length)),Vl 7 (Iv 0)]) [[],[0],[0,1],[0,1,2],[],(rg 5),(rg 6),[]] [] [(0,0),(0,0),(0,0),(0,0),(0,0),(0,0),(0,0),(0,0)] dk ⟨fun _ _ _ _ _ _ _=>obl rfl (mV (Ix b 0) dR),fun _ _ _ _ _ _ ih=>obl rfl (zB (b:=b) (o:=0) (ih 0 dc) dR),fun _ _ _ _ _ _ ii=>obl rfl (Jg (ii 1 dc) dR),ob1 0 fun _ _ (ij:Sep _ _ _ _) ik=>obl rfl (lD (.map (some R)) qY (ik 2 dc) (zb (ij.b6) rfl) dR),ob1 0 fun _ _ (il:Sep _ _ _ _) _=>obl rfl (zf (k:=3) rY sR rfl rfl (CellsAt.all (il.b2)) dR),ob1 0 fun _ _ (im:Sep _ _ _ _) dm=>obl rfl (Up im (i:=1) rfl K3 wA kB (dm 3 dc) (dm 4 dc) dR),ob1 0 fun _ _ _ io=>obl rfl (zR (n:=(yf bi M).length) rR (io 5 dc) dl.1 dR),fun _ _ _ _ _ _ _=>obl rfl (mV (Iv 0) dR),trivial⟩ ?_
 intro vals Y ip bB
 have iq:Sep _ _ _ _:=ip
 have jC:=bB 5 dc
 have jD:=bB 6 dc
 have jE:=bB 7 dc
 refine zZ (kv:=[(0,Ix b 0),(1,.agg (e.cells ve0).toArray),(3,Ix s 0),(4,.bool false),(5,Ix I 0),(25,.bool false),(6,Ix j 0),(7,Ix g 0),(49,m),(50,Iw ((yf bi M).length)),(51,Iv 0)]) ⟨rfl,rfl,rfl,rfl,rfl,rfl,rfl,rfl,(by exact jC),(by exact jD),(by exact jE),trivial⟩ (fun ρw779=>(zd (zx ?_)))
 obtain⟨bd,ir,az,it,dp⟩:=iq.lend
 have aA:=RowE.rd ir
 have hrd792s:_*96≤_:=aA.small
 have dq:=it.s8_bcdefhag
 generalize dr:((Md1 R M e m)::(MapO yR E1 P (zn d M))::aj)=bC at dq
 refine yq (fun mq σ B=> ∃(k:Nat) (ρ:Env),mq=(yf (e.typ,e.agg,e.field) M).length-k∧σ=yi ρ [(0,Ix b 0),(3,Ix s 0),(5,Ix I 0),(6,Ix j 0),(7,Ix g 0),(49,m),(50,Iw ((yf (e.typ,e.agg,e.field) M).length)),(51,Iw k)]∧(k≤(yf (e.typ,e.agg,e.field) M).length)∧(∀i,i<k→xo ((d.types.getD e.typ.toNat default).fields.getD e.field.toNat default) ((yf (e.typ,e.agg,e.field) M).getD i default) e=false)∧Sep bd Y ((BkP g e)::(BkT j d e p l)::(Blk I #[Iv 0,Iv 0] 38)::(Blk s (e.cells ve0).toArray 41)::(BkV b l O T P R)::(RwI ve0 e.deps)::bC) B) ⟨0,_,rfl,sSf,Nat.zero_le _,(fun i h=>absurd h (Nat.not_lt_zero i)),dq⟩ ?_
 rintro m797 σ798 jF ⟨k,ρl1,rfl,rfl,hkk,hno,aB⟩
 let jS:=zI Y (sb m) (so m+k*10+3)
 let jT:=((yf bi M).getD k default).cells jS
 refine za (R0 fun _=>st (zJ (k:=.i64) (a:=((k:Nat):Int)) (b:=(((yf bi M).length:Nat):Int)) rfl rfl (zd (za ?_))))
 cases aR:decide (((k:Nat):Int)<(((yf (e.typ,e.agg,e.field) M).length:Nat):Int))
 have aR:=fD aR
 try simp+zetaDelta only at aB
 rw[←dr]at aB
 have iu:=dp _ _ aB
 have hfree:=Je hfz (fun i hi=>hno i om)
 refine zg rfl (yr (yg (za ?_)))
 obtain⟨vs803,eb,iv⟩:=(iu.mv8).mapoTake VV (e.typ,e.agg)
 obtain⟨H,rfl,iw⟩:=Wu (iv.mv1) eb
 let jY:=Ms1 P d M (e.typ,e.agg) H
 have bX:Sep N p ((RwC H (stL d (e.typ,e.agg) M))::jY::ka::(BkP g e)::(BkT j d e p l)::jU::bG::(BkV b l O T P R)::(RwI ve0 e.deps)::(Md1 R M e m)::aj) jF:=iw
 have ds:=bX.r0
 have hr809s:_*32≤_:=ds.2
 have dt:=bX.s10_abdeghjcif
 generalize du:((Md1 R M e m)::(RwV m (yf (e.typ,e.agg,e.field) M))::(RwI ve0 e.deps)::(Blk I #[Iv 0,Iv 0] 38)::aj)=bD at dt
 have hve9:=Zs (e.typ,e.agg) M
 refine WD4 ((fun TT J=>WF [fun vals B=>Sep N p (J::TT) B,fun vals B=> ∃(u:Nat),(vals 10=(Ix u 0:Value))∧Sep N p ((Blk u #[Iv 0,(Iz)] 47)::J::TT) B,fun vals B=> ∃(u:Nat),(vals 10=(Ix u 0:Value))∧Sep N p ((BkS u M (e.typ,e.agg) H)::J::TT) B]) (jY::(BkP g e)::(BkT j d e p l)::bG::(BkV b l O T P R)::bD) (RwC H (stL d (e.typ,e.agg) M))) (AF [Vl 0 (Ix b 0),Vl 1 (Ix b 0),Vl 2 (Ix b 3),Vl 3 (.map (some P)),Vl 4 (Ix g 0),Vl 5 (.agg #[Iv (e.typ),Iv (e.agg)]),Vl 6 (.tuple #[.agg #[Iw (yd (e.typ,e.agg) M),H],.bool (((zn d M) (e.typ,e.agg)).isSome)]),Vl 7 (.tuple #[.agg #[Iw (yd (e.typ,e.agg) M),H],.bool (((zn d M) (e.typ,e.agg)).isSome)]),Vl 8 (.agg #[Iw (yd (e.typ,e.agg) M),H]),Vl 9 (.bool (((zn d M) (e.typ,e.agg)).isSome)),fun _=>True,fun _=>True,Vl 12 (.bool (((zn d M) (e.typ,e.agg)).isSome))]) [[],[0],[0,1],[0,1,2],[],[4],(rg 6),(rg 7),(rg 8),(rg 8),[],[0,1,2,3,4,5,6,7,8,10],(rg 12)] [10,11] [(0,1),(0,1),(0,1),(0,1),(0,1),(0,1),(0,1),(0,1),(0,1),(0,2),(0,0),(1,1),(2,2)] dt ⟨fun _ _ _ _ _ _ _=>obl rfl (mV (Ix b 0) dR),fun _ _ _ _ _ _ ix=>obl rfl (zB (b:=b) (o:=0) (ix 0 dc) dR),fun _ _ _ _ _ _ iy=>obl rfl (Uh (iy 1 dc) dR),?_,fun _ _ _ _ _ _ _=>obl rfl (Qi rfl dR),?_,?_,fun _ _ _ _ _ _ iz=>obl rfl (zV (v:=.tuple #[.agg #[Iw (yd (e.typ,e.agg) M),H],.bool (((zn d M) (e.typ,e.agg)).isSome)]) (iz 6 dc) dR),fun _ _ _ _ _ _ iA=>obl rfl (zk (vs:=[.agg #[Iw (yd (e.typ,e.agg) M),H],.bool (((zn d M) (e.typ,e.agg)).isSome)]) (i:=0) (v:=.agg #[Iw (yd (e.typ,e.agg) M),H]) (iA 7 dc) rfl dR),fun _ _ _ _ _ _ iB=>obl rfl (zk (vs:=[.agg #[Iw (yd (e.typ,e.agg) M),H],.bool (((zn d M) (e.typ,e.agg)).isSome)]) (i:=1) (v:=.bool (((zn d M) (e.typ,e.agg)).isSome)) (iB 7 dc) rfl dR),?_,?_,fun _ _ _ _ _ _ iC=>obl rfl (ya (v:=.bool (((zn d M) (e.typ,e.agg)).isSome)) (iC 9 dc) dR),trivial⟩ ?_
 refine fun bE _ _ jG jH dv dw=>?_
 have hkk:=xA jG jH
 rcases hkk with rfl|rfl
 have iD:Sep _ _ _ _:=dv
 exact obl rfl (lD (.map (some P)) tR (dw 2 dc) (zb (iD.b5) rfl) dR)
 obtain⟨u,ah,iE⟩:=dv
 exact obl rfl (lD (.map (some P)) tR (dw 2 dc) (zb (iE.b6) rfl) dR)
 refine fun bH _ _ jI jJ dx dy=>?_
 have hkk:=xA jI jJ
 rcases hkk with rfl|rfl
 have iF:Sep _ _ _ _:=dx
 exact obl rfl (zf (k:=2) (cs:=[Iv (e.typ),Iv (e.agg)]) uR vR rfl (dy 4 dc) (CellsAt.sub (CellsAt.all (iF.b2)) 0 (cs2:=[Iv (e.typ),Iv (e.agg)]) rfl) dR)
 obtain⟨u,ah,iG⟩:=dx
 exact obl rfl (zf (k:=2) (cs:=[Iv (e.typ),Iv (e.agg)]) uR vR rfl (dy 4 dc) (CellsAt.sub (CellsAt.all (iG.b3)) 0 (cs2:=[Iv (e.typ),Iv (e.agg)]) rfl) dR)
 refine fun bI _ _ jK jL dz aT=>?_
 have hkk:=xA jK jL
 rcases hkk with rfl|rfl
 have iH:Sep _ _ _ _:=dz
 exact obl rfl (ZH iH (i:=1) rfl K2 sY nR (aT 3 dc) (aT 5 dc) dR)
 obtain⟨u,ah,iI⟩:=dz
 exact obl rfl (ZH iI (i:=2) rfl K2 sY nR (aT 3 dc) (aT 5 dc) dR)
 refine ob1 0 fun _ _ (iJ:Sep _ _ _ _) _=>(obl rfl ((zt nR ?_)))
 intro w894 u iK
 exact fun C Q D=>⟨(exiA u (zv Q (iJ.new iK))),trivial⟩
 refine ob1 1 fun _ _ iL iM=>?_
 obtain⟨u,ah,dB⟩:=iL
 refine obl rfl ((zq (v:=.agg #[Iw (yd (e.typ,e.agg) M),H]) (c':=#[Iw (yd (e.typ,e.agg) M),H]) oR ah (iM 8 dc) (dB.b0) (ye ⟨rfl,ds.1.one,trivial⟩) yqc rfl ?_))
 intro w905 iN
 exact fun C Q D=>⟨(exiA u (zv ((D 10 dc).trans ah) (dB.pt0 iN))),trivial⟩
 intro vals w1001 ec ed
 obtain⟨u,ah,be⟩:=ec
 have iO:=ed 12 dc
 refine zZ (kv:=[(0,Ix b 0),(3,Ix s 0),(5,Ix I 0),(6,Ix j 0),(7,Ix g 0),(49,m),(50,Iw ((yf bi M).length)),(51,Iw k),(52,.bool false),(10,Ix u 0),(11,.bool (((zn d M) (e.typ,e.agg)).isSome))]) ⟨rfl,rfl,rfl,rfl,rfl,rfl,rfl,rfl,rfl,(by exact ah),(by exact iO),trivial⟩ (fun ρw1001=>(zd (za (za (R0 fun _=>st (mV (.bool (((zn d M) (e.typ,e.agg)).isSome)) (st (yF (a:=((zn d M) (e.typ,e.agg)).isSome) rfl (zd ?_)))))))))
 refine Vc (fun σ B=> ∃(U:Value) (ρ:Env),σ=yi ρ [(0,Ix b 0),(3,Ix s 0),(5,Ix I 0),(6,Ix j 0),(7,Ix g 0),(10,Ix u 0)]∧(U=H∨yd (e.typ,e.agg) M=0)∧Sep N p ((BkS u M (e.typ,e.agg) U)::(RwC U (clL d M e))::jY::(BkP g e)::(BkT j d e p l)::bG::(BkV b l O T P R)::bD) B) ?_ ?_
 cases aC: !(((zn d M) (e.typ,e.agg)).isSome)
 try simp only[ze]at aC
 refine zg rfl (zl ?_)
 have bf:=be.mv1
 try simp+zetaDelta only at bf
 rw[show stL d (e.typ,e.agg) M=(zQ d (e.typ,e.agg) M)from if_neg (Kc aC)]at bf
 exact⟨rfl,H,_,yO ⟨(show _=(Ix b 0:Value)from rfl),(show _=(Ix s 0:Value)from rfl),(show _=(Ix I 0:Value)from rfl),(show _=(Ix j 0:Value)from rfl),(show _=(Ix g 0:Value)from rfl),(show _=(Ix u 0:Value)from rfl),trivial⟩,(.inl rfl),(bf.mv1)⟩
 try simp only[ze]at aC
 refine zh rfl (R0 fun _=>st (zf (k:=1) uT mT rfl rfl (CellsAt.all (be.b4)) (st (cL Tryz.call13 (Jh (t:=(d.types.getD e.typ.toNat default)) V aG be) ?_))))
 rintro bJ w1010 ⟨_,rfl,bg⟩
 have bY:=bg.r0
 have hr1012s:_*32≤_:=bY.2
 refine st (yY rfl (stn (yz (v:=bJ) (c:=[Iw (yd (e.typ,e.agg) M),H]) (c':=[Iw (yd (e.typ,e.agg) M),bJ]) qA rfl rfl (bg.b1) bY.1.one rfl rfl ?_)))
 intro w1013 ee
 have bh:=bg.pt1 ee
 refine zd ?_
 have jl:yd (e.typ,e.agg) M=0:=Kf aC
 try simp+zetaDelta only at bh
 rw[show(List.replicate (d.types.getD e.typ.toNat default).fields.length (⟨0,[]⟩:Cel))=(zQ d (e.typ,e.agg) M)from(Ug (d:=d) jl).symm]at bh
 exact⟨rfl,bJ,_,yO ⟨(show _=(Ix b 0:Value)from rfl),(show _=(Ix s 0:Value)from rfl),(show _=(Ix I 0:Value)from rfl),(show _=(Ix j 0:Value)from rfl),(show _=(Ix g 0:Value)from rfl),(show _=(Ix u 0:Value)from rfl),trivial⟩,(.inr jl),(bh.s8_badefgh)⟩
 rintro _ w1017 ⟨U,ρj1,rfl,jM,ac⟩
 let kb:=RwC U (clL d M e)
 let jW:=BkS u M (e.typ,e.agg) U
 have ef:=ac.r1
 have hr1019s:_*32≤_:=ef.2
 refine za (za (R0 fun _=>st (zf (k:=1) uT mT rfl rfl (CellsAt.all (ac.b4)) (st (yY rfl (st (lD U sT rfl (zb (ac.b0) rfl) (st (xW rfl (st (lD (Iv (e.field)) kT rfl (zb (ac.b5) rfl) (st (xS rfl (st (lD (Iv (e.op)) kT rfl (zb (ac.b5) rfl) (st (Zo rfl (st (lD (Iv (e.arg)) kT rfl (zb (ac.b5) rfl) ?_)))))))))))))))))))
 obtain⟨G1021,eg,eh,ei,ej⟩:=(ac.mv1).lend
 have bt:=RowE.rd eg
 have hrd1027s:_*32≤_:=bt.small
 refine st (cL Tryz.call31 (zaZ (t:=(d.types.getD e.typ.toNat default)) (c:=(zQ d (e.typ,e.agg) M)) (vc:=U) (f:=e.field) (op:=e.op) (arg:=e.arg) (RdS.base V eh) aG bt oe.field oe.op oe.arg ei ((hft.ask (hd.typ _ om) (hinv e.typ e.agg dM dN)))) ?_)
 rintro _ w1028 ⟨rfl,ek⟩
 have aD:=ej _ _ ek
 refine st (yh (k:=.i64) (a:=yX (d.types.getD e.typ.toNat default) (zQ d (e.typ,e.agg) M) e.field e.op e.arg) (b:=0) rfl rfl (zd ?_))
 cases af: !decide ((yX (d.types.getD e.typ.toNat default) (zQ d (e.typ,e.agg) M) e.field e.op e.arg)=0)
 have af:=zu af
 have hT:yp d M e=(false,0,0):=hfree.trans (if_neg (not_not_intro af))
 refine zg rfl (zl (za ?_))
 refine WD4 ((fun TT J ab ad=>WF [fun vals B=>Sep N p (J::ab::ad::TT) B,fun vals B=> ∃(A:Value),(vals 18=(A:Value))∧Sep N p (J::(RwC A (doL (d.types.getD e.typ.toNat default) (clL d M e) e.field e.op e.arg))::ab::ad::TT) B,fun vals B=> ∃(A:Value),(vals 18=(A:Value))∧Sep N p (hv::J::ab::TT) B]) ((BkP g e)::(BkT j d e p l)::bG::(BkV b l O T P R)::bD) kb jW jY) (AF [Vl 0 (Ix b 0),Vl 1 (Ix b 0),Vl 2 (Ix b 3),Vl 3 (.map (some P)),Vl 4 (Ix g 0),Vl 5 (.agg #[Iv (e.typ),Iv (e.agg)]),Vl 6 (Ix u 0),Vl 7 (Iw (yd (e.typ,e.agg) M)),Vl 8 (Iw (yd (e.typ,e.agg) M+1)),Vl 9 (.agg jR.toArray),Vl 10 (Ix u 1),Vl 11 (U),Vl 12 (Ix s 6),Vl 13 (Iv (e.field)),Vl 14 (Ix s 7),Vl 15 (Iv (e.op)),Vl 16 (Ix s 8),Vl 17 (Iv (e.arg)),fun _=>True,fun vals=> ∀(A:Value),vals 18=(A:Value)→vals 19=(.agg #[Iw (yd (e.typ,e.agg) M+1),A]:Value),fun _=>True]) [[],[0],[0,1],[0,1,2],[],[4],[],[6],[6,7],[],[],[10],[],[12],[],[14],[],[16],[9,10,11,12,13,14,15,16,17],[6,7,8,9,10,11,12,13,14,15,16,17,18],(rg 20)] [18,20] [(0,1),(0,1),(0,1),(0,1),(0,1),(0,1),(0,1),(0,1),(0,1),(0,0),(0,0),(0,0),(0,0),(0,0),(0,0),(0,0),(0,0),(0,0),(0,0),(1,1),(1,1)] aD ⟨fun _ _ _ _ _ _ _=>obl rfl (mV (Ix b 0) dR),fun _ _ _ _ _ _ el=>obl rfl (zB (b:=b) (o:=0) (el 0 dc) dR),fun _ _ _ _ _ _ em=>obl rfl (Uh (em 1 dc) dR),?_,fun _ _ _ _ _ _ _=>obl rfl (Qi rfl dR),?_,fun _ _ _ _ _ _ _=>obl rfl (ZS rfl dR),?_,?_,ob1 0 fun _ _ (en:Sep _ _ _ _) _=>obl rfl (zf (k:=1) uT mT rfl rfl (CellsAt.all (en.b4)) dR),fun _ _ _ _ _ _ _=>obl rfl (yY rfl dR),ob1 0 fun _ _ (eo:Sep _ _ _ _) er=>obl rfl (lD U sT (er 10 dc) (zb (eo.b1) rfl) dR),fun _ _ _ _ _ _ _=>obl rfl (xW rfl dR),ob1 0 fun _ _ (es:Sep _ _ _ _) et=>obl rfl (lD (Iv (e.field)) kT (et 12 dc) (zb (es.b5) rfl) dR),fun _ _ _ _ _ _ _=>obl rfl (xS rfl dR),ob1 0 fun _ _ (eu:Sep _ _ _ _) ew=>obl rfl (lD (Iv (e.op)) kT (ew 14 dc) (zb (eu.b5) rfl) dR),fun _ _ _ _ _ _ _=>obl rfl (Zo rfl dR),ob1 0 fun _ _ (ex:Sep _ _ _ _) ey=>obl rfl (lD (Iv (e.arg)) kT (ey 16 dc) (zb (ex.b5) rfl) dR),?_,?_,?_,trivial⟩ ?_ (hlocA:=xb ⟨dA,dA,dA,dA,dA,dA,dA,dA,dA,dA,dA,dA,dA,dA,dA,dA,dA,dA,dT,fun vals C Q h=>fun A ai=>(Q 19 (.inl rfl)).trans (h A ((Q 18 (.inr dc)).symm.trans ai)),dT,trivial⟩)
 refine fun aU _ _ iP iQ bZ ca=>?_
 have hkk:=xA iP iQ
 rcases hkk with rfl|rfl
 have ez:Sep _ _ _ _:=bZ
 exact obl rfl (lD (.map (some P)) tR (ca 2 dc) (zb (ez.b6) rfl) dR)
 obtain⟨A,Z,eA⟩:=bZ
 exact obl rfl (lD (.map (some P)) tR (ca 2 dc) (zb (eA.b7) rfl) dR)
 refine fun aV _ _ iR iS cb cc=>?_
 have hkk:=xA iR iS
 rcases hkk with rfl|rfl
 have eB:Sep _ _ _ _:=cb
 exact obl rfl (zf (k:=2) (cs:=[Iv (e.typ),Iv (e.agg)]) uR vR rfl (cc 4 dc) (CellsAt.sub (CellsAt.all (eB.b3)) 0 (cs2:=[Iv (e.typ),Iv (e.agg)]) rfl) dR)
 obtain⟨A,Z,eC⟩:=cb
 exact obl rfl (zf (k:=2) (cs:=[Iv (e.typ),Iv (e.agg)]) uR vR rfl (cc 4 dc) (CellsAt.sub (CellsAt.all (eC.b4)) 0 (cs2:=[Iv (e.typ),Iv (e.agg)]) rfl) dR)
 refine fun aW _ _ iT iU cd ce=>?_
 have hkk:=xA iT iU
 rcases hkk with rfl|rfl
 have eD:Sep _ _ _ _:=cd
 exact obl rfl (lD (Iw (yd (e.typ,e.agg) M)) kT (ce 6 dc) (zb (eD.b1) rfl) dR)
 obtain⟨A,Z,eE⟩:=cd
 exact obl rfl (lD (Iw (yd (e.typ,e.agg) M)) kT (ce 6 dc) (zb (eE.b2) rfl) dR)
 refine fun aX _ _ iV iW cf cg=>?_
 have hkk:=xA iV iW
 rcases hkk with rfl|rfl
 have hS1278:Sep _ _ _ _:=cf
 refine obl rfl ?_
 have eF:InR ((yd (e.typ,e.agg) M+1:Nat):Int):=bo
 exact yb (r:=((yd (e.typ,e.agg) M+1:Nat):Int)) (k:=.i64) (a:=((yd (e.typ,e.agg) M:Nat):Int)) (b:=1) (cg 7 (by decide)) rfl (by rw[show(((yd (e.typ,e.agg) M:Nat):Int)+1:Int)=((yd (e.typ,e.agg) M+1:Nat):Int)from bo];exact zM eF) dR
 obtain⟨A,Z,hS1281⟩:=cf
 refine obl rfl ?_
 have eG:InR ((yd (e.typ,e.agg) M+1:Nat):Int):=bo
 exact yb (r:=((yd (e.typ,e.agg) M+1:Nat):Int)) (k:=.i64) (a:=((yd (e.typ,e.agg) M:Nat):Int)) (b:=1) (cg 7 (by decide)) rfl (by rw[show(((yd (e.typ,e.agg) M:Nat):Int)+1:Int)=((yd (e.typ,e.agg) M+1:Nat):Int)from bo];exact zM eG) dR
 refine ob1 0 fun vals _ (eH:Sep _ _ _ _) ak=>(obl rfl ?_)
 obtain⟨G1172,eI,eJ,eK,eL⟩:=eH.lend
 have bu:=RowE.rd eI
 have hrd1178s:_*32≤_:=bu.small
 refine(zG (f:=18) (vals:=[.agg ((d.types.getD e.typ.toNat default).cells (zI p (sb l) (so l+e.typ.toNat*1+0))).toArray,U,Iv (e.field),Iv (e.op),Iv (e.arg)]) (cap:=[]) rfl (yK ⟨(ak 9 dc),(ak 11 dc),(ak 13 dc),(ak 15 dc),(ak 17 dc),trivial⟩) Tryz.call18 (D_Do (t:=(d.types.getD e.typ.toNat default)) (c:=(zQ d (e.typ,e.agg) M)) (vc:=U) (f:=e.field) (op:=e.op) (arg:=e.arg) (RdS.base V eJ) aG bu oe.field oe.op oe.arg eK ((hft.ask (hd.typ _ om) (hinv e.typ e.agg dM dN))) ((fun _=>Kk (hinv e.typ e.agg dM dN) hfl hfh))) ?_)
 rintro A w1180 ⟨_,rfl,ch⟩
 have eM:=ch.r0
 have hr1182s:_*32≤_:=eM.2
 have eN:=eL _ _ ch
 exact fun C Q D=>⟨(exiA A (zv Q eN)),trivial⟩
 refine ob1 1 fun _ _ eO eP=>?_
 obtain⟨A,Z,eQ⟩:=eO
 refine obl rfl ?_
 have ci:=eQ.r1
 have hr1356s:_*32≤_:=ci.2
 refine zP (parts':=[(0,Iw (yd (e.typ,e.agg) M+1)),(1,A)]) (v:=.agg #[Iw (yd (e.typ,e.agg) M+1),A]) (ZE ⟨rfl,(eP 8 (by decide)),rfl,Z,trivial⟩) (by obtain⟨_,_,eR,_⟩:=ci.1;rw[show A=Value.slice _ _ _ from eR];simp[Instr.build,Instr.fill,Ev.cells,go_sem,Mv.cells,Fld.cells,Typ.cells,Prj.cells,Dcl.cells,Cel.cells,AskR.cells,CelS.cells,Ev.cells,Ent.cells,Sta.cells]) (fun C Q D=>⟨rfl,?_⟩)
 intro v1179q ai
 rw[D 18 (by decide)]at ai;cases Z.symm.trans ai
 exact Q
 refine ob1 1 fun vals _ eS bj=>?_
 obtain⟨A,Z,eT⟩:=eS
 have iX:vals 19=(.agg #[Iw (yd (e.typ,e.agg) M+1),A]:Value):=bj 19 dc A Z
 refine obl rfl ?_
 have eU:Sep _ _ ((E1 (.agg #[Iw (yd (e.typ,e.agg) M+1),A]) (yd (e.typ,e.agg) M+1,(doL (d.types.getD e.typ.toNat default) (clL d M e) e.field e.op e.arg)))::_) _:=QA (n:=yd (e.typ,e.agg) M+1) (eT.mv1)
 refine(Yd (eU.mv3) K2 sY (bj 3 dc) (bj 5 dc) iX ?_)
 intro iY eV
 have dD:Sep N p (hv::kb::jW::(BkP g e)::(BkT j d e p l)::bG::(BkV b l O T P R)::bD) iY:=eV
 exact fun C Q D=>⟨(exiA A (zv ((D 18 dc).trans Z) dD)),trivial⟩
 intro vals w1357 eW hA1359
 obtain⟨A,Z,bk⟩:=eW
 refine zZ (kv:=[(0,Ix b 0),(3,Ix s 0),(5,Ix I 0),(6,Ix j 0),(7,Ix g 0),(10,Ix u 0),(82,.agg jR.toArray),(83,Ix u 1),(84,U),(85,Ix s 6),(86,Iv (e.field)),(87,Ix s 7),(88,Iv (e.op)),(89,Ix s 8),(90,Iv (e.arg)),(91,Iv (yX (d.types.getD e.typ.toNat default) (zQ d (e.typ,e.agg) M) e.field e.op e.arg)),(92,.bool false)]) sEv (fun ρw1357=>(zd (za ?_)))
 try simp+zetaDelta only at bk
 rw[←du]at bk
 refine WD4 ((fun TT J ab ad aH aI cj ck jm eX eY=>WF [fun vals B=>Sep N p (J::ab::ad::aH::aI::cj::ck::jm::eX::eY::TT) B,fun vals B=> ∃(F:Nat),(vals 6=((Iy F 1 1):Value))∧Sep N p ((Blk F (e.cells ve0).toArray 41)::J::ab::ad::aH::aI::cj::ck::jm::eX::eY::TT) B,fun vals B=> ∃(F:Nat) (q:Int),(vals 6=((Iy F 1 1):Value))∧(vals 7=(.tuple #[m,Iv q]:Value))∧Sep N p ((Wi xO E2 R (yC M) bi q)::(Blk F (e.cells ve0).toArray 41)::J::ab::ad::aH::aI::cj::ck::eX::eY::TT) B,fun vals B=> ∃(F:Nat) (q:Int) (aa:Value),(vals 6=((Iy F 1 1):Value))∧(vals 7=(.tuple #[m,Iv q]:Value))∧(vals 9=(aa:Value))∧Sep N p ((RwV aa ((yf bi M)++[e]))::(Wi xO E2 R (yC M) bi q)::J::ab::ad::aH::aI::cj::ck::TT) B,fun vals B=> ∃(F:Nat) (q:Int) (aa:Value),(vals 6=((Iy F 1 1):Value))∧(vals 7=(.tuple #[m,Iv q]:Value))∧(vals 9=(aa:Value))∧Sep N p ((MapO xO E2 R (ZD (yC M) bi ((yf bi M)++[e])))::J::ab::ad::aH::aI::cj::ck::TT) B]) (jU::aj) hv kb jW (BkP g e) (BkT j d e p l) bG (BkV b l O T P R) (Md1 R M e m) ka (RwI ve0 e.deps)) (AF [Vl 0 (Ix b 0),Vl 1 (Ix b 0),Vl 2 (Ix b 4),Vl 3 (.map (some R)),Vl 4 (.agg #[Iv (e.typ),Iv (e.agg),Iv (e.field)]),Vl 5 (.agg (e.cells ve0).toArray),fun _=>True,fun _=>True,Vl 8 (m),fun _=>True,fun vals=> ∀(q:Int),vals 7=(.tuple #[m,Iv q]:Value)→vals 10=(Iv q:Value),fun _=>True]) [[],[0],[0,1],[0,1,2],[],[],[5],(rg 7),(rg 8),(rg 9),(rg 8),(rg 11)] [6,7,9,11] [(0,1),(0,1),(0,1),(0,1),(0,1),(0,0),(0,0),(1,1),(2,2),(2,2),(2,3),(3,3)] bk ⟨fun _ _ _ _ _ _ _=>obl rfl (mV (Ix b 0) dR),fun _ _ _ _ _ _ eZ=>obl rfl (zB (b:=b) (o:=0) (eZ 0 dc) dR),fun _ _ _ _ _ _ fa=>obl rfl (Jg (fa 1 dc) dR),?_,?_,ob1 0 fun _ _ (fb:Sep _ _ _ _) _=>obl rfl (zf (k:=10) oT lT rfl rfl (CellsAt.all (fb.b5)) dR),?_,?_,?_,?_,?_,?_,trivial⟩ ?_ (hlocA:=xb ⟨dA,dA,dA,dA,dA,dA,dT,dT,dA,dT,fun vals C Q h=>fun q ai=>(Q 10 (.inl rfl)).trans (h q ((Q 7 (.inr dc)).symm.trans ai)),dT,trivial⟩)
 refine fun aY _ _ iZ ja cl cm=>?_
 have hkk:=xA iZ ja
 rcases hkk with rfl|rfl
 have fc:Sep _ _ _ _:=cl
 exact obl rfl (lD (.map (some R)) qY (cm 2 dc) (zb (fc.b6) rfl) dR)
 obtain⟨F,X,fd⟩:=cl
 exact obl rfl (lD (.map (some R)) qY (cm 2 dc) (zb (fd.b7) rfl) dR)
 refine fun aZ _ _ jb jc cn _=>?_
 have hkk:=xA jb jc
 rcases hkk with rfl|rfl
 have fe:Sep _ _ _ _:=cn
 exact obl rfl (zf (k:=3) rY sR rfl rfl (CellsAt.all (fe.b3)) dR)
 obtain⟨F,X,ff⟩:=cn
 exact obl rfl (zf (k:=3) rY sR rfl rfl (CellsAt.all (ff.b4)) dR)
 refine ob1 0 fun _ _ (fg:Sep _ _ _ _) fh=>(obl rfl ((zY (k:=10) (parts':=[(0,.agg (e.cells ve0).toArray)]) (c:=(e.cells ve0).toArray) rR lT nY dc (ZE ⟨rfl,(fh 5 dc),trivial⟩) kr ?_)))
 intro w1413 F fi
 exact fun C Q D=>⟨(exiA F (zv Q (fg.new fi))),trivial⟩
 refine ob1 1 fun _ _ fj co=>?_
 obtain⟨F,X,fk⟩:=fj
 refine obl rfl ((WN (fk.mv8) K3 wA kB (co 3 dc) (co 4 dc) ?_))
 intro w1425 q fl
 exact fun C Q D=>⟨(exiA F (exiA q (zv ((D 6 dc).trans X) (zv Q fl)))),trivial⟩
 refine ob1 2 fun _ _ fm _=>?_
 obtain⟨F,q,X,S,hS1522⟩:=fm
 exact obl rfl (zk (vs:=[m,Iv q]) (i:=0) (v:=m) S rfl dR)
 refine ob1 2 fun _ _ fn fo=>?_
 obtain⟨F,q,X,S,cp⟩:=fn
 refine obl rfl ?_
 have dE:=cp.b1
 refine(xg (src:=own) (bytes:=96) (x1:=e) (cp.s12_jkacdefghil) zbn (fo 8 (by decide)) X dE (fun _ _ hN=>⟨_,rfl,RowE.soft hN,oe⟩) yqb rfl ?_)
 intro aa w1445 cq
 have fp:=cq.r0
 have hr1450s:_*96≤_:=fp.2
 exact fun C Q D=>⟨(exiA F (exiA q (exiA aa (zv ((D 6 dc).trans X) (zv ((D 7 dc).trans S) (zv Q cq)))))),trivial⟩
 refine fun ba _ _ jd je cr _=>?_
 have hkk:ba=2∨ba=3:=by have h1:2≤ba:=jd;have h2:ba≤3:=je;omega
 rcases hkk with rfl|rfl
 obtain⟨F,q,X,S,hS1529⟩:=cr
 refine obl rfl (zk (vs:=[m,Iv q]) (i:=1) (v:=Iv q) S rfl (fun C Q D=>⟨rfl,?_⟩))
 intro dG ai
 rw[D 7 (by decide)]at ai;cases S.symm.trans ai
 exact Q
 obtain⟨F,q,aa,X,S,aE,hS1530⟩:=cr
 refine obl rfl (zk (vs:=[m,Iv q]) (i:=1) (v:=Iv q) S rfl (fun C Q D=>⟨rfl,?_⟩))
 intro dG ai
 rw[D 7 (by decide)]at ai;cases S.symm.trans ai
 exact Q
 refine ob1 3 fun vals _ fq ct=>?_
 obtain⟨F,q,aa,X,S,aE,fr⟩:=fq
 have jf:vals 10=(Iv q:Value):=ct 10 dc q S
 refine obl rfl ((Xk (E:=E2) (v':=aa) (x':=(yf bi M)++[e]) (fr.mv1) (ct 3 dc) jf aE ?_))
 intro w1468 fs
 exact fun C Q D=>⟨(exiA F (exiA q (exiA aa (zv ((D 6 dc).trans X) (zv ((D 7 dc).trans S) (zv ((D 9 dc).trans aE) fs)))))),trivial⟩
 intro vals w1531 ft hA1533
 obtain⟨F,q,aa,X,S,aE,fu⟩:=ft
 refine zZ (kv:=[(0,Ix b 0),(3,Ix s 0),(5,Ix I 0),(6,Ix j 0),(7,Ix g 0),(10,Ix u 0),(82,.agg jR.toArray),(83,Ix u 1),(84,U),(85,Ix s 6),(86,Iv (e.field)),(87,Ix s 7),(88,Iv (e.op)),(89,Ix s 8),(90,Iv (e.arg)),(91,Iv (yX (d.types.getD e.typ.toNat default) (zQ d (e.typ,e.agg) M) e.field e.op e.arg)),(92,.bool false)]) sEv (fun ρw1531=>(zd (za ?_)))
 refine WD4 ((fun TT J=>WF [fun vals B=>Sep N p (J::TT) B,fun vals B=>Sep N p (J::TT) B]) (hv::kb::jW::(BkP g e)::(BkT j d e p l)::bG::(BkV b l O T P R)::jU::aj) (MapO xO E2 R (ZD (yC M) bi ((yf bi M)++[e])))) (AF [Vl 0 (.agg #[Iv 0,Iv 0]),Vl 1 (.bool false),fun _=>True]) [[],[],[0,1]] [2] [(0,0),(0,0),(0,0)] fu ⟨ob1 0 fun _ _ (fv:Sep _ _ _ _) _=>obl rfl (zf (k:=2) pT nT rfl rfl (CellsAt.all (fv.b8)) dR),fun _ _ _ _ _ _ _=>obl rfl (aS (.bool false) dR),?_,trivial⟩ ?_
 refine ob1 0 fun _ _ (cu:Sep _ _ _ _) fw=>(obl rfl ((zq (v:=.agg #[Iv 0,Iv 0]) (c':=#[Iv 0,Iv 0]) nT rfl (fw 0 dc) (cu.b8) (ye ⟨rfl,rfl,trivial⟩) yqc rfl ?_)))
 intro w1556 fx
 exact fun C Q D=>⟨(cu.pt8 fx),trivial⟩
 intro vals w1572 fy fz
 have cv:Sep _ _ _ _:=fy
 have jg:=fz 1 dc
 refine zZ (kv:=[(0,Ix b 0),(3,Ix s 0),(5,Ix I 0),(6,Ix j 0),(7,Ix g 0),(10,Ix u 0),(82,.agg jR.toArray),(83,Ix u 1),(84,U),(85,Ix s 6),(86,Iv (e.field)),(87,Ix s 7),(88,Iv (e.op)),(89,Ix s 8),(90,Iv (e.arg)),(91,Iv (yX (d.types.getD e.typ.toNat default) (zQ d (e.typ,e.agg) M) e.field e.op e.arg)),(92,.bool false),(4,.bool false)]) ⟨rfl,rfl,rfl,rfl,rfl,rfl,rfl,rfl,rfl,rfl,rfl,rfl,rfl,rfl,rfl,rfl,rfl,(by exact jg),trivial⟩ (fun ρw1572=>(zd (zj (Vh (b:=I) wR pT nT rfl rfl (CellsAt.all (cv.b8)) (show _=(.bool false:Value)from rfl) ?_))))
 have al:=bz _ _ cv
 try simp+zetaDelta only at al
 rw[←bx]at al
 have am:(yE d M e).void=false:=by show(yp d M e).1=false;rw[hT]
 have bl:(zn d (M++[yE d M e]))=(ZD (zn d M) (e.typ,e.agg) (yd (e.typ,e.agg) M+1,(doL (d.types.getD e.typ.toNat default) (zQ d (e.typ,e.agg) M) e.field e.op e.arg))):=VX am
 have bm:(yC (M++[yE d M e]))=(ZD (yC M) bi ((yf bi M)++[e])):=Qx am
 try simp+zetaDelta only at al
 rw[←bl,←bm]at al
 have fA:Sep _ _ (jZ::_) _:=ViewO.close (d:=d) (L:=L) (M:=(M++[yE d M e])) (al.s12_iaklcbdefghj)
 rw[hT]
 refine⟨rfl,?_,(fA.s7_a)⟩
 exact⟨by decide,by decide⟩
 have af:=zy af
 have hT:yp d M e=(true,0,0):=hfree.trans (if_pos af)
 refine zh rfl (za ?_)
 try simp+zetaDelta only at aD
 rw[←du]at aD
 refine WD4 ((fun TT J=>WF [fun vals B=>Sep N p (J::TT) B,fun vals B=>Sep N p (J::TT) B]) (jW::jY::(BkP g e)::(BkT j d e p l)::bG::(BkV b l O T P R)::(Md1 R M e m)::ka::(RwI ve0 e.deps)::jU::aj) kb) (AF [Vl 0 (.agg #[Iv 0,Iv 0]),Vl 1 (.bool true),fun _=>True]) [[],[],[0,1]] [2] [(0,0),(0,0),(0,0)] aD ⟨ob1 0 fun _ _ (fB:Sep _ _ _ _) _=>obl rfl (zf (k:=2) pT nT rfl rfl (CellsAt.all (fB.b10)) dR),fun _ _ _ _ _ _ _=>obl rfl (aS (.bool true) dR),?_,trivial⟩ ?_
 refine ob1 0 fun _ _ (cw:Sep _ _ _ _) fC=>(obl rfl ((zq (v:=.agg #[Iv 0,Iv 0]) (c':=#[Iv 0,Iv 0]) nT rfl (fC 0 dc) (cw.b10) (ye ⟨rfl,rfl,trivial⟩) yqc rfl ?_)))
 intro w1602 fE
 exact fun C Q D=>⟨(cw.pt10 fE),trivial⟩
 intro vals dC fF fG
 have cx:Sep _ _ _ _:=fF
 have jh:=fG 1 dc
 refine zZ (kv:=[(0,Ix b 0),(3,Ix s 0),(5,Ix I 0),(6,Ix j 0),(7,Ix g 0),(10,Ix u 0),(82,.agg jR.toArray),(83,Ix u 1),(84,U),(85,Ix s 6),(86,Iv (e.field)),(87,Ix s 7),(88,Iv (e.op)),(89,Ix s 8),(90,Iv (e.arg)),(91,Iv (yX (d.types.getD e.typ.toNat default) (zQ d (e.typ,e.agg) M) e.field e.op e.arg)),(92,.bool true),(4,.bool true)]) ⟨rfl,rfl,rfl,rfl,rfl,rfl,rfl,rfl,rfl,rfl,rfl,rfl,rfl,rfl,rfl,rfl,rfl,(by exact jh),trivial⟩ (fun ρw1618=>(zd (zj (Vh (b:=I) wR pT nT rfl rfl (CellsAt.all (cx.b10)) (show _=(.bool true:Value)from rfl) ?_))))
 have bn:=bz _ _ cx
 try simp+zetaDelta only at bn
 rw[←bx]at bn
 have fH:Sep _ _ ((YJ E1 (.agg #[Iw (yd (e.typ,e.agg) M),H]) ((zn d M) (e.typ,e.agg)))::_) _:=VU (bn.mv1) jM
 have fI:Sep G W (jV::(RwT l d.types)::jW::(BkP g e)::(BkT j d e p l)::bG::(BkV b l O T P R)::(Md1 R M e m)::ka::(RwI ve0 e.deps)::jU::(RwP O d.projs)::(RwN T L)::Rs) dC:=(fH.mv3).mapoPut
 have fJ:Sep _ _ ((YJ E2 m ((yC M) bi))::_) _:=Wf (fI.mv8)
 have bp:Sep G W (jX::jV::(RwT l d.types)::jW::(BkP g e)::(BkT j d e p l)::bG::(BkV b l O T P R)::(RwI ve0 e.deps)::jU::(RwP O d.projs)::(RwN T L)::Rs) dC:=(fJ.mv8).mapoPut
 have am:(yE d M e).void=true:=by show(yp d M e).1=true;rw[hT]
 have bl:(zn d (M++[yE d M e]))=(zn d M):=(xt am).1
 have bm:(yC (M++[yE d M e]))=(yC M):=(xt (d:=d) am).2
 try simp+zetaDelta only at bp
 rw[←bl,←bm]at bp
 have fK:Sep _ _ (jZ::_) _:=ViewO.close (d:=d) (L:=L) (M:=(M++[yE d M e])) (bp.s12_hcklbadefgij)
 rw[hT]
 refine⟨rfl,?_,(fK.s7_a)⟩
 exact⟨by decide,by decide⟩
 have aR:=tD aR
 refine zh rfl (zl (za (zx (za (R0 fun _=>?_)))))
 have fL:k<(yf (e.typ,e.agg,e.field) M).length:=bo
 refine st (zm (k:=10) (i:=k) rR lT rfl aA.sl rfl fL ?_)
 have cy:k<(yf (e.typ,e.agg,e.field) M).length:=bo
 obtain⟨dH,an,bq⟩:=aA.evD cy
 have hsm1638:(((yf (e.typ,e.agg,e.field) M).getD k default).deps).length*8≤140737488355328:=an.small
 have dI:=aB.cells dH (aA.foot (ne_of_lt cy))
 refine st (zf (k:=10) oT lT rfl rfl dI (st (zt nY ?_)))
 intro w1642 ap fM
 have cz:=aB.new fM
 refine stn (zq (v:=.agg jT.toArray) (c':=jT.toArray) lT rfl rfl (cz.b0) (ye ⟨rfl,rfl,rfl,an.sl.one,rfl,rfl,rfl,rfl,rfl,rfl,trivial⟩) yqc rfl ?_)
 intro w1644 fN
 refine zd (za ?_)
 refine WD4 ((fun J ab ad aH aI=>WF [fun vals B=>Sep bd Y (J::(BkP g e)::ab::ad::aH::aI::(RwI ve0 e.deps)::bC) B,fun vals B=>(vals 8=(.bool ((xo (((d.types.getD e.typ.toNat default).fields).getD e.field.toNat default) ((yf bi M).getD k default) e)):Value))∧Sep bd Y ((RwI ve0 e.deps)::J::(BkP g e)::ab::ad::aH::aI::bC) B]) (Blk ap jT.toArray 41) (BkT j d e p l) jU bG (BkV b l O T P R)) (AF [Vl 0 (Ix j 0),Vl 1 (bF),Vl 2 (Ix s 6),Vl 3 (Iv (e.field)),Vl 4 (Ix (sb bF) (so bF+e.field.toNat*4)),Vl 5 (.agg ((((d.types.getD e.typ.toNat default).fields).getD e.field.toNat default).cells (zI Y (sb bF) (so bF+e.field.toNat*4+3))).toArray),Vl 6 (.agg jT.toArray),Vl 7 (.agg (e.cells ve0).toArray),fun _=>True]) [[],[0],[],[2],(rg 4),(rg 5),[],[],(rg 8)] [8] [(0,0),(0,0),(0,0),(0,0),(0,0),(0,0),(0,0),(0,0),(0,0)] (cz.pt0 fN) ⟨fun _ _ _ _ _ _ _=>obl rfl (xe rfl dR),ob1 0 fun _ _ (fO:Sep _ _ _ _) fP=>obl rfl (lD bF uA (fP 0 dc) (zb (fO.b2) rfl) dR),fun _ _ _ _ _ _ _=>obl rfl (xW rfl dR),ob1 0 fun _ _ (fQ:Sep _ _ _ _) fR=>obl rfl (lD (Iv (e.field)) kT (fR 2 dc) (zb (fQ.b4) rfl) dR),?_,?_,ob1 0 fun _ _ (fS:Sep _ _ _ _) _=>obl rfl (zf (k:=10) oT lT rfl rfl (CellsAt.all (fS.b0)) dR),ob1 0 fun _ _ (fT:Sep _ _ _ _) _=>obl rfl (zf (k:=10) oT lT rfl rfl (CellsAt.all (fT.b4)) dR),?_,trivial⟩ ?_
 refine ob1 0 fun _ _ _ cC=>(obl rfl ?_)
 have hi1774:e.field.toNat<((d.types.getD e.typ.toNat default).fields).length:=bo
 exact zA (k:=4) (i:=e.field) vT wT (cC 1 dc) (RdS.base V az).sl (cC 3 dc) ⟨by omega,by omega⟩ dR
 refine ob1 0 fun _ _ (fU:Sep _ _ _ _) fV=>(obl rfl ?_)
 have cD:e.field.toNat<((d.types.getD e.typ.toNat default).fields).length:=bo
 obtain⟨dJ,cE,hoke1783⟩:=(RdS.base V az).fldD cD
 have hsm1785:((((d.types.getD e.typ.toNat default).fields).getD e.field.toNat default).moves).length*32≤140737488355328:=cE.small
 have dK:=fU.cells dJ ((RdS.base V az).foot (ne_of_lt cD))
 exact zf (k:=4) kA wT rfl (fV 4 dc) dK dR
 refine ob1 0 fun vals _ (cF:Sep _ _ _ _) br=>(obl rfl ?_)
 have cG:e.field.toNat<((d.types.getD e.typ.toNat default).fields).length:=bo
 obtain⟨dL,aJ,cS⟩:=(RdS.base V az).fldD cG
 have hsm1723:((((d.types.getD e.typ.toNat default).fields).getD e.field.toNat default).moves).length*32≤140737488355328:=aJ.small
 have hcw1724:=cF.cells dL ((RdS.base V az).foot (ne_of_lt cG))
 obtain⟨G1726,fW,cH,fX,fY⟩:=(cF.mv6).lend
 have bv:=RowE.rd fW
 have hrd1732s:_*8≤_:=bv.small
 refine(zG (f:=60) (vals:=[.agg ((((d.types.getD e.typ.toNat default).fields).getD e.field.toNat default).cells (zI Y (sb bF) (so bF+e.field.toNat*4+3))).toArray,.agg jT.toArray,.agg (e.cells ve0).toArray]) (cap:=[]) rfl (yK ⟨(br 5 dc),(br 6 dc),(br 7 dc),trivial⟩) Tryz.call60 (zaL (f:=(((d.types.getD e.typ.toNat default).fields).getD e.field.toNat default)) (x:=((yf bi M).getD k default)) (e:=e) (RdS.base aJ cH) cS (RdS.base an cH) bq bv oe fX) ?_)
 rintro _ w1733 ⟨rfl,fZ⟩
 have ga:=fY _ _ fZ
 exact fun C Q D=>⟨(zv Q ga),trivial⟩
 intro vals w1801 gc hA1803
 obtain⟨gd,cI⟩:=gc
 refine zZ (kv:=[(0,Ix b 0),(3,Ix s 0),(5,Ix I 0),(6,Ix j 0),(7,Ix g 0),(49,m),(50,Iw ((yf bi M).length)),(51,Iw k),(52,.bool true),(53,Ix (sb m) (so m+k*10)),(54,.agg jT.toArray),(9,Ix ap 0),(63,.bool ((xo (((d.types.getD e.typ.toNat default).fields).getD e.field.toNat default) ((yf bi M).getD k default) e)))]) ⟨rfl,rfl,rfl,rfl,rfl,rfl,rfl,rfl,rfl,rfl,rfl,rfl,(by exact gd),trivial⟩ (fun ρw1801=>(zd ?_))
 cases cJ:(xo (((d.types.getD e.typ.toNat default).fields).getD e.field.toNat default) ((yf (e.typ,e.agg,e.field) M).getD k default) e)
 refine zg rfl (zl (R0 fun _=>?_))
 have ge:InR ((k+1:Nat):Int):=bo
 refine st (yb (r:=((k+1:Nat):Int)) (k:=.i64) (a:=((k:Nat):Int)) (b:=1) rfl rfl (by rw[show(((k:Nat):Int)+1:Int)=((k+1:Nat):Int)from bo];exact zM ge) (st (mV (Iw (k+1)) (zd ?_))))
 exact⟨_,by omega,k+1,_,rfl,sSf,by omega,(yV hno cJ),(cI.s7_cdefga)⟩
 have bw:=bq
 have hT:=zbq hfz om hno cJ
 refine zh rfl (za ?_)
 refine WD4 ((fun TT J ab=>WF [fun vals B=>Sep bd Y ((RwI ve0 e.deps)::J::(BkP g e)::ab::jU::TT) B,fun vals B=>Sep bd Y ((RwI ve0 e.deps)::J::(BkP g e)::ab::(Blk I #[Iv (((yf bi M).getD k default).origin),Iv (((yf bi M).getD k default).seq)] 38)::TT) B]) (bG::(BkV b l O T P R)::bC) (Blk ap jT.toArray 41) (BkT j d e p l)) (AF [Vl 0 (Ix ap 0),Vl 1 (.agg #[Iv (((yf bi M).getD k default).origin),Iv (((yf bi M).getD k default).seq)]),Vl 2 (.bool true),fun _=>True]) [[],[0],[],[0,1,2]] [3] [(0,0),(0,0),(0,0),(0,0)] cI ⟨fun _ _ _ _ _ _ _=>obl rfl (yD rfl dR),ob1 0 fun _ _ (gf:Sep _ _ _ _) gg=>obl rfl (zf (k:=2) (cs:=[Iv (((yf bi M).getD k default).origin),Iv (((yf bi M).getD k default).seq)]) pT nT rfl (gg 0 dc) (CellsAt.sub (CellsAt.all (gf.b1)) 0 (cs2:=[Iv (((yf bi M).getD k default).origin),Iv (((yf bi M).getD k default).seq)]) rfl) dR),fun _ _ _ _ _ _ _=>obl rfl (aS (.bool true) dR),?_,trivial⟩ ?_
 refine ob1 0 fun _ _ (cK:Sep _ _ _ _) gh=>(obl rfl ((zq (v:=.agg #[Iv (((yf bi M).getD k default).origin),Iv (((yf bi M).getD k default).seq)]) (c':=#[Iv (((yf bi M).getD k default).origin),Iv (((yf bi M).getD k default).seq)]) nT rfl (gh 1 dc) (cK.b4) (ye ⟨rfl,rfl,trivial⟩) yqc rfl ?_)))
 intro w1837 gi
 exact fun C Q D=>⟨(cK.pt4 gi),trivial⟩
 intro vals ji gj gk
 have cM:Sep _ _ _ _:=gj
 have jj:=gk 2 dc
 refine zZ (kv:=[(0,Ix b 0),(3,Ix s 0),(5,Ix I 0),(6,Ix j 0),(7,Ix g 0),(49,m),(50,Iw ((yf bi M).length)),(51,Iw k),(52,.bool true),(53,Ix (sb m) (so m+k*10)),(54,.agg jT.toArray),(9,Ix ap 0),(63,.bool true),(4,.bool true)]) ⟨rfl,rfl,rfl,rfl,rfl,rfl,rfl,rfl,rfl,rfl,rfl,rfl,rfl,(by exact jj),trivial⟩ (fun ρw1860=>(zd (zj (Vh (b:=I) wR pT nT rfl rfl (CellsAt.all (cM.b4)) (show _=(.bool true:Value)from rfl) ?_))))
 have gl:=dp _ _ cM
 have ao:=bz _ _ gl
 try simp+zetaDelta only at ao
 rw[←dr]at ao
 try simp+zetaDelta only at ao
 rw[←bx]at ao
 have gm:Sep _ _ ((YJ E2 m ((yC M) bi))::_) _:=Wf (ao.mv1)
 have bs:Sep G W (jX::(RwT l d.types)::(RwI ve0 e.deps)::(Blk ap jT.toArray 41)::(BkP g e)::(BkT j d e p l)::(Blk I #[Iv (((yf bi M).getD k default).origin),Iv (((yf bi M).getD k default).seq)] 38)::bG::(BkV b l O T P R)::jV::(RwP O d.projs)::(RwN T L)::Rs) ji:=(gm.mv9).mapoPut
 have am:(yE d M e).void=true:=by show(yp d M e).1=true;rw[hT]
 have bl:(zn d (M++[yE d M e]))=(zn d M):=(xt am).1
 have bm:(yC (M++[yE d M e]))=(yC M):=(xt (d:=d) am).2
 try simp+zetaDelta only at bs
 rw[←bl,←bm]at bs
 have gn:Sep _ _ (jZ::_) _:=ViewO.close (d:=d) (L:=L) (M:=(M++[yE d M e])) (bs.s12_ibkljacdefgh)
 rw[hT]
 refine⟨rfl,?_,(gn.s7_a)⟩
 exact⟨bw.origin,bw.seq⟩
 have ag:=zy ag
 have hT:yp d M e=(true,0,0):=UN ag
 refine zh rfl (za (WD4 ((fun TT=>WF [fun vals B=>Sep G W ((RwT l d.types)::TT) B,fun vals B=>Sep G W ((RwT l d.types)::TT) B]) ((RwP O d.projs)::jU::bG::(BkV b l O T P R)::(RwN T L)::jV::jX::(RwI ve0 e.deps)::Rs)) (AF [Vl 0 (.agg #[Iv 0,Iv 0]),Vl 1 (.bool true),fun _=>True]) [[],[],[0,1]] [2] [(0,0),(0,0),(0,0)] cV ⟨ob1 0 fun _ _ (go:Sep _ _ _ _) _=>obl rfl (zf (k:=2) pT nT rfl rfl (CellsAt.all (go.b2)) dR),fun _ _ _ _ _ _ _=>obl rfl (aS (.bool true) dR),?_,trivial⟩ ?_))
 refine ob1 0 fun _ _ (cN:Sep _ _ _ _) gp=>(obl rfl ((zq (v:=.agg #[Iv 0,Iv 0]) (c':=#[Iv 0,Iv 0]) nT rfl (gp 0 dc) (cN.b2) (ye ⟨rfl,rfl,trivial⟩) yqc rfl ?_)))
 intro w1895 gq
 exact fun C Q D=>⟨(cN.pt2 gq),trivial⟩
 intro vals w1911 gr gs
 have aF:Sep _ _ _ _:=gr
 have jk:=gs 1 dc
 refine zZ (kv:=[(0,Ix b 0),(1,.agg (e.cells ve0).toArray),(3,Ix s 0),(4,.bool true),(5,Ix I 0),(25,.bool true)]) ⟨rfl,rfl,rfl,(by exact jk),rfl,rfl,trivial⟩ (fun ρw1911=>(zd (zj (Vh (b:=I) wR pT nT rfl rfl (CellsAt.all (aF.b2)) (show _=(.bool true:Value)from rfl) ?_))))
 have am:(yE d M e).void=true:=by show(yp d M e).1=true;rw[hT]
 have bl:(zn d (M++[yE d M e]))=(zn d M):=(xt am).1
 have bm:(yC (M++[yE d M e]))=(yC M):=(xt (d:=d) am).2
 try simp+zetaDelta only at aF
 rw[←bl,←bm]at aF
 have gt:Sep _ _ (jZ::_) _:=ViewO.close (d:=d) (L:=L) (M:=(M++[yE d M e])) (aF.s9_eabfghcdi)
 rw[hT]
 refine⟨rfl,?_,(gt.s4_a)⟩
 exact⟨by decide,by decide⟩
end
end Go.Proofs.YtbbabhaalmkbkaaGreatDoor
