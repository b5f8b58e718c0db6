import Derived.Test.YtbcdijeggfoabaaGreatDoorW8
import Derived.Test.YtbcdijeggfoabaaGreatDoorW1
import Derived.Shelf.SlSortCmp.NoneTotal
import Derived.Test.YtbcdijeggfoabaaGreatDoorProg
import Derived.Test.YtbcdijeggfoabaaGreatDoorW7
set_option linter.unusedSimpArgs false
set_option linter.unusedVariables false
set_option linter.unusedSectionVars false
set_option linter.deprecated false
open Go.Proofs.Tryz renaming isAgg3→kT,sizeOf44→lT,isAgg44→mT,f54→nT,zeroValue44→oT,sizeOf3→pT,isAgg116→qT,isAgg26→rT,underlying42→sT,results29→tT,underlying116→uT,underlying26→vT,isAgg42→wT,isAgg41→kR,sizeOf41→lR,call117→mR,call69→nR,sizeOf26→oR,zeroValue3→pR,zeroValue26→qR,call54→rR,results35→sR,results38→tR
namespace Go.Proofs.YtbcdijeggfoabaaGreatDoor
variable {G:Nat→Prop}{W w:World}{Rs:List HP}
section
open Go.RowKit Go.MapKept
def cA:Code→Code
 | .seq a _=>a
 | .rangeFunc _ _ a _=>a
 |c=>c
def cB:Code→Code
 | .seq _ b=>b
 | .block _ c=>c
 | .rangeFunc _ _ _ b=>b
 |c=>c
def zea (f:Func):Code:=f.body.getD .skip
section
variable {P:Program}{σ:Env}{w:World}{K:Value→World→Prop}{d:Option Tmp}{ty:TypeId}{pos:String}{af:Array Edge}{g:Option (Nat×Bool)}
variable {G:Nat→Prop}{W:World}{As:List HP}{m it clock:Nat}{es:Array MapEntry}{idx:List Nat}
def Wd (it m:Nat)(es:Array MapEntry)(clock:Nat)(idx:List Nat):HP:=⟨fun w f=>f it∧ ∃seen,w.heap[it]? =some (.mapIter (some m) clock seen clock)∧idx.Nodup∧(∀j∈idx,j<es.size)∧seen.toList=idx.map fun j=>(es.toList[j]?.map (·.born)).getD 0,fun⟨h1,seen,h2,h3⟩ hf=>⟨(hf _ h1 (xj h2)).2,seen,((hf _ h1 (xj h2)).1).trans h2,h3⟩⟩
theorem Jw {t kt et:TypeId}{x:Operand}(h:Sep G W As w)(hG:G m)(hm:W.heap[m]? =some (.map es clock))(hU:P.underlying t=some (.map kt et))(hx:ev σ x=.map (some m))
 (hk: ∀w1 it,Sep G W (Wd it m es clock []::As) w1→K (.pointer (some ⟨it,0,none⟩)) w1):opV P ⟨d,.range t x,ty,pos,af,g⟩ σ w K:=by
 have hb:=(h.gb hG).trans hm
 have hn:=New.mk' w (.mapIter (some m) clock #[] clock)
 refine yo (v:=.pointer (some ⟨w.heap.size,0,none⟩)) (w':={w with heap:=w.heap.push (.mapIter (some m) clock #[] clock)}) ?_ (hk _ _ (h.push hn.ext (f:=fun i=>i=w.heap.size) ⟨rfl,#[],hn.at_,List.nodup_nil,by simp,rfl⟩ (fun i hi=>by omega)))
 have:=run_range_map (P:=P) w t kt et m es clock hU hb
 simp[execOp,hx,go_sem]
 rw[this];rfl
theorem zas {x:Operand}(h:Sep G W (Wd it m es clock idx::As) w)(hG:G m)(hm:W.heap[m]? =some (.map es clock))(hs:Stamped es clock)(hx:ev σ x=.pointer (some ⟨it,0,none⟩))
 (h0:List.Perm idx (List.range es.size)→K (.tuple #[.bool false]) w)
 (h1: ∀w1 j,j<es.size→idx.length<es.size→(idx++[j]).Nodup→Sep G W (Wd it m es clock (idx++[j])::As) w1→ ∀u v,K (.tuple #[.bool true,u,v]) w1):opV P ⟨d,.next x false,ty,pos,af,g⟩ σ w K:=by
 have hb:=(h.gb hG).trans hm
 obtain⟨f0,⟨hf0,seen,hit,hn,hlt,hseen⟩,hfl,hT⟩:=h.take (i:=0) rfl
 have hmi:m≠it:=fun e=>(hfl it hf0).1 (e▸hG)
 rcases run_next_at (P:=P) w ty it m clock clock seen es clock hit hb hs.1 (Nat.le_refl _)with⟨hz,hr⟩|⟨e,hel,w1,hal,hr⟩
 ·refine yo (v:=.tuple #[.bool false]) (w':=w) (by simp[execOp,hx,hr,go_sem]) (h0 (zco hn hlt fun j hj=>?_))
  have hj':j<es.toList.length:=by simpa using hj
  have h2:=all_seen es seen hz _ (List.getElem_mem hj')
  have h3:(es.toList[j]).born∈seen.toList:=by simpa[Array.contains_iff_mem]using h2
  rw[hseen,List.mem_map]at h3
  obtain⟨i,hi,hbi⟩:=h3
  have hi':i<es.toList.length:=by simpa using hlt i hi
  rw[List.getElem?_eq_getElem hi']at hbi
  have h4:(es.toList[i]).born=(es.toList[j]).born:=hbi
  have h5:=List.pairwise_map.1 hs.2.1
  have:i=j:=by
   rcases Nat.lt_trichotomy i j with h|h|h
   ·exact absurd h4 (List.pairwise_iff_getElem.1 h5 i j hi' hj' h)
   ·exact h
   ·exact absurd h4.symm (List.pairwise_iff_getElem.1 h5 j i hj' hi' h)
  rwa [←this]
 ·obtain⟨hmem,hns⟩:=mem_left hel
  obtain⟨j,hj,rfl⟩:=List.getElem_of_mem hmem
  have hjl:j<es.size:=by simpa using hj
  have hji:j∉idx:=by
   intro h
   have:(es.toList[j]).born∈seen.toList:=by
    rw[hseen,List.mem_map]
    exact⟨j,h,by rw[List.getElem?_eq_getElem hj];rfl⟩
   have h3:seen.contains (es.toList[j]).born=true:=by
    have h4:(es.toList[j]).born∈seen:=by simpa using this
    simpa using h4
   rw[hns]at h3;cases h3
  have hnd:(idx++[j]).Nodup:=by
   rw[List.nodup_append]
   exact⟨hn,by simp,fun a ha b hb=>by simp at hb;subst hb;exact fun e=>hji (e▸ha)⟩
  have hall: ∀i∈idx++[j],i<es.size:=by
   intro i hi
   rcases List.mem_append.1 hi with h|h
   ·exact hlt i h
   ·simp at h;subst h;exact hjl
  have hle:=Yu _ _ hnd hall
  have hw1:w1.heap=w.heap∧w1.os=w.os∧w1.tape=w.tape∧w1.output=w.output∧w.drawn≤w1.drawn:=by
   rcases hal with rfl|rfl
   ·exact⟨rfl,rfl,rfl,rfl,Nat.le_refl _⟩
   ·exact⟨rfl,rfl,rfl,rfl,Nat.le_succ _⟩
  have hlt2:=xj hit
  have hcell: ∀i,i≠it→(ChangeMaps.setBlock w1 it (.mapIter (some m) clock (seen.push (es.toList[j]).born) clock)).heap[i]? =w.heap[i]? :=by
   intro i hne
   show(w1.heap.setIfInBounds it _)[i]? =_
   rw[hw1.1]
   simp[Ne.symm hne]
  have hchg:Chg f0 w (ChangeMaps.setBlock w1 it (.mapIter (some m) clock (seen.push (es.toList[j]).born) clock)):=by
   refine⟨hw1.2.1,hw1.2.2.1,hw1.2.2.2.1,?_,fun i hi hne=>hcell i (fun e=>hne (e▸hf0)),?_,hw1.2.2.2.2⟩
   ·show _≤(w1.heap.setIfInBounds it _).size
    rw[hw1.1];simp
   ·rintro i ⟨c,T,hc⟩
    have hne:i≠it:=fun e=>by subst e;rw[hit]at hc;cases hc
    exact⟨c,T,by rw[hcell i hne];exact hc⟩
  refine yo (v:=.tuple #[.bool true,(es.toList[j]).key,(es.toList[j]).val]) (w':=ChangeMaps.setBlock w1 it (.mapIter (some m) clock (seen.push (es.toList[j]).born) clock)) (by simp[execOp,hx,hr,go_sem]) (h1 _ j hjl (by simp at hle;omega) hnd (hT _ (Wd it m es clock (idx++[j])) f0 hchg ⟨hf0,seen.push (es.toList[j]).born,?_,hnd,hall,?_⟩ (fun _ hb=>.inl hb)) _ _)
  ·show(w1.heap.setIfInBounds it _)[it]? =_
   rw[hw1.1];simp[hlt2]
  ·rw[Array.toList_push,hseen,List.map_append,List.map_cons,List.map_nil,List.getElem?_eq_getElem hj];rfl
theorem Jx {x:Operand}{j:Nat}(h:Sep G W (Wd it m es clock (idx++[j])::As) w)(hG:G m)(hm:W.heap[m]? =some (.map es clock))(hs:Stamped es clock)(hx:ev σ x=.pointer (some ⟨it,0,none⟩))(hj:j<es.toList.length){v:Value}(hv:es.toList[j].val=v)
 (hk:K (.tuple #[es.toList[j].key,v]) w):opV P ⟨d,.entry x,ty,pos,af,g⟩ σ w K:=by
 subst hv
 have hb:=(h.gb hG).trans hm
 obtain⟨f0,⟨hf0,seen,hit,hn,hlt,hseen⟩,_⟩:=h.get (i:=0) rfl
 have hsn: ∃seen0:Array Nat,seen=seen0.push (es.toList[j]).born:=by
  refine⟨(idx.map fun j=>(es.toList[j]?.map (·.born)).getD 0).toArray,?_⟩
  apply Array.ext'
  rw[hseen,Array.toList_push,List.map_append,List.map_cons,List.map_nil,List.getElem?_eq_getElem hj];rfl
 obtain⟨seen0,rfl⟩:=hsn
 have hrun:=run_entry_at (P:=P) w it m clock seen0 es clock _ hit hb (List.getElem_mem hj) hs.2.1
 exact yo (v:=.tuple #[es.toList[j].key,es.toList[j].val]) (w':=w) (by simp[execOp,hx,hrun,go_sem]) hk
theorem zbD {x y:Operand}{ts:Array TypeId}{l:Nat}{rec:Loop}{v:Value}{p:Tmp}(hx:ev σ x=.func (.yield l) #[] #[])(hy:ev σ y=v)(hl:w.heap[l]? =some (.loop rec))(hp:rec.params=#[p])
 (h:RoundIn (FR none) 0 P l rec.fn ((#[p].zip #[v]).foldl (fun t (p,v)=>t.setIfInBounds p v) rec.tmps) rec.assign rec.body w (fun e w''=> ∃v,e=.returned v∧K v w'')):opX P ⟨d,.call ⟨.value x,#[y],ts⟩,ty,pos,af,g⟩ σ w K:=by
 have hr:=run_yield (P:=P) (args:=#[v]) hl (by simp[hp])
 have:(execOp (ev σ) ⟨d,.call ⟨.value x,#[y],ts⟩,ty,pos,af,g⟩).run P w=.ok (.round l rec.fn ((rec.params.zip #[v]).foldl (fun t (p,v)=>t.setIfInBounds p v) rec.tmps) rec.assign rec.body) w:=by
  simp[execOp,resolve,hx,Deferred.ofValue,invoke,hy,go_sem,hr]
 unfold opX
 rw[this,hp]
 exact h
end
end
section
set_option maxRecDepth 8000
set_option maxHeartbeats 4000000
open Go.Proofs Go.RowKit
section
variable {G:Nat→Prop}{W w:World}{Rs:List HP}
theorem zcF {l bm m clock:Nat}{es:Array MapEntry}{rec:Loop}{p:Tmp}{A:List Nat→HP}(hG:G m)(hm:W.heap[m]? =some (.map es clock))(hs:MapKept.Stamped es clock)(hp:rec.params=#[p])
 (hval: ∀j (hj:j<es.toList.length),∃(x:Ev) (vd:Value),es.toList[j].val=.agg (x.cells vd).toArray∧vd.oneCell'=true)
 (hY: ∀idx j (hj:j<es.toList.length) (v:Value) (Fr:List HP) (w:World),es.toList[j].val=v→idx.length<es.size→(idx++[j]).Nodup→Sep G W (A idx::YK l (.loop rec)::Fr) w→RoundIn (FR none) 0 Tryz.prog l rec.fn ((#[p].zip #[v]).foldl (fun t (p,v)=>t.setIfInBounds p v) rec.tmps) rec.assign rec.body w (fun e w'=>e=.returned (.bool true)∧Sep G W (A (idx++[j])::YK l (.loop rec)::Fr) w'))
 (hS0:Sep G W (A []::YK l (.loop rec)::Blk bm #[.map (some m)] 116::Rs) w):
 Ret Tryz.prog 113 [.func (.yield l) #[] #[],.pointer (some ⟨bm,0,none⟩)] w (fun r w'=> ∃idx,List.Perm idx (List.range es.size)∧Sep G W (A idx::YK l (.loop rec)::Blk bm #[.map (some m)] 116::Rs) w'):=by
 refine zi (args:=[.func (.yield l) #[] #[],Ix bm 0]) Tryz.func113 rfl rfl ?_
 refine za (R0 fun _=>st (lD (.map (some m)) qT rfl (zd (hS0.b2) rfl) (st (Jw hS0 hG hm uT rfl ?_))))
 intro w1 it h
 refine zb (zn (zZ (fun mq σ s=> ∃(idx:List Nat) (ρ:Env),mq=es.size-idx.length∧σ=yd ρ [(0,.func (.yield l) #[] #[]),(6,Ix it 0)]∧Sep G W (Wd it m es clock idx::A idx::YK l (.loop rec)::Blk bm #[.map (some m)] 116::Rs) s) ⟨[],_,rfl,sSf,h⟩ ?_))
 rintro _ _ w2 ⟨idx,ρ,rfl,rfl,b⟩
 refine za (R0 fun _=>st (zas b hG hm hs rfl ?_ ?_))
 intro hperm
 refine st (zm (vs:=[.bool false]) (i:=0) (v:=.bool false) rfl rfl (zb (za (ze rfl (ya (zS (UB Tryz.results113 ?_)))))))
 exact⟨idx,hperm,b.sel 4 [1,2,3] (Nat.le_add_left _ _) rfl rfl⟩
 intro w3 j hj hlt hnd c u v
 have hj':j<es.toList.length:=by simpa using hj
 obtain⟨x,vd,hcv,hone⟩:=hval j hj'
 refine st (zm (vs:=[.bool true,u,v]) (i:=0) (v:=.bool true) rfl rfl (zb (za (zg rfl (zl (zn (za (R0 fun _=>st (Jx c hG hm hs rfl hj' hcv (st (zm (vs:=[es.toList[j].key,.agg (x.cells vd).toArray]) (i:=1) (v:=.agg (x.cells vd).toArray) rfl rfl (st (zq oT ?_)))))))))))))
 intro w4 b4 n
 have d:=c.new n
 refine stn (zp (v:=.agg (x.cells vd).toArray) (c':=(x.cells vd).toArray) lT rfl rfl (d.b0) (zX ⟨rfl,rfl,rfl,hone,rfl,rfl,rfl,rfl,rfl,rfl,trivial⟩) yqc rfl ?_)
 intro y o
 have f:=d.put (i:=0) rfl o
 refine zb (za (zcM (XE kr (zdu (mV (.func (.yield l) #[] #[]) (zdu (zh (k:=10) mT lT rfl rfl (CellsAt.all (f.b0)) ?_)))))))
 have g:Sep G W (A idx::YK l (.loop rec)::Blk bm #[.map (some m)] 116::Wd it m es clock (idx++[j])::Rs) y:=f.sel 5 [2,3,4,1] (Nat.le_add_left _ _) rfl rfl
 refine stX (zbD (l:=l) (rec:=rec) (p:=p) (v:=.agg (x.cells vd).toArray) rfl rfl (g.obj (i:=1) rfl) hp (RoundIn.mono (hY idx j hj' _ _ _ hcv hlt hnd g) ?_))
 rintro e w6 ⟨rfl,q⟩
 refine⟨_,rfl,?_⟩
 refine zdu (yB (a:=true) rfl (zcS (ze rfl (zl ?_))))
 exact⟨_,by simp;omega,idx++[j],_,rfl,sSf,q.sel 4 [3,0,1,2] (Nat.le_add_left _ _) rfl rfl⟩
end
end
section
set_option maxRecDepth 8000
set_option maxHeartbeats 4000000
open Go.Proofs Go.RowKit
def ZT (f:Func):Code:=cB (cB (cA (cB (cB (zea f)))))
theorem Jp {G:Nat→Prop}{W w:World}{Fr:List HP}{l b6 bis bo:Nat}{fis:FuncId}{caps:List Value}{p:Ev→Bool}(hfis: ∀args w,(callFunc fis args).run Tryz.prog w=.ok (.enter fis args) w)(hIs: ∀{w:World} {Rs:List HP} {x:Ev} {dx0:Value} (hdx0:RdS W G dx0 x.deps) (ox:x.Ok),Sep G W Rs w→Ret Tryz.prog fis (.agg (x.cells dx0).toArray::caps) w (fun r w'=>r=(.bool (p x):Value)∧Sep G W Rs w')){x:Ev}{vd:Value}(hd:RdS W G vd x.deps)(ok:x.Ok){vo:Value}{M:List Ev}(hML:M.length≤1000000){ρ:Env}{K:Env→World→Prop}(hk: ∀σ' w' vo' M',M'=M++(if p x=true then[x]else[])→Sep G W (Blk bis #[.func (.func fis) #[] caps.toArray] 91::Blk bo #[vo'] 26::RowE (α:=Ev) own 44 vo' M'::Fr) w'→K σ' w')(hS0:Sep G W (Blk b6 (x.cells vd).toArray 44::Blk bis #[.func (.func fis) #[] caps.toArray] 91::Blk bo #[vo] 26::RowE (α:=Ev) own 44 vo M::Fr) w):WPX (some l) [] Tryz.prog 24 (cB (ZT nT)) (VL K) (yd ρ [(3,.pointer (some ⟨bis,0,none⟩)),(5,.pointer (some ⟨bo,0,none⟩)),(6,.pointer (some ⟨b6,0,none⟩))]) w:=by
 have hds:_*8≤_:=hd.small
 have hr1:=hS0.row (i:=3) rfl
 have hr1s:_*96≤_:=hr1.2
 refine JG ?_
 refine VW ?_
 refine ZA (by kernel_rfl) (fun _=>?_)
 refine st (Ze (v:=.func (.func fis) #[] caps.toArray) Tryz.isAgg91 rfl (zd (hS0.blk (i:=1) rfl) rfl) ?_)
 refine st (zh (k:=10) mT lT rfl rfl (CellsAt.all (hS0.blk (i:=0) rfl)) ?_)
 refine st (zH (f:=fis) (vals:=[.agg (x.cells vd).toArray]) (cap:=caps) (show _=(.func (.func fis) #[] caps.toArray:Value)from rfl) rfl hfis (hIs hd ok hS0) ?_)
 rintro _ w2 ⟨rfl,hS3⟩
 refine zb ?_
 cases hc4:p x
 ·skip
  refine QQ rfl ?_
  refine zbh ?_
  have hS5:Sep G W ((Blk bis #[.func (.func fis) #[] caps.toArray] 91)::(Blk bo #[vo] 26)::(RowE (α:=Ev) own 44 vo M)::Fr) w2:=hS3.sel 4 [1,2,3] (Nat.le_add_left _ _) rfl rfl
  exact hk _ _ _ _ (by simp only[*,Bool.false_eq_true,if_false,List.append_nil]) hS5
 ·skip
  refine Kg rfl ?_
  refine Jt (WF [fun vals wq=>Sep G W ((Blk b6 (x.cells vd).toArray 44)::(Blk bis #[.func (.func fis) #[] caps.toArray] 91)::(Blk bo #[vo] 26)::(RowE (α:=Ev) own 44 vo M)::Fr) wq,fun vals wq=> ∃(v28:Value),(vals 2=(.agg (x.cells v28).toArray:Value))∧Sep G W ((RowE (α:=Int) own 3 v28 x.deps)::(Blk b6 (x.cells vd).toArray 44)::(Blk bis #[.func (.func fis) #[] caps.toArray] 91)::(Blk bo #[vo] 26)::(RowE (α:=Ev) own 44 vo M)::Fr) wq,fun vals wq=> ∃(v28:Value) (b41:Nat),(vals 2=(.agg (x.cells v28).toArray:Value))∧(vals 3=((.slice (some ⟨b41,0,none⟩) 1 1):Value))∧Sep G W ((Blk b41 (x.cells v28).toArray 44)::(RowE (α:=Int) own 3 v28 x.deps)::(Blk b6 (x.cells vd).toArray 44)::(Blk bis #[.func (.func fis) #[] caps.toArray] 91)::(Blk bo #[vo] 26)::(RowE (α:=Ev) own 44 vo M)::Fr) wq,fun vals wq=> ∃(v28:Value) (b41:Nat) (v54:Value),(vals 2=(.agg (x.cells v28).toArray:Value))∧(vals 3=((.slice (some ⟨b41,0,none⟩) 1 1):Value))∧(vals 4=(v54:Value))∧Sep G W ((RowE (α:=Ev) own 44 v54 (M++[x]))::(Blk b6 (x.cells vd).toArray 44)::(Blk bis #[.func (.func fis) #[] caps.toArray] 91)::(Blk bo #[vo] 26)::Fr) wq,fun vals wq=> ∃(v28:Value) (b41:Nat) (v54:Value),(vals 2=(.agg (x.cells v28).toArray:Value))∧(vals 3=((.slice (some ⟨b41,0,none⟩) 1 1):Value))∧(vals 4=(v54:Value))∧Sep G W ((RowE (α:=Ev) own 44 v54 (M++[x]))::(Blk b6 (x.cells vd).toArray 44)::(Blk bis #[.func (.func fis) #[] caps.toArray] 91)::(Blk bo #[v54] 26)::Fr) wq]) (AF [Vl 0 (vo),Vl 1 (.agg (x.cells vd).toArray),fun _=>True,fun _=>True,fun _=>True,fun _=>True]) [[],[],[1],[1,2],[0,1,2,3],[0,1,2,3,4]] [2,3,4,5] [(0,2),(0,0),(0,0),(1,1),(2,2),(3,3)] (by kernel_rfl) (by kernel_rfl) (by kernel_rfl) rfl (by kernel_rfl) (by kernel_rfl) (fun _ h1 h2 h3 h4 _=>hS3.same h1 h2 h3 h4) ?_ (yX ⟨dA,dA,dT,dT,dT,dT,trivial⟩) ⟨?_,?_,?_,?_,?_,?_,trivial⟩ ?_
  ·intro k vals vals' w hv h
   have e: ∀j∈([2,3,4,5]:List Nat),vals' j=vals j:=hv
   match k,h with
   |0,h=>exact h
   |1,h=>exact(by simpa only[WF,List.getElem?_cons_zero,List.getElem?_cons_succ,e 2 (by decide)]using h)
   |2,h=>exact(by simpa only[WF,List.getElem?_cons_zero,List.getElem?_cons_succ,e 2 (by decide),e 3 (by decide)]using h)
   |3,h=>exact(by simpa only[WF,List.getElem?_cons_zero,List.getElem?_cons_succ,e 2 (by decide),e 3 (by decide),e 4 (by decide)]using h)
   |4,h=>exact(by simpa only[WF,List.getElem?_cons_zero,List.getElem?_cons_succ,e 2 (by decide),e 3 (by decide),e 4 (by decide)]using h)
   |_+5,_=>trivial
  ·intro k71 vals w72 h75 h76 hW74 hA73
   have hkk:=JP h75 h76
   rcases hkk with rfl|rfl|rfl
   ·skip
    have hS77:Sep _ _ _ _:=hW74
    refine obl rfl ?_
    exact Ze (v:=vo) rT rfl (zd (hS77.blk (i:=2) rfl) rfl) (fun vals' hv _=>⟨rfl,hv⟩)
   ·skip
    obtain⟨v28,he32,hS78⟩:=hW74
    refine obl rfl ?_
    exact Ze (v:=vo) rT rfl (zd (hS78.blk (i:=3) rfl) rfl) (fun vals' hv _=>⟨rfl,hv⟩)
   ·skip
    obtain⟨v28,b41,he32,he44,hS79⟩:=hW74
    refine obl rfl ?_
    exact Ze (v:=vo) rT rfl (zd (hS79.blk (i:=4) rfl) rfl) (fun vals' hv _=>⟨rfl,hv⟩)
  ·intro k80 vals w81 h84 h85 hW83 hA82
   obtain rfl:k80=0:=Nat.le_antisymm h85 h84
   have hS86:Sep _ _ _ _:=hW83
   refine obl rfl ?_
   exact zh (k:=10) mT lT rfl rfl (CellsAt.all (hS86.blk (i:=0) rfl)) (fun vals' hv _=>⟨rfl,hv⟩)
  ·intro k20 vals w21 h24 h25 hW23 hA22
   obtain rfl:k20=0:=Nat.le_antisymm h25 h24
   have hS26:Sep _ _ _ _:=hW23
   have e27:=hA22 1 (by decide)
   refine obl rfl ?_
   refine(zH (f:=69) (vals:=[.agg (x.cells vd).toArray]) (cap:=[]) rfl (yE ⟨e27,trivial⟩) nR (VC (e:=x) hd ok hS26) ?_)
   rintro _ w29 ⟨v28,rfl,hS30⟩
   have hr31:=hS30.row (i:=0) rfl
   have hr31s:_*8≤_:=hr31.2
   intro vals' hv hv'
   refine⟨?_,trivial⟩
   show ∃(v28:Value),(vals' 2=(.agg (x.cells v28).toArray:Value))∧Sep G W ((RowE (α:=Int) own 3 v28 x.deps)::(Blk b6 (x.cells vd).toArray 44)::(Blk bis #[.func (.func fis) #[] caps.toArray] 91)::(Blk bo #[vo] 26)::(RowE (α:=Ev) own 44 vo M)::Fr) w29
   exact⟨v28,hv,hS30⟩
  ·intro k33 vals w34 h37 h38 hW36 hA35
   obtain rfl:k33=1:=Nat.le_antisymm h38 h37
   obtain⟨v28,he32,hS39⟩:=hW36
   refine obl rfl ?_
   refine(zI (k:=10) (parts':=[(0,.agg (x.cells v28).toArray)]) (c:=(x.cells v28).toArray) vT lT oT (by decide) (Zi ⟨rfl,he32,trivial⟩) (by kernel_rfl) ?_)
   intro w42 b41 hn40
   have hS43:=hS39.new hn40
   intro vals' hv hv'
   refine⟨?_,trivial⟩
   show ∃(v28:Value) (b41:Nat),(vals' 2=(.agg (x.cells v28).toArray:Value))∧(vals' 3=((.slice (some ⟨b41,0,none⟩) 1 1):Value))∧Sep G W ((Blk b41 (x.cells v28).toArray 44)::(RowE (α:=Int) own 3 v28 x.deps)::(Blk b6 (x.cells vd).toArray 44)::(Blk bis #[.func (.func fis) #[] caps.toArray] 91)::(Blk bo #[vo] 26)::(RowE (α:=Ev) own 44 vo M)::Fr) w42
   exact⟨v28,b41,(by rw[hv' 2 (by decide)];exact he32),hv,hS43⟩
  ·intro k45 vals w46 h49 h50 hW48 hA47
   obtain rfl:k45=2:=Nat.le_antisymm h50 h49
   obtain⟨v28,b41,he32,he44,hS51⟩:=hW48
   have e52:=hA47 0 (by decide)
   refine obl rfl ?_
   have hbk56:=hS51.blk (i:=0) rfl
   have hS57:Sep G W ((RowE (α:=Ev) own 44 vo M)::(RowE (α:=Int) own 3 v28 x.deps)::(Blk b6 (x.cells vd).toArray 44)::(Blk bis #[.func (.func fis) #[] caps.toArray] 91)::(Blk bo #[vo] 26)::Fr) w46:=hS51.sel 6 [5,1,2,3,4] (Nat.le_add_left _ _) rfl rfl
   refine(yj (src:=own) (bytes:=96) (x1:=x) hS57 UP e52 he44 hbk56 (fun _ _ hN=>⟨_,rfl,RowE.soft hN,ok⟩) (by first|omega|(simp only[List.length_append,List.length_cons,List.length_nil,List.length_take,List.length_drop];omega)) rfl ?_)
   intro v54 w53 hS55
   have hr58:=hS55.row (i:=0) rfl
   have hr58s:_*96≤_:=hr58.2
   intro vals' hv hv'
   refine⟨?_,trivial⟩
   show ∃(v28:Value) (b41:Nat) (v54:Value),(vals' 2=(.agg (x.cells v28).toArray:Value))∧(vals' 3=((.slice (some ⟨b41,0,none⟩) 1 1):Value))∧(vals' 4=(v54:Value))∧Sep G W ((RowE (α:=Ev) own 44 v54 (M++[x]))::(Blk b6 (x.cells vd).toArray 44)::(Blk bis #[.func (.func fis) #[] caps.toArray] 91)::(Blk bo #[vo] 26)::Fr) w53
   exact⟨v28,b41,v54,(by rw[hv' 2 (by decide)];exact he32),(by rw[hv' 3 (by decide)];exact he44),hv,hS55⟩
  ·intro k60 vals w61 h64 h65 hW63 hA62
   obtain rfl:k60=3:=Nat.le_antisymm h65 h64
   obtain⟨v28,b41,v54,he32,he44,he59,hS66⟩:=hW63
   refine obl rfl ?_
   have hr69:=hS66.row (i:=0) rfl
   have hr69s:_*96≤_:=hr69.2
   refine(ym (v:=v54) (c:=[vo]) (c':=[v54]) oR rfl he59 (hS66.blk (i:=3) rfl) hr69.1.one rfl rfl ?_)
   intro w67 hp68
   have hS70:=hS66.pt3 hp68
   intro vals' hv hv'
   refine⟨?_,trivial⟩
   show ∃(v28:Value) (b41:Nat) (v54:Value),(vals' 2=(.agg (x.cells v28).toArray:Value))∧(vals' 3=((.slice (some ⟨b41,0,none⟩) 1 1):Value))∧(vals' 4=(v54:Value))∧Sep G W ((RowE (α:=Ev) own 44 v54 (M++[x]))::(Blk b6 (x.cells vd).toArray 44)::(Blk bis #[.func (.func fis) #[] caps.toArray] 91)::(Blk bo #[v54] 26)::Fr) w67
   exact⟨v28,b41,v54,(by rw[hv' 2 (by decide)];exact he32),(by rw[hv' 3 (by decide)];exact he44),(by rw[hv' 4 (by decide)];exact he59),hS70⟩
  intro vals w87 hW88 hA89
  obtain⟨v28,b41,v54,he32,he44,he59,hS90⟩:=hW88
  refine zT (kv:=[(3,.pointer (some ⟨bis,0,none⟩)),(5,.pointer (some ⟨bo,0,none⟩)),(6,.pointer (some ⟨b6,0,none⟩)),(13,.func (.func fis) #[] caps.toArray),(14,.agg (x.cells vd).toArray),(15,.bool true)]) ⟨rfl,rfl,rfl,rfl,rfl,rfl,trivial⟩ (fun ρw87=>?_)
  refine zb ?_
  have hS91:Sep G W ((Blk bis #[.func (.func fis) #[] caps.toArray] 91)::(Blk bo #[v54] 26)::(RowE (α:=Ev) own 44 v54 (M++[x]))::Fr) w87:=hS90.sel 4 [2,3,0] (Nat.le_add_left _ _) rfl rfl
  exact hk _ _ _ _ (by simp only[*,if_true]) hS91
end
section
open Go.Proofs Go.RowKit Go.Sort Go.Shelf
theorem zam {w w':World}(h:Ext w w'): ∃q os,w'=grow (w.drewN q) os:=by
 obtain⟨hs,ht,hd,ho,hp⟩:=w
 obtain⟨hs',ht',hd',ho',hp'⟩:=w'
 refine⟨hd'-hd,(hs'.toList.drop hs.size).toArray,?_⟩
 have e1:ho'=ho:=h.os
 have e2:ht'=ht:=h.tape
 have e3:hp'=hp:=h.output
 have e4:hd≤hd':=h.drawn
 have e5:hs.size≤hs'.size:=h.size
 have e6: ∀b,b<hs.size→hs'[b]? =hs[b]? :=fun b hb=>h.block b hb (fun h=>h)
 have eh:hs'=hs++(hs'.toList.drop hs.size).toArray:=by
  apply Array.ext_getElem?
  intro i
  rw[Array.getElem?_append]
  split
  ·rename_i hi;exact e6 i hi
  ·rename_i hi
   simp only[List.getElem?_toArray,List.getElem?_drop,Array.getElem?_toList]
   rw[show hs.size+(i-hs.size)=i by omega]
 have ed:hd'=hd+(hd'-hd):=by omega
 subst e1 e2 e3
 simp only[grow,World.drewN]
 rw[←eh,←ed]
theorem zaH {P:Program}{α:Type}[Inhabited α]{g k:Nat}{cap:List Value}{enc:α→List Value}{cf:α→α→Int}{blk off size:Nat}{w:World}
 (h: ∀W (x y:α),(∃d:Array α,d.size=size∧ ∃m os,W=sortWorldK enc k w blk off m d os)→Ret P g ([.agg (enc x).toArray,.agg (enc y).toArray]++cap) W (fun r W'=>r=.int .i64 (cf x y)∧Ext W W')):CmpLays P g cap.toArray enc k cf blk off size w:=by
 intro m os dk hs x y
 have:=h _ x y ⟨dk,hs,m,os,rfl⟩
 unfold Ret at this
 have e:([Value.agg (enc x).toArray,Value.agg (enc y).toArray]++cap).toArray=#[.agg (enc x).toArray,.agg (enc y).toArray]++cap.toArray:=by simp
 rw[e]at this
 refine Calls.mono this ?_
 rintro e w' ⟨v,rfl,rfl,hx⟩
 exact⟨rfl,zam hx⟩
theorem XJ {w:World}{b:Nat}{f:Array Value→Array Value}{c:Array Value}{T:TypeId}{fz:Nat×Nat}(h:w.heap[b]? =some (.cells c T fz)):(mapBlock w b f).heap[b]? =some (.cells (f c) T fz):=by
 unfold mapBlock
 simp[Array.getElem?_modify,h,onCells]
theorem Ym {w:World}{b i:Nat}{f:Array Value→Array Value}(h:i≠b):(mapBlock w b f).heap[i]? =w.heap[i]? :=by
 unfold mapBlock
 simp[Array.getElem?_modify,Ne.symm h]
theorem ZE {w:World}{b:Nat}{f:Array Value→Array Value}:(mapBlock w b f).heap.size=w.heap.size:=by
 unfold mapBlock;simp
theorem Wi {α:Type}[Inhabited α]{enc:α→List Value}{k blk off m:Nat}{w:World}{d:Array α}{os:Array Obj}(hb:blk<w.heap.size):Chg (fun i=>i=blk) w (sortWorldK enc k w blk off m d os):=by
 unfold sortWorldK putRowK putRow
 have hs:w.heap.size≤(grow (mapBlock (Sort.ahead w m) blk (putCells id off (flatK enc k d))) os).heap.size:=by
  show _≤(_++os).size
  rw[Array.size_append,ZE]
  exact Nat.le_add_right _ _
 have hg: ∀i,i<w.heap.size→(grow (mapBlock (Sort.ahead w m) blk (putCells id off (flatK enc k d))) os).heap[i]? =(mapBlock (Sort.ahead w m) blk (putCells id off (flatK enc k d))).heap[i]? :=by
  intro i hi
  show(_++os)[i]? =_
  rw[Array.getElem?_append,if_pos (by rw[ZE];exact hi)]
 refine⟨rfl,rfl,rfl,hs,fun i hi hne=>?_,?_,Nat.le_add_right _ _⟩
 ·rw[hg i hi,Ym hne];rfl
 ·rintro i ⟨c,T,hc⟩
  have hi:=(Array.getElem?_eq_some_iff.1 hc).1
  by_cases h:i=blk
  ·subst h
   exact⟨_,T,by rw[hg i hi];exact XJ (w:=Sort.ahead w m) hc⟩
  ·exact⟨c,T,by rw[hg i hi,Ym h];exact hc⟩
theorem Us {α:Type}[Inhabited α]{enc:α→List Value}{k blk off m:Nat}{w:World}{d:Array α}{os:Array Obj}{c:Array Value}{T:TypeId}(hb:w.heap[blk]? =some (.cells c T)):
 (sortWorldK enc k w blk off m d os).heap[blk]? =some (.cells (putCells id off (flatK enc k d) c) T):=by
 unfold sortWorldK putRowK putRow
 have hi:=(Array.getElem?_eq_some_iff.1 hb).1
 show(_++os)[blk]? =_
 rw[Array.getElem?_append,if_pos (by rw[ZE];exact hi)]
 exact XJ (w:=Sort.ahead w m) hb
theorem KU {α:Type}[Rep α]{w:World}{F:Nat→Prop}{enc:α→List Value}: ∀{L:List α},(∀x∈L,Rep.rd w F (enc x) x)→Els w F (L.map enc) L
 |[],_=>trivial
 |x::L,h=>⟨h x (List.mem_cons_self ..),KU fun y hy=>h y (List.mem_cons_of_mem _ hy)⟩
theorem QR {α:Type}[Rep α][Inhabited α]{P:Program}{ρ:Ren}(L:SlLaysF0.n6 P ρ)(aE: ∀w,(isAgg (ρ.t 24)).run P w=.ok true w)(zE: ∀w,(sizeOf (ρ.t 24)).run P w=.ok (Rep.k α) w)
 {enc:α→List Value} (henc: ∀w F cs (x:α),Rep.rd w F cs x→cs=enc x) (hlen: ∀x,(enc x).length=Rep.k α) (hone: ∀x,∀u∈enc x,u.oneCell'=true) {cf:α→α→Int} (hO:SWO (ltOf cf)) {g:Nat} {cap:List Value} (eg: ∀args w,(callFunc g args).run P w=.ok (.enter g args) w)
 {T:TypeId} {lo:Nat} {w:World} {F:Nat→Prop} {v:Value} {l:List α} (ho:OwnS T lo w F v l)
 (hcmp: ∀W (x y:α),Ret P g ([.agg (enc x).toArray,.agg (enc y).toArray]++cap) W (fun r W'=>r=.int .i64 (cf x y)∧Ext W W'))
 (hre: ∀w' (x:α) (F:Nat→Prop) cs,Rep.rd w F cs x→Rep.rd w' F cs x) (hbs:l.length<4611686018427387904):
 Ret P (ρ.f 6) ([v,.func (.func g) #[] cap.toArray]) w (fun r w'=>r=.tuple #[]∧Chg (fun b=>v.ownBlock=some b) w w'∧ ∃l',l'.Perm l∧l'.Pairwise (fun a b=>ltOf cf b a=false)∧OwnS T lo w' F v l'):=by
 by_cases hne:l=[]
 ·subst hne
  obtain⟨a0,c0,rfl,_,_⟩:=ho.isSl
  have hc:=AnyF.slices_SortFunc_none L a0 c0 (.func (.func g) #[] cap.toArray) w
  unfold Ret
  refine Calls.mono hc ?_
  rintro e w' ⟨he,rfl⟩
  exact⟨.tuple #[],he,rfl,Chg.refl _ _,[],List.Perm.refl _,List.Pairwise.nil,ho⟩
 obtain⟨css,hE,hown⟩:=ho.css
 rcases hown.2 with⟨rfl,h0⟩|⟨gb,capn,cur,rfl,hg,hb,hn,hm,hs,ht⟩
 ·exact absurd (List.length_eq_zero_iff.1 h0) hne
 have hblk:=(Array.getElem?_eq_some_iff.1 hb).1
 have hcs: ∀i (h:i<l.length),CellsAt w gb (i*Rep.k α) (enc l[i])∧Rep.rd w F (enc l[i]) l[i]:=by
  intro i hi
  obtain⟨cs,hr,hc⟩:=hE.at_ i hi
  have e:=henc w F cs _ hr
  subst e
  refine⟨fun j hj=>?_,hr⟩
  have h3:=hc j hj
  rw[←ht,List.getElem?_take]at h3
  split at h3
  ·exact Zf hb (by simpa using h3)
  ·cases h3
 have kpos:0<Rep.k α:=Rep.kpos
 have hH:HoldsK enc (Rep.k α) w gb 0 l.toArray:=by
  intro j hj
  have hj':j<l.length*Rep.k α:=by simpa using hj
  have hd:j/Rep.k α<l.length:=(Nat.div_lt_iff_lt_mul kpos).2 hj'
  have hm':j%Rep.k α<(enc l[j/Rep.k α]).length:=by rw[hlen];exact Nat.mod_lt _ kpos
  have h1:=(hcs (j/Rep.k α) hd).1 (j%Rep.k α) hm'
  refine⟨?_,by simp[World.frozen?,hb]⟩
  rw[get_flatK _ _ _ _ (by simpa using hj'),Nat.zero_add]
  rw[show j/Rep.k α*Rep.k α+j%Rep.k α=j by rw[Nat.mul_comm];exact Nat.div_add_mod j (Rep.k α)]at h1
  rw[h1]
  have e1:l.toArray[j/Rep.k α]! =l[j/Rep.k α]:=by rw[getElem!_pos l.toArray (j/Rep.k α) (by simpa using hd)];simp
  have e2:(enc l[j/Rep.k α])[j%Rep.k α]! =(enc l[j/Rep.k α])[j%Rep.k α]:=getElem!_pos (enc l[j/Rep.k α]) (j%Rep.k α) hm'
  rw[e1,e2];rfl
 have hc:=AnyQ.slices_SortFunc L (Rep.k α) aE zE enc hlen hone cf hO g cap.toArray gb 0 capn l.toArray w eg (zaH fun W x y _=>hcmp W x y) hH hblk (by simpa using hbs)
 have ea:([Value.slice (some ⟨gb,0,none⟩) l.length capn,.func (.func g) #[] cap.toArray]).toArray=#[Value.slice (some ⟨gb,0,none⟩) l.toArray.size capn,.func (.func g) #[] cap.toArray]:=by simp
 unfold Ret
 rw[ea]
 refine Calls.mono hc ?_
 rintro e w' ⟨he,d',n,os,hp,hsd,hw⟩
 refine⟨.tuple #[],he,rfl,?_,d'.toList,?_,?_,?_⟩
 ·have hgo:(fun b=>(Value.slice (some ⟨gb,0,none⟩) l.length capn).ownBlock=some b)=fun b=>b=gb:=by funext b;simp[Value.ownBlock,eq_comm]
  rw[hgo,hw];exact Wi hblk
 ·have h2:=hp.2.2
  have hsz:d'.size=l.length:=by simpa using hp.1
  simp at h2
  rwa [List.take_of_length_le (by simp[hsz])]at h2
 ·rw[List.pairwise_iff_getElem]
  intro i j hi hj hij
  have hsz:d'.size=l.length:=by simpa using hp.1
  have hi':i<d'.size:=by simpa using hi
  have hj':j<d'.size:=by simpa using hj
  have:=hsd i j (Nat.zero_le _) hij (by simpa[hsz]using hj')
  rw[getElem!_pos d' j hj',getElem!_pos d' i hi']at this
  simpa using this
 ·have hsz:d'.size=l.length:=by simpa using hp.1
  have hperm:d'.toList.Perm l:=by
   have h2:=hp.2.2
   simp at h2
   rwa [List.take_of_length_le (by simp[hsz])]at h2
  have hrd: ∀x∈d'.toList,Rep.rd w' F (enc x) x:=by
   intro x hx
   obtain⟨i,hi,rfl⟩:=List.getElem_of_mem (hperm.subset hx)
   exact hre w' _ F _ (hcs i hi).2
  have hE':Els w' F (d'.toList.map enc) d'.toList:=KU hrd
  have hfl:=hE'.flat
  have hlen':d'.toList.length=l.length:=by simpa using hsz
  have hcur:(putCells id 0 (flatK enc (Rep.k α) d') cur).size=cur.size:=by simp[putCells]
  have hchg:Chg (fun i=>i=gb) w w':=by rw[hw];exact Wi hblk
  have hle:l.length*Rep.k α≤cur.size:=by rw[hs];exact Nat.mul_le_mul_right _ hn
  refine⟨⟨_,hE',by rw[hfl],.inr ⟨gb,capn,_,by rw[hlen'],hg,by rw[hw];exact Us hb,by rw[hlen'];exact hn,hm,by rw[hcur];exact hs,?_⟩⟩,ho.apart,fun b hb'=>⟨Nat.lt_of_lt_of_le (ho.bound b hb').1 hchg.size,fun hl=>hchg.soft b ((ho.bound b hb').2 hl)⟩,by rw[hlen'];exact ho.small⟩
  refine List.ext_getElem? fun j=>?_
  rw[hlen',List.getElem?_take]
  split
  ·rename_i hj
   have hd:j/Rep.k α<d'.toList.length:=by rw[hlen'];exact(Nat.div_lt_iff_lt_mul kpos).2 hj
   obtain⟨cs,hr,hc⟩:=hE'.at_ (j/Rep.k α) hd
   have e:=henc w' F cs _ hr
   subst e
   have hm':j%Rep.k α<(enc (d'.toList[j/Rep.k α])).length:=by rw[hlen];exact Nat.mod_lt _ kpos
   have h1:=hc (j%Rep.k α) hm'
   rw[show j/Rep.k α*Rep.k α+j%Rep.k α=j by rw[Nat.mul_comm];exact Nat.div_add_mod j (Rep.k α)]at h1
   rw[h1]
   have hjc:j<cur.size:=by omega
   have hjk:j<d'.size*Rep.k α:=by rw[hsz];exact hj
   have hd2:j/Rep.k α<d'.size:=by simpa using hd
   rw[Array.getElem?_toList,Array.getElem?_eq_getElem (by rw[hcur];exact hjc)]
   simp only[putCells,Array.getElem_mapIdx,Nat.zero_le,true_and,Nat.zero_add,size_flatK,hjk,if_true,Nat.sub_zero,id]
   have e1:d'[j/Rep.k α]! =d'[j/Rep.k α]:=getElem!_pos d' (j/Rep.k α) hd2
   have e0:d'.toList[j/Rep.k α]=d'[j/Rep.k α]:=by simp
   rw[e0]at hm'
   have e2:(enc d'[j/Rep.k α])[j%Rep.k α]! =(enc d'[j/Rep.k α])[j%Rep.k α]:=getElem!_pos (enc d'[j/Rep.k α]) (j%Rep.k α) hm'
   rw[get_flatK _ _ _ _ hjk,e1,e2]
   simp
  ·rename_i hj
   rw[List.getElem?_eq_none (by rw[hfl,hlen'];omega)]
end
section
open Go.Proofs Go.Shelf
def UX:Go.Shelf.Ren:=⟨fun|6=>88|15=>115|14=>114|28=>137|29=>138|20=>129|21=>130|22=>131|23=>132|24=>133|25=>134|26=>135|27=>136|46=>148|47=>149|48=>150|49=>151|50=>152|57=>156|n=>n,fun|22=>26|24=>44|25=>148|3=>3|39=>162|0=>0|53=>185|55=>187|4=>4|46=>179|45=>178|50=>173|5=>5|9=>9|66=>190|70=>194|76=>198|77=>199|n=>n,fun|n=>n⟩
theorem zcE:Go.Proofs.SlLaysF0.n6 Tryz.prog UX:={
 mixed:=by kernel_rfl,
 f6:=⟨Tryz.f88.name,by decide,Tryz.func88.trans (congrArg some (by kernel_rfl))⟩,
 f14:=⟨Tryz.f114.name,by decide,Tryz.func114.trans (congrArg some (by kernel_rfl))⟩,
 f15:=Tryz.func115.trans (congrArg some (by kernel_rfl)),
 f20:=⟨Tryz.f129.name,by decide,Tryz.func129.trans (congrArg some (by kernel_rfl))⟩,
 f21:=⟨Tryz.f130.name,by decide,Tryz.func130.trans (congrArg some (by kernel_rfl))⟩,
 f22:=⟨Tryz.f131.name,by decide,Tryz.func131.trans (congrArg some (by kernel_rfl))⟩,
 f23:=⟨Tryz.f132.name,by decide,Tryz.func132.trans (congrArg some (by kernel_rfl))⟩,
 f24:=⟨Tryz.f133.name,by decide,Tryz.func133.trans (congrArg some (by kernel_rfl))⟩,
 f25:=⟨Tryz.f134.name,by decide,Tryz.func134.trans (congrArg some (by kernel_rfl))⟩,
 f26:=⟨Tryz.f135.name,by decide,Tryz.func135.trans (congrArg some (by kernel_rfl))⟩,
 f27:=⟨Tryz.f136.name,by decide,Tryz.func136.trans (congrArg some (by kernel_rfl))⟩,
 f28:=Tryz.func137.trans (congrArg some (by kernel_rfl)),
 f29:=Tryz.func138.trans (congrArg some (by kernel_rfl)),
 f46:=⟨Tryz.f148.name,by decide,Tryz.func148.trans (congrArg some (by kernel_rfl))⟩,
 f47:=Tryz.func149.trans (congrArg some (by kernel_rfl)),
 f48:=Tryz.func150.trans (congrArg some (by kernel_rfl)),
 f49:=⟨Tryz.f151.name,by decide,Tryz.func151.trans (congrArg some (by kernel_rfl))⟩,
 f50:=⟨Tryz.f152.name,by decide,Tryz.func152.trans (congrArg some (by kernel_rfl))⟩,
 f57:=⟨Tryz.f156.name,by decide,Tryz.func156.trans (congrArg some (by kernel_rfl))⟩,
 t0:=Tryz.underlying0,
 a0:=Tryz.isAgg0,
 z0:=Tryz.sizeOf0,
 v0:=Tryz.zeroValue0,
 t3:=Tryz.underlying3,
 a3:=kT,
 z3:=pT,
 v3:=pR,
 t4:=Tryz.underlying4,
 a4:=Tryz.isAgg4,
 z4:=Tryz.sizeOf4,
 v4:=Tryz.zeroValue4,
 t5:=Tryz.underlying5,
 a5:=Tryz.isAgg5,
 z5:=Tryz.sizeOf5,
 v5:=Tryz.zeroValue5,
 t9:=Tryz.underlying9,
 a9:=Tryz.isAgg9,
 z9:=Tryz.sizeOf9,
 v9:=Tryz.zeroValue9,
 t22:=vT,
 a22:=rT,
 z22:=oR,
 v22:=qR,
 t25:=Tryz.underlying148,
 a25:=Tryz.isAgg148,
 z25:=Tryz.sizeOf148,
 v25:=Tryz.zeroValue148,
 t39:=Tryz.underlying162,
 a39:=Tryz.isAgg162,
 z39:=Tryz.sizeOf162,
 v39:=Tryz.zeroValue162,
 t45:=Tryz.underlying178,
 a45:=Tryz.isAgg178,
 z45:=Tryz.sizeOf178,
 v45:=Tryz.zeroValue178,
 t46:=Tryz.underlying179,
 a46:=Tryz.isAgg179,
 z46:=Tryz.sizeOf179,
 v46:=Tryz.zeroValue179,
 t50:=Tryz.underlying173,
 a50:=Tryz.isAgg173,
 z50:=Tryz.sizeOf173,
 v50:=Tryz.zeroValue173,
 t53:=Tryz.underlying185,
 a53:=Tryz.isAgg185,
 z53:=Tryz.sizeOf185,
 v53:=Tryz.zeroValue185,
 t55:=Tryz.underlying187,
 a55:=Tryz.isAgg187,
 z55:=Tryz.sizeOf187,
 v55:=Tryz.zeroValue187,
 t66:=Tryz.underlying190,
 a66:=Tryz.isAgg190,
 z66:=Tryz.sizeOf190,
 v66:=Tryz.zeroValue190,
 t70:=Tryz.underlying194,
 a70:=Tryz.isAgg194,
 z70:=Tryz.sizeOf194,
 v70:=Tryz.zeroValue194,
 t76:=Tryz.underlying198,
 a76:=Tryz.isAgg198,
 z76:=Tryz.sizeOf198,
 v76:=Tryz.zeroValue198,
 t77:=Tryz.underlying199,
 a77:=Tryz.isAgg199,
 z77:=Tryz.sizeOf199,
 v77:=Tryz.zeroValue199
}
end
section
set_option maxRecDepth 8000
set_option maxHeartbeats 4000000
open Go.Proofs Go.RowKit Go.Sort Go.Shelf
theorem UI {a:Ev}{da:Value}{b:Ev}{db:Value}(hS0:Sep G W Rs w):Ret Tryz.prog 89 [.agg (a.cells da).toArray,.agg (b.cells db).toArray] w (fun r w'=>r=(.int .i64 ((ZU a b)):Value)∧Sep G W Rs w'):=by
 refine zi (args:=[.agg (a.cells da).toArray,.agg (b.cells db).toArray]) Tryz.func89 rfl rfl ?_
 refine za (R0 fun _=>st (zM (v:=.agg (a.cells da).toArray) rfl ?_))
 intro w3 b2 aQ
 refine st (zM (v:=.agg (b.cells db).toArray) rfl ?_)
 intro w7 C aR
 refine st (aS (Iv 0) (zb (za ?_)))
 refine WD4 ((fun TT q=>WF [fun vals n=>Sep G W (q::TT) n,fun vals n=>(vals 4=(Iv ((yN a.lam b.lam)):Value))∧Sep G W (q::TT) n,fun vals n=>(vals 4=(Iv ((yN a.lam b.lam)):Value))∧(vals 11=(Iv ((yN a.origin b.origin)):Value))∧Sep G W (q::TT) n,fun vals n=>(vals 4=(Iv ((yN a.lam b.lam)):Value))∧(vals 11=(Iv ((yN a.origin b.origin)):Value))∧(vals 18=(Iv ((yN a.seq b.seq)):Value))∧Sep G W (q::TT) n,fun vals n=> ∃(e:Nat),(vals 4=(Iv ((yN a.lam b.lam)):Value))∧(vals 11=(Iv ((yN a.origin b.origin)):Value))∧(vals 18=(Iv ((yN a.seq b.seq)):Value))∧(vals 19=((Iy e 3 3):Value))∧Sep G W ((Blk e #[Iv ((yN a.lam b.lam)),Iv ((yN a.origin b.origin)),Iv ((yN a.seq b.seq))] 3)::q::TT) n,fun vals n=> ∃(e:Nat),(vals 4=(Iv ((yN a.lam b.lam)):Value))∧(vals 11=(Iv ((yN a.origin b.origin)):Value))∧(vals 18=(Iv ((yN a.seq b.seq)):Value))∧(vals 19=((Iy e 3 3):Value))∧(vals 20=(Iv ((orL [(yN a.lam b.lam),(yN a.origin b.origin),(yN a.seq b.seq)])):Value))∧Sep G W ((RowE (α:=Int) own 3 (Iy e 3 3) [(yN a.lam b.lam),(yN a.origin b.origin),(yN a.seq b.seq)])::q::TT) n]) ((Blk b2 (a.cells da).toArray 44)::Rs) (Blk C (b.cells db).toArray 44)) (AF [Vl 0 (Ix b2 2),Vl 1 (Iv (a.lam)),Vl 2 (Ix C 2),Vl 3 (Iv (b.lam)),fun _=>True,Vl 5 (Ix b2 0),Vl 6 (Ix b2 0),Vl 7 (Iv (a.origin)),Vl 8 (Ix C 0),Vl 9 (Ix C 0),Vl 10 (Iv (b.origin)),fun _=>True,Vl 12 (Ix b2 0),Vl 13 (Ix b2 1),Vl 14 (Iv (a.seq)),Vl 15 (Ix C 0),Vl 16 (Ix C 1),Vl 17 (Iv (b.seq)),fun _=>True,fun _=>True,fun _=>True,Vl 21 (Iv ((orL [(yN a.lam b.lam),(yN a.origin b.origin),(yN a.seq b.seq)])))]) [[],[0],[],[2],(rg 4),[],[5],[5,6],[],[8],[8,9],(rg 11),[],[12],[12,13],[],[15],[15,16],(rg 18),(rg 19),(rg 20),(rg 21)] [4,11,18,19,20] [(0,0),(0,0),(0,0),(0,0),(0,0),(0,1),(0,1),(0,1),(0,1),(0,1),(0,1),(1,1),(0,2),(0,2),(0,2),(0,2),(0,2),(0,2),(2,2),(3,3),(4,4),(5,5)] ((hS0.new aQ).new aR) ⟨fun _ _ _ _ _ _ _=>obl rfl (xC rfl dR),ob1 0 fun _ _ (N:Sep _ _ _ _) O=>obl rfl (lD (Iv (a.lam)) kT (O 0 dc) (zd (N.b1) rfl) dR),fun _ _ _ _ _ _ _=>obl rfl (xC rfl dR),ob1 0 fun _ _ (P:Sep _ _ _ _) Q=>obl rfl (lD (Iv (b.lam)) kT (Q 2 dc) (zd (P.b0) rfl) dR),?_,fun _ _ _ _ _ _ _=>obl rfl (yp rfl dR),fun _ _ _ _ _ _ R=>obl rfl (xa (R 5 dc) dR),?_,fun _ _ _ _ _ _ _=>obl rfl (yp rfl dR),fun _ _ _ _ _ _ S=>obl rfl (xa (S 8 dc) dR),?_,?_,fun _ _ _ _ _ _ _=>obl rfl (yp rfl dR),fun _ _ _ _ _ _ T=>obl rfl (xE (T 12 dc) dR),?_,fun _ _ _ _ _ _ _=>obl rfl (yp rfl dR),fun _ _ _ _ _ _ U=>obl rfl (xE (U 15 dc) dR),?_,?_,?_,?_,?_,trivial⟩ ?_
 refine ob1 0 fun vals _ (aB:Sep _ _ _ _) L=>(obl rfl ((zH (f:=117) (vals:=[Iv (a.lam),Iv (b.lam)]) (cap:=[]) rfl (yE ⟨(L 1 dc),(L 3 dc),trivial⟩) mR (Kc aB) ?_)))
 rintro _ w46 ⟨rfl,aC⟩
 exact fun j s h=>⟨(zx s aC),trivial⟩
 refine fun t _ _ aD aE D E=>?_
 have hkk:=xk aD aE
 rcases hkk with rfl|rfl
 have V:Sep _ _ _ _:=D
 exact obl rfl (lD (Iv (a.origin)) kT (E 6 dc) (zd (V.b1) rfl) dR)
 obtain⟨d,X⟩:=D
 exact obl rfl (lD (Iv (a.origin)) kT (E 6 dc) (zd (X.b1) rfl) dR)
 refine fun u _ _ aH aI F H=>?_
 have hkk:=xk aH aI
 rcases hkk with rfl|rfl
 have Y:Sep _ _ _ _:=F
 exact obl rfl (lD (Iv (b.origin)) kT (H 9 dc) (zd (Y.b0) rfl) dR)
 obtain⟨d,Z⟩:=F
 exact obl rfl (lD (Iv (b.origin)) kT (H 9 dc) (zd (Z.b0) rfl) dR)
 refine ob1 1 fun vals _ aJ M=>?_
 obtain⟨d,aK⟩:=aJ
 refine obl rfl ((zH (f:=117) (vals:=[Iv (a.origin),Iv (b.origin)]) (cap:=[]) rfl (yE ⟨(M 7 dc),(M 10 dc),trivial⟩) mR (Kc aK) ?_))
 rintro _ w100 ⟨rfl,aa⟩
 exact fun j s h=>⟨(zx ((h 4 dc).trans d) (zx s aa)),trivial⟩
 refine fun o _ _ aL aM x y=>?_
 have hkk:=JP aL aM
 rcases hkk with rfl|rfl|rfl
 have ab:Sep _ _ _ _:=x
 exact obl rfl (lD (Iv (a.seq)) kT (y 13 dc) (zd (ab.b1) rfl) dR)
 obtain⟨d,ac⟩:=x
 exact obl rfl (lD (Iv (a.seq)) kT (y 13 dc) (zd (ac.b1) rfl) dR)
 obtain⟨d,g,ad⟩:=x
 exact obl rfl (lD (Iv (a.seq)) kT (y 13 dc) (zd (ad.b1) rfl) dR)
 refine fun p _ _ aN aO z A=>?_
 have hkk:=JP aN aO
 rcases hkk with rfl|rfl|rfl
 have ae:Sep _ _ _ _:=z
 exact obl rfl (lD (Iv (b.seq)) kT (A 16 dc) (zd (ae.b0) rfl) dR)
 obtain⟨d,af⟩:=z
 exact obl rfl (lD (Iv (b.seq)) kT (A 16 dc) (zd (af.b0) rfl) dR)
 obtain⟨d,g,ag⟩:=z
 exact obl rfl (lD (Iv (b.seq)) kT (A 16 dc) (zd (ag.b0) rfl) dR)
 refine ob1 2 fun vals _ ah I=>?_
 obtain⟨d,g,ai⟩:=ah
 refine obl rfl ((zH (f:=117) (vals:=[Iv (a.seq),Iv (b.seq)]) (cap:=[]) rfl (yE ⟨(I 14 dc),(I 17 dc),trivial⟩) mR (Kc ai) ?_))
 rintro _ w154 ⟨rfl,aj⟩
 exact fun j s h=>⟨(zx ((h 4 dc).trans d) (zx ((h 11 dc).trans g) (zx s aj))),trivial⟩
 refine ob1 3 fun _ _ ak _=>?_
 obtain⟨d,g,i,al⟩:=ak
 refine obl rfl ((zI (k:=1) (parts':=[(0,Iv ((yN a.lam b.lam))),(1,Iv ((yN a.origin b.origin))),(2,Iv ((yN a.seq b.seq)))]) (c:=#[Iv ((yN a.lam b.lam)),Iv ((yN a.origin b.origin)),Iv ((yN a.seq b.seq))]) sT pT pR dc (Zi ⟨rfl,d,rfl,g,rfl,i,trivial⟩) kr ?_))
 intro w166 e am
 exact fun j s h=>⟨(exiA e (zx ((h 4 dc).trans d) (zx ((h 11 dc).trans g) (zx ((h 18 dc).trans i) (zx s (al.new am)))))),trivial⟩
 refine ob1 4 fun vals _ an _=>?_
 obtain⟨e,d,g,i,m,ao⟩:=an
 refine obl rfl ?_
 have J:Sep _ _ ((RowE (α:=Int) own 3 (Iy e 3 3) [(yN a.lam b.lam),(yN a.origin b.origin),(yN a.seq b.seq)])::_) _:=Sep.blkRow (src:=own) (l:=[(yN a.lam b.lam),(yN a.origin b.origin),(yN a.seq b.seq)]) (css:=[[Iv ((yN a.lam b.lam))],[Iv ((yN a.origin b.origin))],[Iv ((yN a.seq b.seq))]]) ao rfl ⟨fun _ _=>⟨rfl,(UD a.lam b.lam)⟩,fun _ _=>⟨rfl,(UD a.origin b.origin)⟩,fun _ _=>⟨rfl,(UD a.seq b.seq)⟩,trivial⟩ yqa (show 3≤maxLen by decide)
 have ap:=J.r0
 have hr177s:_*8≤_:=ap.2
 obtain⟨G178,aq,hB181,ar,au⟩:=J.lend
 have B:=RowE.rd aq
 have hrd184s:_*8≤_:=B.small
 refine(zH (f:=116) (vals:=[(Iy e 3 3)]) (cap:=[]) rfl (yE ⟨m,trivial⟩) Tryz.call116 (Da_or (l:=[(yN a.lam b.lam),(yN a.origin b.origin),(yN a.seq b.seq)]) (vl:=(Iy e 3 3)) B ar) ?_)
 rintro _ w185 ⟨rfl,av⟩
 have aw:=au _ _ av
 exact fun j s h=>⟨(exiA e (zx ((h 4 dc).trans d) (zx ((h 11 dc).trans g) (zx ((h 18 dc).trans i) (zx ((h 19 dc).trans m) (zx s aw)))))),trivial⟩
 refine ob1 5 fun _ _ ax _=>?_
 obtain⟨e,d,g,i,m,K,hS326⟩:=ax
 exact obl rfl (zY (v:=Iv ((orL [(yN a.lam b.lam),(yN a.origin b.origin),(yN a.seq b.seq)]))) K dR)
 intro vals w327 ay az
 obtain⟨e,d,g,i,m,K,aA⟩:=ay
 have aP:=az 21 dc
 refine zT (kv:=[(0,.agg (a.cells da).toArray),(1,.agg (b.cells db).toArray),(2,Ix b2 0),(3,Ix C 0),(4,Iv ((orL [(yN a.lam b.lam),(yN a.origin b.origin),(yN a.seq b.seq)])))]) ⟨rfl,rfl,rfl,rfl,(by exact aP),trivial⟩ (fun ρw327=>(zb (zk (zG Tryz.results89 (show _=(Iv ((orL [(yN a.lam b.lam),(yN a.origin b.origin),(yN a.seq b.seq)])):Value)from rfl) ?_))))
 refine⟨rfl,(aA.s3_)⟩
theorem zbC {W:World}{a b:Ev}{da db:Value}:Ret Tryz.prog 89 [.agg (a.cells da).toArray,.agg (b.cells db).toArray] W (fun r W'=>r=.int .i64 (ZU a b)∧Ext W W'):=
 Ret.mono (UI (Sep.start W)) (fun v w' ⟨h1,h2⟩=>⟨h1,h2.fin⟩)
abbrev EvP:=Ev×{v:Value//v.oneCell'=true}
instance:Inhabited EvP:=⟨(default,⟨.slice none 0 0,rfl⟩)⟩
def EvP.cells (s:EvP):List Value:=s.1.cells s.2.1
instance:Rep EvP where
 k:=10
 rd _ _ cs s:=cs=s.cells
 bytes:=96
 bpos:=by decide
 kpos:=by decide
 len h:=by rw[h];rfl
 one h:=by rw[h];rename_i s;exact zX ⟨rfl,rfl,rfl,s.2.2,rfl,rfl,rfl,rfl,rfl,rfl,trivial⟩
 mono h _:=h
theorem Vy {w:World}{F:Nat→Prop}: ∀{css:List (List Value)} {l:List Ev},Els w F css l→ ∃ls:List EvP,ls.map (·.1)=l∧Els w F css ls∧ ∀s∈ls,RdS w F s.2.1 s.1.deps∧s.1.Ok
 |[],[],_=>⟨[],rfl,trivial,fun _ h=>by cases h⟩
 |cs::css,x::l,h=>by
  obtain⟨⟨d,e,h1,h2⟩,h3⟩:=h
  obtain⟨ls,h4,h5,h6⟩:=Vy h3
  refine⟨(x,⟨d,h1.sl.one⟩)::ls,by simp[h4],⟨e,h5⟩,fun s hs=>?_⟩
  rcases List.mem_cons.1 hs with rfl|hs
  ·exact⟨h1,h2⟩
  ·exact h6 s hs
 |[],_::_,h=>h.elim
 |_::_,[],h=>h.elim
theorem Qb {w:World}{F:Nat→Prop}: ∀{css:List (List Value)} {ls:List EvP},Els w F css ls→(∀s∈ls,RdS w F s.2.1 s.1.deps∧s.1.Ok)→Els w F css (ls.map (·.1))
 |[],[],_,_=>trivial
 |cs::css,s::ls,h,hs=>by
  obtain⟨h1,h2⟩:=h
  have h3:=hs s (List.mem_cons_self ..)
  exact⟨⟨_,h1,h3.1,h3.2⟩,Qb h2 (fun s hs'=>hs s (List.mem_cons_of_mem _ hs'))⟩
 |[],_::_,h,_=>h.elim
 |_::_,[],h,_=>h.elim
theorem xU {a b:Ev}:ZU a b<0↔a.lam<b.lam∨a.lam=b.lam∧(a.origin<b.origin∨a.origin=b.origin∧a.seq<b.seq):=by
 unfold ZU orL orL orL orL yN
 by_cases h1:a.lam<b.lam<;>by_cases h2:b.lam<a.lam<;>by_cases h3:a.origin<b.origin<;>by_cases h4:b.origin<a.origin<;>by_cases h5:a.seq<b.seq<;>by_cases h6:b.seq<a.seq<;>simp only[h1,h2,h3,h4,h5,h6,if_true,if_false]<;>simp<;>omega
theorem zbc:SWO (ltOf fun a b:EvP=>ZU a.1 b.1):=by
 refine⟨fun x=>?_,fun x y z h1 h2=>?_,fun x y z h1 h2=>?_⟩
 ·simp only[ltOf,decide_eq_false_iff_not,xU];omega
 ·simp only[ltOf,decide_eq_true_eq,xU]at*;omega
 ·simp only[ltOf,decide_eq_false_iff_not,xU]at*;omega
theorem JI {v:Value}{l:List Ev}(hl:l.length<4611686018427387904)(hS:Sep G W (RowE (α:=Ev) own 44 v l::Rs) w):
 Ret Tryz.prog 88 [v,.func (.func 89) #[] #[]] w (fun r w'=> ∃l':List Ev,r=(.tuple #[]:Value)∧l'.Perm l∧l'.Pairwise (fun a b=> ¬ZU b a<0)∧Sep G W (RowE (α:=Ev) own 44 v l'::Rs) w'):=by
 obtain⟨f,hA,hfl,hT⟩:=hS.take (i:=0) rfl
 have ho:=RowE.toOwn hA
 obtain⟨⟨css,hE,hown⟩,ha,hB,hs⟩:=ho
 obtain⟨ls,rfl,hE2,hrd⟩:=Vy hE
 have ho2:OwnS 44 0 w (fun b=>(f b∧v.ownBlock≠some b)∧Soft w b) v ls:=⟨⟨css,hE2,by rw[List.length_map]at hown;exact hown⟩,ha,hB,by rw[List.length_map]at hs;exact hs⟩
 refine Ret.mono (QR (α:=EvP) (enc:=EvP.cells) zcE mT lT (fun _ _ _ _ h=>h) (fun _=>rfl) (fun s=>zX ⟨rfl,rfl,rfl,s.2.2,rfl,rfl,rfl,rfl,rfl,rfl,trivial⟩) zbc (cap:=[]) Tryz.call89 ho2 (fun _ _ _=>zbC) (fun _ _ _ _ h=>h) (by simpa using hl)) ?_
 rintro r w' ⟨rfl,hc,ls',hp,hso,ho3⟩
 refine⟨ls'.map (·.1),rfl,hp.map _,?_,?_⟩
 ·rw[List.pairwise_map]
  refine hso.imp fun{a b} h=>?_
  simpa[ltOf]using h
 ·obtain⟨⟨css',hE',hown'⟩,ha',hB',hs'⟩:=ho3
  have hF: ∀b,((f b∧v.ownBlock≠some b)∧Soft w b)→b<w.heap.size→w'.heap[b]? =w.heap[b]? ∧((f b∧v.ownBlock≠some b)∧Soft w b):=fun b hb hlt=>⟨hc.block b hlt hb.1.2,hb⟩
  have hr': ∀s∈ls',RdS w' (fun b=>(f b∧v.ownBlock≠some b)∧Soft w b) s.2.1 s.1.deps∧s.1.Ok:=fun s hs=>⟨(hrd s (hp.subset hs)).1.mono hF,(hrd s (hp.subset hs)).2⟩
  have ho4:OwnS (α:=Ev) 44 0 w' (fun b=>(f b∧v.ownBlock≠some b)∧Soft w b) v (ls'.map (·.1)):=⟨⟨css',Qb hE' hr',by rw[List.length_map];exact hown'⟩,ha',hB',by rw[List.length_map];exact hs'⟩
  have hvf: ∀b,v.ownBlock=some b→f b:=by
   obtain⟨_,_,_,h3,_⟩:=hA
   exact h3
  exact hT w' _ f (hc.weak fun b _ hb=>hvf b hb) (RowE.ofOwn ho4 (fun b hb=>⟨hb.1.1,hc.soft b hb.2⟩) hvf) (fun _ hb=>.inl hb)
theorem JB {m:Nat}(hS0:Sep G W Rs w):Ret Tryz.prog 87 [.map (some m)] w (fun r w'=> ∃(bm:Nat),r=(.func (.func 113) #[] #[.pointer (some ⟨bm,0,none⟩)]:Value)∧Sep G W ((Blk bm #[.map (some m)] 116)::Rs) w'):=by
 refine zi (args:=[.map (some m)]) Tryz.func87 rfl rfl ?_
 refine za (R0 fun _=>st (zM (v:=.map (some m)) rfl ?_))
 intro w3 b2 a
 refine st (aS .nilFunc (zb (za (R0 fun _=>st (Zw (vals:=[Ix b2 0]) rfl (st (aS (.func (.func 113) #[] #[Ix b2 0]) (zb (zk (zG Tryz.results87 (show _=(.func (.func 113) #[] #[Ix b2 0]:Value)from rfl) ?_))))))))))
 refine⟨b2,rfl,(hS0.new a)⟩
def idE (e:Ev):Int×Int:=(e.origin,e.seq)
def Srt (L:List Ev):Prop:=L.Pairwise fun a b=>ZU a b<0
theorem Yy: ∀{L:List Ev} {x:Ev},(L.map idE).Nodup→x∈L→yb L (idE x)=some x
 |y::L,x,hn,hx=>by
  unfold yb
  rw[List.find?_cons]
  rcases List.mem_cons.1 hx with rfl|hx
  ·simp[idE]
  ·have hn2:=List.nodup_cons.1 (show(idE y::L.map idE).Nodup from hn)
   have hne: ¬(y.origin=(idE x).1∧y.seq=(idE x).2):=fun h=>hn2.1 (List.mem_map.2 ⟨x,hx,by unfold idE;rw[h.1,h.2];rfl⟩)
   rw[decide_eq_false hne]
   exact Yy hn2.2 hx
theorem Qy {L:List Ev}{k:Int×Int}:(yb L k).isSome=true↔k∈L.map idE:=by
 constructor
 ·intro h
  obtain⟨x,hx⟩:=Option.isSome_iff_exists.1 h
  obtain⟨h1,h2,h3⟩:=UW hx
  exact List.mem_map.2 ⟨x,h1,by unfold idE;rw[h2,h3]⟩
 ·intro h
  cases hg:yb L k with
  |some x=>rfl
  |none=>
   obtain⟨x,hx,rfl⟩:=List.mem_map.1 h
   exfalso
   unfold yb at hg
   rw[List.find?_eq_none]at hg
   exact hg x hx (by simp[idE])
theorem zaO {κ β:Type}[DecidableEq κ]{R:List (κ×β)}{k:κ}:(yI R k).isSome=true↔k∈R.map (·.1):=by
 unfold yI
 rw[Option.isSome_map,List.find?_isSome]
 constructor
 ·rintro⟨p,hp,hk⟩
  exact List.mem_map.2 ⟨p,hp,by simpa using hk⟩
 ·intro h
  obtain⟨p,hp,rfl⟩:=List.mem_map.1 h
  exact⟨p,hp,by simp⟩
theorem UT {κ β:Type}[DecidableEq κ]: ∀{R:List (κ×β)} {p:κ×β},(R.map (·.1)).Nodup→p∈R→yI R p.1=some p.2
 |q::R,p,hn,hp=>by
  unfold yI
  rw[List.find?_cons]
  rcases List.mem_cons.1 hp with rfl|hp
  ·simp
  ·have hn2:=List.nodup_cons.1 (show(q.1::R.map (·.1)).Nodup from hn)
   have hne: ¬q.1=p.1:=fun h=>hn2.1 (List.mem_map.2 ⟨p,hp,h.symm⟩)
   rw[decide_eq_false hne]
   exact UT hn2.2 hp
theorem WT {l:List Ev}: ∀{S:List Ev},l.Perm S→S.Pairwise (fun a b=>ZU a b<0)→l.Pairwise (fun a b=> ¬ZU b a<0)→l=S:=by
 induction l with
 |nil=>intro S hp _ _;exact(List.nil_perm.1 hp).symm
 |cons a l ih=>
  intro S hp hS hl
  cases S with
  |nil=>exact absurd hp.length_eq (by simp)
  |cons s S=>
   rw[List.pairwise_cons]at hS hl
   have ha:a∈s::S:=hp.subset (List.mem_cons_self ..)
   have hs:s∈a::l:=hp.symm.subset (List.mem_cons_self ..)
   have e:a=s:=by
    rcases List.mem_cons.1 ha with h|h
    ·exact h
    ·rcases List.mem_cons.1 hs with h2|h2
     ·exact h2.symm
     ·exact absurd (hS.1 a h) (hl.1 s h2)
   subst e
   rw[ih ((List.perm_cons a).1 hp) hS.2 hl.2]
def ZY (R:List ((Int×Int)×Value))(L:List Ev)(j:Nat):Ev:=(yb L ((R[j]?.map (·.1)).getD default)).getD default
section
variable {G:Nat→Prop}{W w:World}{Rs:List HP}{m n clock:Nat}{L:List Ev}{R:List ((Int×Int)×Value)}{es:Array MapEntry}
theorem SetR.place (h:SetR W G m R L)(hn:(R.map (·.1)).Nodup)(he:EntsV xh es.toList R){j:Nat}(hj:j<es.toList.length): ∃vd,es.toList[j].val=.agg ((ZY R L j).cells vd).toArray∧(ZY R L j).Ok∧RdS W G vd (ZY R L j).deps:=by
 obtain⟨p,hp,hk,hv⟩:=he.at_ (List.getElem?_eq_getElem hj)
 obtain⟨x,vd,h1,h2,h3,h4,_⟩:=h.at_ p.1
 have hl:=UT hn (List.mem_of_getElem? hp)
 rw[hl]at h2
 have e:ZY R L j=x:=by unfold ZY;rw[hp,h1];rfl
 rw[e]
 exact⟨vd,hv.trans h2,h3,h4⟩
theorem SetR.perm (h:SetR W G m R L)(hn:(R.map (·.1)).Nodup)(hid:(L.map idE).Nodup):((List.range R.length).map (ZY R L)).Perm L:=by
 have h1:(R.map (·.1)).Perm (L.map idE):=(List.perm_ext_iff_of_nodup hn hid).2 fun k=>by
  rw[←zaO,←Qy]
  obtain⟨x,vd,_,_,_,_,h5⟩:=h.at_ k
  rw[h5]
 have h2:=h1.map (fun k=>(yb L k).getD default)
 have e1:(L.map idE).map (fun k=>(yb L k).getD default)=L:=by
  rw[List.map_map]
  conv=>rhs;rw[←List.map_id L]
  refine List.map_congr_left fun x hx=>?_
  show(yb L (idE x)).getD default=id x
  rw[Yy hid hx];rfl
 rw[e1]at h2
 have e2:(List.range R.length).map (ZY R L)=(R.map (·.1)).map (fun k=>(yb L k).getD default):=by
  refine List.ext_getElem (by simp) (fun i h3 h4=>?_)
  simp at h3
  simp[ZY,h3]
 rw[e2];exact h2
end
def zdp (bis bo:Nat)(fis:FuncId)(caps:List Value)(p:Ev→Bool)(f:Nat→Ev)(idx:List Nat):HP:=Ex1 fun vo=>Star [Blk bis #[.func (.func fis) #[] caps.toArray] 91,Blk bo #[vo] 26,RowE (α:=Ev) own 44 vo ((idx.map f).filter p)]
theorem KL {b:Nat}{n:Nat}{L:List Ev}(hb:(SetO b n L).p W G){fis:FuncId}{caps:List Value}{p:Ev→Bool}(hfis: ∀args w,(callFunc fis args).run Tryz.prog w=.ok (.enter fis args) w)(hIs: ∀{w:World} {Rs:List HP} {x:Ev} {dx0:Value} (hdx0:RdS W G dx0 x.deps) (ox:x.Ok),Sep G W Rs w→Ret Tryz.prog fis (.agg (x.cells dx0).toArray::caps) w (fun r w'=>r=(.bool (p x):Value)∧Sep G W Rs w'))(hS0:Sep G W Rs w)(hid:(L.map idE).Nodup)(hsr:Srt L)(hL:L.length≤1000000):Ret Tryz.prog 54 [.pointer (some ⟨b,0,none⟩),.func (.func fis) #[] caps.toArray] w (fun r w'=> ∃(v:Value),r=(v:Value)∧Sep G W ((RowE (α:=Ev) own 44 v (L.filter p))::Rs) w'):=by
 obtain⟨vv,m,R,hbk,hvv,hr⟩:=SetO.sh hb
 obtain⟨es,clock,hes,hst,hent,hclk⟩:=hr.is
 have hnR:(R.map (·.1)).Nodup:=IsMap.nodup hr.is
 have hlen:es.size=R.length:=by have:=hent.len;simpa using this
 have hpl:=hr.perm hnR hid
 have hRL:R.length=L.length:=by have:=hpl.length_eq;simpa using this
 refine QV (args:=[.pointer (some ⟨b,0,none⟩),.func (.func fis) #[] caps.toArray]) Tryz.func54 rfl rfl ?_
 refine Un ?_
 refine yq (by kernel_rfl) (fun _=>?_)
 refine st (zM (v:=.func (.func fis) #[] caps.toArray) rfl ?_)
 intro w1 bis hn1
 have hS1:=hS0.new hn1
 refine st (zY (v:=(.slice none 0 0)) rfl ?_)
 refine zb ?_
 refine Un ?_
 refine yq (by kernel_rfl) (fun _=>?_)
 refine st (zq qR ?_)
 intro w2 bo hn2
 have hS2:=hS1.new hn2
 refine zb ?_
 refine zan ?_
 refine Un ?_
 refine yq (by kernel_rfl) (fun _=>?_)
 refine st (yi (v:=.pointer (some ⟨b,0,none⟩)) rfl ?_)
 refine st (zo (b:=b) (o:=0) rfl ?_)
 refine st (XW rfl ?_)
 refine st (Ze (v:=.map (some m)) qT rfl (zd (hS2.gblk hbk) rfl) ?_)
 refine st (zH (f:=87) (vals:=[.map (some m)]) (cap:=[]) rfl rfl Tryz.call87 (JB hS2) ?_)
 rintro _ w3 ⟨bm,rfl,hS3⟩
 refine zb ?_
 refine JL ?_
 refine WW (gf:=113) (lb:=[.pointer (some ⟨bm,0,none⟩)]) rfl Tryz.call113 ?_
 intro fn tm htm
 have hS4:=(hS3.objNew (VE w3 (.deferred (some [])))).objNew (VE _ (.loop {state:=.ready,pending:=none,fn,tmps:=tm,params:=#[12],assign:=cA (ZT nT),body:=cB (ZT nT),defers:=w3.heap.size}))
 rw[show(w3.alloc (.deferred (some []))).heap.size=w3.heap.size+1 from World.size_alloc ..]at hS4
 have hS5:=hS4.rowNil (α:=Ev) own 44
 have hS6:=Sep.closeStar (Bs:=[Blk bis #[.func (.func fis) #[] caps.toArray] 91,Blk bo #[.slice none 0 0] 26,RowE (α:=Ev) own 44 (.slice none 0 0) []]) (hS5.sel 6 [5,4,0,1,3,2] (Nat.le_add_left _ _) rfl rfl)
 have hS7:Sep G W (zdp bis bo fis caps p (ZY R L) []::_) _:=Sep.closeEx (A:=fun vo=>Star [Blk bis #[.func (.func fis) #[] caps.toArray] 91,Blk bo #[vo] 26,RowE (α:=Ev) own 44 vo ((([]:List Nat).map (ZY R L)).filter p)]) (.slice none 0 0) hS6
 refine Ret.mono (zcF (A:=zdp bis bo fis caps p (ZY R L)) hr.gm hes hst rfl (fun j hj=>?_) ?_ hS7) ?_
 ·obtain⟨vd,h1,_,h3⟩:=hr.place hnR hent hj
  exact⟨_,vd,h1,h3.sl.one⟩
 ·intro idx j hj v Fr w8 hv hlt hnd hS8
  obtain⟨vd,hcv,hok,hrd⟩:=hr.place hnR hent hj
  rw[hcv]at hv
  subst hv
  refine zac (n:=24) htm (by decide) ?_
  refine ZA (by kernel_rfl) (fun _=>?_)
  refine st (zq oT ?_)
  intro w9 b6 hn9
  have hS9:=hS8.new hn9
  refine stn (zp (v:=.agg ((ZY R L j).cells vd).toArray) (c':=((ZY R L j).cells vd).toArray) lT rfl rfl (hS9.blk (i:=0) rfl) (zX ⟨rfl,rfl,rfl,hrd.sl.one,rfl,rfl,rfl,rfl,rfl,rfl,trivial⟩) (Nat.le_of_ble_eq_true rfl) rfl ?_)
  intro w10 hp10
  have hS10:=hS9.put (i:=0) rfl hp10
  refine zb ?_
  refine⟨_,run_beginRound (hS10.obj (i:=2) rfl) rfl,?_⟩
  have hS11:=hS10.objPut (i:=2) (o':=.loop {state:=.busy,pending:=none,fn,tmps:=tm,params:=#[12],assign:=cA (ZT nT),body:=cB (ZT nT),defers:=w3.heap.size}) rfl rfl
  obtain⟨vo,hS12⟩:=(hS11.sel 3 [1,0,2] (Nat.le_add_left _ _) rfl rfl).openEx
  have hS13:=hS12.openStar
  have hS14:=hS13.sel 5 [3,0,1,2,4] (Nat.le_add_left _ _) rfl rfl
  refine zcA (kv:=[(3,.pointer (some ⟨bis,0,none⟩)),(5,.pointer (some ⟨bo,0,none⟩)),(6,.pointer (some ⟨b6,0,none⟩))]) ⟨rfl,rfl,rfl,trivial⟩ (fun ρ=>Jp hfis hIs hrd hok ?_ ?_ hS14)
  ·have:=List.length_filter_le p (idx.map (ZY R L))
   rw[List.length_map]at this
   omega
  ·intro σ' w15 vo' M' hM hS15
   refine⟨_,_,run_endRound none (hS15.obj (i:=3) rfl),rfl,?_⟩
   have hS16:=hS15.objPut (i:=3) (o':=.loop {state:=.ready,pending:=none,fn,tmps:=tm,params:=#[12],assign:=cA (ZT nT),body:=cB (ZT nT),defers:=w3.heap.size}) rfl rfl
   have hM2:M'=((idx++[j]).map (ZY R L)).filter p:=by
    rw[hM,List.map_append,List.filter_append,List.map_cons,List.map_nil,List.filter_cons,List.filter_nil]
   rw[hM2]at hS16
   have hS17:=Sep.closeStar (Bs:=[Blk bis #[.func (.func fis) #[] caps.toArray] 91,Blk bo #[vo'] 26,RowE (α:=Ev) own 44 vo' (((idx++[j]).map (ZY R L)).filter p)]) hS16
   exact Sep.closeEx (A:=fun vo=>Star [Blk bis #[.func (.func fis) #[] caps.toArray] 91,Blk bo #[vo] 26,RowE (α:=Ev) own 44 vo (((idx++[j]).map (ZY R L)).filter p)]) vo' hS17
 ·rintro _ w9 ⟨idx,hperm,hS9⟩
  refine⟨_,run_endLoop (hS9.obj (i:=1) rfl) (by simp),?_⟩
  have hS10:=hS9.objPut (i:=1) (o':=.loop {state:=.exhausted,pending:=none,fn,tmps:=tm,params:=#[12],assign:=cA (ZT nT),body:=cB (ZT nT),defers:=w3.heap.size}) rfl rfl
  obtain⟨vo,hS11⟩:=hS10.openEx
  have hS12:=hS11.openStar
  have hS13:=hS12.sel 6 [2,1,5] (Nat.le_add_left _ _) rfl rfl
  have hpf:((idx.map (ZY R L)).filter p).Perm (L.filter p):=by
   have h1:=(hperm.map (ZY R L))
   rw[hlen]at h1
   exact(h1.trans hpl).filter p
  refine VW ?_
  refine ZA (by kernel_rfl) (fun _=>?_)
  refine st (Ze (v:=vo) rT rfl (zd (hS13.blk (i:=1) rfl) rfl) ?_)
  refine st (zH (f:=88) (vals:=[vo,.func (.func 89) #[] #[]]) (cap:=[]) rfl rfl Tryz.call88 (JI (by have h1:=hpf.length_eq;have h2:=List.length_filter_le p L;omega) hS13) ?_)
  rintro _ w14 ⟨l',rfl,hp',hso',hS14⟩
  refine zb ?_
  refine VW ?_
  refine ZA (by kernel_rfl) (fun _=>?_)
  refine st (Ze (v:=vo) rT rfl (zd (hS14.blk (i:=1) rfl) rfl) ?_)
  refine st (zY (v:=vo) rfl ?_)
  refine zb ?_
  refine zdb ?_
  refine⟨_,run_takeDeferred (hS14.obj (i:=2) rfl),zG Tryz.results54 (show _=(vo:Value)from rfl) ⟨vo,rfl,?_⟩⟩
  have hS15:=hS14.objPut (i:=2) (o':=.deferred none) rfl rfl
  have hl':l'=L.filter p:=WT (hp'.trans hpf) (hsr.filter p) hso'
  rw[hl']at hS15
  exact hS15.sel 3 [0] (Nat.le_add_left _ _) rfl rfl
end
section
set_option maxRecDepth 8000
set_option maxHeartbeats 4000000
open Go.Proofs Go.RowKit
def ZJ (key:Int)(e:Ev):Bool:=(!decide (key=0))&&decide (e.key=key)
def yO (L:List Ev)(key:Int):Option Ev:=L.find? (ZJ key)
def DepO (d:Value)(l:List Int):HP:=⟨fun w f=>RdS w (fun b=>f b∧Soft w b) d l,fun h hf=>h.mono fun b hb hlt=>⟨(hf b hb.1 hlt).1,(hf b hb.1 hlt).2,hb.2.keep (hf b hb.1 hlt).1⟩⟩
theorem DepO.rd {d:Value}{l:List Int}{w:World}{f:Nat→Prop}(h:(DepO d l).p w f):RdS w f d l:=RdS.weak h (fun _ _ hb=>hb.1)
section
variable {G:Nat→Prop}{W w:World}{As:List HP}{T:TypeId}{v:Value}{l:List Ev}
theorem Sep.depo (h:Sep G W (RowE (α:=Ev) own T v l::As) w){i:Nat}(hi:i<l.length): ∃d,CellsAt w (sb v) (so v+i*10) ((l.getD i default).cells d)∧(l.getD i default).Ok∧Sep G W (DepO d (l.getD i default).deps::As) w:=by
 obtain⟨f,hA,hfl,hT⟩:=h.take (i:=0) rfl
 obtain⟨cs,hc,he⟩:=RowE.elem hA hi
 rw[←zB default hi]at he
 obtain⟨d,rfl,hd,ho⟩:=he
 refine⟨d,hc,ho,hT w _ f (Chg.refl _ _) ?_ (fun _ hb=>.inl hb)⟩
 exact RdS.weak hd (fun b _ hb=>hb)
theorem Sep.depSl {d:Value}{l:List Int}(h:Sep G W As w){i:Nat}(hi:As[i]? =some (DepO d l)):IsSl d l.length:=by
 obtain⟨f,h1,_⟩:=h.get hi;exact h1.sl
theorem Sep.depoNil (h:Sep G W As w):Sep G W (DepO (.slice none 0 0) []::As) w:=h.push (Chg.refl _ _) (f:=fun _=>False) (RdS.nil _ _) (fun _ h=>h.elim)
end
theorem zcP {e:Ev}{de0:Value}(hde0:RdS W G de0 e.deps)(oe:e.Ok)(hS0:Sep G W Rs w):Ret Tryz.prog 55 [.agg (e.cells de0).toArray] w (fun r w'=>r=(.bool true:Value)∧Sep G W Rs w'):=by
 have hde0s:_*8≤_:=hde0.small
 refine zi (args:=[.agg (e.cells de0).toArray]) Tryz.func55 rfl rfl ?_
 refine za (R0 fun _=>st (zM (v:=.agg (e.cells de0).toArray) rfl ?_))
 intro w3 b2 a
 refine st (aS (.bool false) (zb (za (R0 fun _=>st (aS (.bool true) (zb (zk (zG Tryz.results55 (show _=(.bool true:Value)from rfl) ?_))))))))
 refine⟨rfl,((hS0.new a).s1_)⟩
theorem zcC {e:Ev}{de0:Value}(hde0:RdS W G de0 e.deps)(oe:e.Ok){bx:Nat}{key:Int}(hbx:(Blk bx #[.int .i64 key] 3).p W G)(hS0:Sep G W Rs w):Ret Tryz.prog 77 [.agg (e.cells de0).toArray,.pointer (some ⟨bx,0,none⟩)] w (fun r w'=>r=(.bool (ZJ key e):Value)∧Sep G W Rs w'):=by
 have hde0s:_*8≤_:=hde0.small
 refine zi (args:=[.agg (e.cells de0).toArray,Ix bx 0]) Tryz.func77 rfl rfl ?_
 refine za (R0 fun _=>st (zM (v:=.agg (e.cells de0).toArray) rfl ?_))
 intro w3 b2 g
 have d:=hS0.new g
 refine st (aS (.bool false) (zb (za (zA kr (st (lD (Iv key) kT rfl (zd (d.gblk hbx) rfl) (st (yn (k:=.i64) (a:=key) (b:=0) rfl rfl (st (mV (.bool (!decide (key=0))) (stc (V:=Ix b2 9) rfl rfl (fun h=>?_) ?_)))))))))))
 have hl6:=zz h
 exact YV rfl ⟨rfl,rfl⟩
 refine stc (V:=Iv (e.key)) rfl rfl (fun f=>?_) ?_
 have hl8:=zz f
 exact lD (Iv (e.key)) kT (if_pos f) (zd (d.b0) rfl) ⟨rfl,rfl⟩
 refine stc (V:=Iv key) rfl rfl (fun i=>?_) ?_
 have hl10:=zz i
 exact lD (Iv key) kT rfl (zd (d.gblk hbx) rfl) ⟨rfl,rfl⟩
 refine stc (V:=.bool (decide (e.key=key))) rfl rfl (fun c=>?_) ?_
 have hl12:=zz c
 exact zR (k:=.i64) (a:=e.key) (b:=key) (if_pos c) (if_pos c) ⟨rfl,rfl⟩
 refine st (zy (b:= !decide (key=0)) (b':=decide (e.key=key)) rfl (fun hbp=>(if_pos hbp)) (st (aS (.bool ((!decide (key=0))&&(decide (e.key=key)))) (zb (zk (zG Tryz.results77 (show _=(.bool ((!decide (key=0))&&(decide (e.key=key))):Value)from rfl) ?_))))))
 refine⟨rfl,(d.s1_)⟩
theorem zbz {b:Nat}{n:Nat}{L:List Ev}(hb:(SetO b n L).p W G)(hS0:Sep G W Rs w)(hid:(L.map idE).Nodup)(hsr:Srt L)(hL:L.length≤1000000):Ret Tryz.prog 16 [.pointer (some ⟨b,0,none⟩)] w (fun r w'=> ∃(v:Value),r=(v:Value)∧Sep G W ((RowE (α:=Ev) own 44 v L)::Rs) w'):=by
 refine zi (args:=[Ix b 0]) Tryz.func16 rfl rfl ?_
 obtain⟨vv1,m2,R3,hb4,e,hr6⟩:=SetO.sh hb
 have hsm7:(zu n L).length*8≤140737488355328:=e.small
 refine za (R0 fun _=>st (aS (Iz) (zb (za (R0 fun _=>st (mV (Ix b 0) (st (cL rR (KL (p:=fun _=>true) (caps:=[]) hb Tryz.call55 (fun f g h=>zcP f g h) hS0 (hid) (hsr) (hL)) ?_))))))))
 rintro c w9 ⟨_,rfl,a⟩
 have d:=a.r0
 have hr11s:_*96≤_:=d.2
 refine st (aS c (zb (zk (zG Tryz.results16 (show _=(c:Value)from rfl) ?_))))
 rw[List.filter_eq_self.2 (fun _ _=>rfl)]at a
 refine⟨c,rfl,a⟩
end
section
set_option maxRecDepth 8000
set_option maxHeartbeats 4000000
open Go.Proofs Go.RowKit
theorem zay {L:List Ev}{key:Int}(h:((L.filter (ZJ key)).length:Nat)=0):yO L key=none:=by
 have h1:=List.length_eq_zero_iff.1 h
 unfold yO
 rw[←List.head?_filter,h1];rfl
theorem zak {L:List Ev}{key:Int}(h:0<(L.filter (ZJ key)).length):yO L key=some ((L.filter (ZJ key)).getD 0 default):=by
 unfold yO
 rw[←List.head?_filter]
 cases hl:L.filter (ZJ key)with
 |nil=>rw[hl]at h;exact absurd h (Nat.lt_irrefl 0)
 |cons x l=>rfl
theorem zba {b:Nat}{n:Nat}{L:List Ev}(hb:(SetO b n L).p W G){key:Int}(hkey:InR key)(hS0:Sep G W Rs w)(hid:(L.map idE).Nodup)(hsr:Srt L)(hL:L.length≤1000000):Ret Tryz.prog 35 [.pointer (some ⟨b,0,none⟩),.int .i64 (key)] w (fun r w'=> ∃(d:Value),r=(.tuple #[.agg (((yO L key).getD default).cells d).toArray,.bool (yO L key).isSome]:Value)∧Sep G W ((DepO d (((yO L key).getD default).deps))::Rs) w'):=by
 refine zi (args:=[Ix b 0,Iv key]) Tryz.func35 rfl rfl ?_
 let S:=((⟨0,0,0,[],0,0,0,0,0,0⟩:Ev).cells (Iz))
 obtain⟨vv1,m2,R3,hb4,K,hr6⟩:=SetO.sh hb
 have hsm7:(zu n L).length*8≤140737488355328:=K.small
 refine za (R0 fun _=>st (zM (v:=Iv key) rfl ?_))
 intro w10 t M
 refine st (zq oT ?_)
 intro w14 l u
 refine st (aS (.bool false) (zb (za (R0 fun _=>st (mV (Ix b 0) (st (Zw (vals:=[Ix t 0]) rfl ?_)))))))
 obtain⟨G17,x,y,z,m⟩:=(((hS0.new M).new u).mv1).lend
 refine st (cL rR (KL (p:=ZJ key) (caps:=[Ix t 0]) (HP.base hb y) Tryz.call77 (fun N O P=>zcC N O x P) z (hid) (hsr) (hL)) ?_)
 rintro h w24 ⟨_,rfl,c⟩
 have f:=c.r0
 have hr26s:_*96≤_:=f.2
 refine st (aS h (zb (za (za (R0 fun _=>st (mV h (st (zJ (n:=(L.filter (ZJ key)).length) vT rfl f.1 (st (zR (k:=.i64) (a:=(((L.filter (ZJ key)).length:Nat):Int)) (b:=0) rfl rfl (zb ?_)))))))))))
 cases e:decide ((((L.filter (ZJ key)).length:Nat):Int)=0)
 have e:=fD e
 refine ze rfl (zl (za (R0 fun _=>st (mV h ?_))))
 have A:0<(L.filter (ZJ key)).length:=bo
 refine st (zj (k:=10) (i:=0) vT lT rfl f.1 rfl A ?_)
 have B:0<(L.filter (ZJ key)).length:=by omega
 obtain⟨j,C,ok31,g⟩:=c.depo B
 refine st (zh (k:=10) mT lT rfl rfl C ?_)
 have s:=(DepO.rd (Sep.get g (i:=0) rfl).choose_spec.1).sl
 refine stn (zp (v:=.agg (((L.filter (ZJ key)).getD 0 default).cells j).toArray) (c':=(((L.filter (ZJ key)).getD 0 default).cells j).toArray) lT rfl rfl (g.b1) (zX ⟨rfl,rfl,rfl,s.one,rfl,rfl,rfl,rfl,rfl,rfl,trivial⟩) yqc rfl ?_)
 intro Q D
 have o:=g.pt1 D
 refine st (aS (.bool true) (zb (zk (xD (b:=l) sR mT lT rfl rfl (CellsAt.all (o.b1)) (show _=(.bool true:Value)from rfl) ?_))))
 have E:=m _ _ o
 have F:Sep G W ((DepO j (((L.filter (ZJ key)).getD 0 default).deps))::Rs) Q:=E.sel 3 [1] (Nat.le_add_left _ _) rfl rfl
 rw[zak (L:=L) (key:=key) (by omega)]
 refine⟨j,?_,F⟩
 rfl
 have e:=tD e
 refine zg rfl (za (R0 fun _=>?_))
 have ok39:Ev.Ok (⟨0,0,0,[],0,0,0,0,0,0⟩:Ev):=⟨(show InR (0)from dc),(show InR (0)from dc),(show InR (0)from dc),(show InR (0)from dc),(show InR (0)from dc),(show InR (0)from dc),(show InR (0)from dc),(show InR (0)from dc),(show InR (0)from dc)⟩
 refine st (zL (parts':=[]) (v:=.agg S.toArray) rfl (by simp+zetaDelta [Instr.build,Instr.fill,Ev.cells,go_sem,Mv.cells,Fld.cells,Typ.cells,Prj.cells,Dcl.cells,Cel.cells,AskR.cells,CelS.cells,Ev.cells,Ent.cells,Sta.cells]) (stn (zp (v:=.agg S.toArray) (c':=S.toArray) lT rfl rfl (c.b1) (zX ⟨rfl,rfl,rfl,rfl,rfl,rfl,rfl,rfl,rfl,rfl,trivial⟩) yqc rfl ?_)))
 intro R H
 have q:=c.pt1 H
 refine st (aS (.bool false) (zb (zk (xD (b:=l) sR mT lT rfl rfl (CellsAt.all (q.b1)) (show _=(.bool false:Value)from rfl) ?_))))
 have I:=m _ _ q
 have J:Sep G W ((DepO (Iz) [])::(Blk t #[Iv key] 3)::(RowE (α:=Ev) own 44 h (L.filter (ZJ key)))::(Blk l S.toArray 44)::Rs) R:=I.depoNil
 rw[zay (L:=L) (key:=key) (by omega)]
 refine⟨(Iz),?_,(J.s4_a)⟩
 rfl
def xo (e:Ev):List Ev→List Ev
 |[]=>[e]
 |x::l=>if ltE e x=true then e::x::l else x::xo e l
def zbs (n:Nat)(L:List Ev)(e:Ev):Bool:=(List.range n).all (xB L e)
def ZM (n:Nat)(L:List Ev)(e:Ev):Int:=if yv e n≠0 then yv e n else if(yb L (e.origin,e.seq)).isSome=true then 16 else if e.seq≠((Yh L e.origin.toNat:Nat):Int)+1 then 9 else if zbs n L e=true then 0 else 9
def addL (n:Nat)(L:List Ev)(e:Ev):List Ev:=if ZM n L e=0 then xo e L else L
section
variable {n:Nat}{L:List Ev}{e:Ev}
theorem Ja (h: ¬yv e n=0):ZM n L e=yv e n:=by unfold ZM;rw[if_pos h]
theorem KD (h:yv e n=0)(h2:(yb L (e.origin,e.seq)).isSome=true):ZM n L e=16:=by unfold ZM;rw[if_neg (by simpa using h),if_pos h2]
theorem KG (h:yv e n=0)(h2:(yb L (e.origin,e.seq)).isSome=false)(h3: ¬e.seq=((Yh L e.origin.toNat:Nat):Int)+1):ZM n L e=9:=by unfold ZM;rw[if_neg (by simpa using h),if_neg (by rw[h2];decide),if_pos h3]
theorem KA (h:yv e n=0)(h2:(yb L (e.origin,e.seq)).isSome=false)(h3:e.seq=((Yh L e.origin.toNat:Nat):Int)+1){k:Nat}(hk:k<n)(h4:xB L e k=false):ZM n L e=9:=by
 unfold ZM
 rw[if_neg (by simpa using h),if_neg (by rw[h2];decide),if_neg (by simpa using h3),if_neg (fun h5=>?_)]
 have:=(List.all_eq_true.1 h5) k (List.mem_range.2 hk)
 rw[h4]at this;cases this
theorem VD (h:yv e n=0)(h2:(yb L (e.origin,e.seq)).isSome=false)(h3:e.seq=((Yh L e.origin.toNat:Nat):Int)+1)(h4: ∀i,i<n→xB L e i=true):ZM n L e=0:=by
 unfold ZM
 rw[if_neg (by simpa using h),if_neg (by rw[h2];decide),if_neg (by simpa using h3),if_pos (show zbs n L e=true from List.all_eq_true.2 fun i hi=>h4 i (List.mem_range.1 hi))]
theorem Zy (h: ¬ZM n L e=0):addL n L e=L:=if_neg h
theorem WD (h:ZM n L e=0):addL n L e=xo e L:=if_pos h
theorem Zq (h:yv e n=0):(0≤e.origin∧e.origin<n)∧(1≤e.seq∧1≤e.lam)∧e.deps.length=n∧e.deps.getD e.origin.toNat 0=e.seq-1:=by
 unfold yv at h
 split at h
 ·cases h
 ·rename_i h1
  split at h
  ·cases h
  ·rename_i h2
   have h1':(((((decide (e.origin<0)||decide ((n:Int)≤e.origin))||decide (min e.seq e.lam<1))||decide (min e.agg e.key<0))|| !decide (((e.deps.length:Nat):Int)=n))||Yg e.deps)=false:=by simpa using h1
   simp only[Bool.or_eq_false_iff,decide_eq_false_iff_not,Bool.not_eq_false',decide_eq_true_eq]at h1'
   have h2':e.deps.getD e.origin.toNat 0=e.seq-1:=by simpa using h2
   obtain⟨⟨⟨⟨⟨a1,a2⟩,a3⟩,a4⟩,a5⟩,a6⟩:=h1'
   exact⟨⟨by omega,by omega⟩,⟨by omega,by omega⟩,by omega,h2'⟩
theorem insE_perm: ∀{L:List Ev},(xo e L).Perm (e::L)
 |[]=>List.Perm.refl _
 |x::l=>by
  unfold xo
  split
  ·exact List.Perm.refl _
  ·exact((insE_perm (L:=l)).cons x).trans (List.Perm.swap ..)
theorem Qu:(xo e L).length=L.length+1:=insE_perm.length_eq
theorem XV {o:Nat}:Yh L o≤L.length:=List.length_filter_le ..
theorem Uq {o:Nat}:Yh (xo e L) o=Yh L o+if e.origin=(o:Int)then 1 else 0:=by
 unfold Yh
 rw[((insE_perm (e:=e) (L:=L)).filter _).length_eq,List.filter_cons]
 by_cases h:e.origin=(o:Int)
 ·rw[if_pos (by simpa using h),if_pos h];rfl
 ·rw[if_neg (by simpa using h),if_neg h];rfl
theorem KV (h0:0≤e.origin)(h1:e.origin<n):(zu n L).set e.origin.toNat (((Yh L e.origin.toNat:Nat):Int)+1)=zu n (xo e L):=by
 refine List.ext_getElem (by simp[zu]) (fun i h2 h3=>?_)
 simp only[List.length_set,Yt]at h2
 rw[List.getElem_set]
 simp only[zu,List.getElem_map,List.getElem_range]
 rw[Uq]
 by_cases h:e.origin.toNat=i
 ·rw[if_pos h,if_pos (by omega),←h];omega
 ·rw[if_neg h,if_neg (by omega)];omega
theorem zaX {A B:List Ev}(h:A.Perm B):zK A=zK B:=by
 unfold zK
 induction h with
 |nil=>rfl
 |cons x _ ih=>simp only[List.foldr_cons,ih]
 |swap x y l=>simp only[List.foldr_cons];omega
 |trans _ _ h1 h2=>exact h1.trans h2
theorem zcp:max (zK L) e.lam=zK (xo e L):=by rw[zaX insE_perm];rfl
theorem Qk (h:(yb L (e.origin,e.seq)).isSome=false):Yi (yb L) (e.origin,e.seq) e=yb (xo e L):=by
 funext k
 unfold Yi
 induction L with
 |nil=>
  simp only[xo,yb,List.find?_cons,List.find?_nil]
  obtain⟨a,b⟩:=k
  by_cases hk:(e.origin,e.seq)=(a,b)
  ·rw[if_pos hk];cases hk;simp
  ·rw[if_neg hk];simp only[Prod.mk.injEq]at hk;simp[hk]
 |cons x l ih=>
  have hx: ¬(x.origin=e.origin∧x.seq=e.seq)∧(yb l (e.origin,e.seq)).isSome=false:=by
   unfold yb at h
   rw[List.find?_cons]at h
   by_cases hx:x.origin=e.origin∧x.seq=e.seq
   ·rw[decide_eq_true hx]at h;cases h
   ·rw[decide_eq_false hx]at h;exact⟨hx,h⟩
  obtain⟨a,b⟩:=k
  have ih:=ih hx.2
  simp only[xo]
  by_cases hlt:ltE e x=true
  ·rw[if_pos hlt]
   by_cases hk:(e.origin,e.seq)=(a,b)
   ·rw[if_pos hk];cases hk;simp[yb]
   ·rw[if_neg hk];simp only[Prod.mk.injEq]at hk;simp[yb,hk]
  ·rw[if_neg hlt]
   unfold yb at ih⊢
   rw[List.find?_cons,List.find?_cons]
   by_cases hxa:x.origin=a∧x.seq=b
   ·have hk: ¬(e.origin,e.seq)=(a,b):=fun hk=>by cases hk;exact hx.1 hxa
    rw[if_neg hk,decide_eq_true hxa]
   ·rw[decide_eq_false hxa];exact ih
end
end
section
set_option maxRecDepth 8000
set_option maxHeartbeats 4000000
open Go.Proofs Go.RowKit
theorem yqe {p:Prop}(h:p:=by first|omega|(refine⟨?_,?_⟩<;>omega)):p:=h
section
variable {G:Nat→Prop}{W w:World}{As:List HP}{vd:Value}{e:Ev}
theorem zdt (ho:e.Ok)(h:Sep G W (RowE (α:=Int) own 3 vd e.deps::As) w):Sep G W (EV (.agg (e.cells vd).toArray) e::As) w:=h.impl (i:=0) rfl (fun _ h=>⟨vd,rfl,ho,h⟩)
theorem JQ {m:Nat}{X:Int×Int→Option Ev}{k:Int×Int}(h:Sep G W (MapO xh EV m X::As) w)(hX:(X k).isSome=false):Sep G W (Zs xh EV XI m X k XI::As) w:=by
 obtain⟨v,hv,h1⟩:=h.mapoTake XI k
 have hn:X k=none:=by rwa [Option.isSome_eq_false_iff,Option.isNone_iff_eq_none]at hX
 obtain rfl:=hv hn
 exact h1.sel 2 [0] (Nat.le_add_left _ _) rfl rfl
end
theorem zdJ {b:Nat}{n:Nat}{L:List Ev}{e:Ev}{de0:Value}(hde0:RdS W G de0 e.deps)(oe:e.Ok)(hS0:Sep G W ((SetO b n L)::Rs) w)(hL:L.length≤1000000)(hlen: ∀y∈L,y.deps.length=n):Ret Tryz.prog 29 [.pointer (some ⟨b,0,none⟩),.agg (e.cells de0).toArray] w (fun r w'=> ∃(L1:List Ev),r=(.int .i64 ((ZM n L e)):Value)∧(L1=addL n L e)∧Sep G W ((SetO b n L1)::Rs) w'):=by
 have hde0s:_*8≤_:=hde0.small
 refine zi (args:=[Ix b 0,.agg (e.cells de0).toArray]) Tryz.func29 rfl rfl ?_
 refine za ?_
 obtain⟨G1,cO,cP,dr,Z⟩:=hS0.lend
 obtain⟨M,m8,R9,N,F,ae⟩:=SetO.sh cO
 have hsm13:(zu n L).length*8≤140737488355328:=F.small
 have af:(zu n L).length=n:=Yt
 refine R0 fun _=>st (zM (v:=.agg (e.cells de0).toArray) rfl ?_)
 intro w16 q cS
 let ad:=Blk q (e.cells de0).toArray 44
 refine st (aS (Iv 0) (zb (za (za ?_))))
 refine WD4 ((fun B=>WF [fun vals x=>Sep G1 w (B::Rs) x,fun vals x=>(vals 6=(Iv ((yv e (((zu n L).length:Nat):Int))):Value))∧Sep G1 w (B::Rs) x]) ad) (AF [Vl 0 (.agg (e.cells de0).toArray),Vl 1 (Ix b 0),Vl 2 (Ix b 0),Vl 3 (Ix b 0),Vl 4 (M),Vl 5 (Iw ((zu n L).length)),fun _=>True,Vl 7 (Iv ((yv e (((zu n L).length:Nat):Int))))]) [[],[],[1],[1,2],[1,2,3],[1,2,3,4],(rg 6),(rg 7)] [6] [(0,0),(0,0),(0,0),(0,0),(0,0),(0,0),(0,0),(1,1)] (dr.new cS) ⟨ob1 0 fun _ _ (cT:Sep _ _ _ _) _=>obl rfl (zh (k:=10) mT lT rfl rfl (CellsAt.all (cT.b0)) dR),fun _ _ _ _ _ _ _=>obl rfl (mV (Ix b 0) dR),fun _ _ _ _ _ _ cU=>obl rfl (zo (b:=b) (o:=0) (cU 1 dc) dR),fun _ _ _ _ _ _ bf=>obl rfl (YY (bf 2 dc) dR),ob1 0 fun _ _ (bg:Sep _ _ _ _) bh=>obl rfl (lD M wT (bh 3 dc) (zd (bg.gblk N) rfl) dR),ob1 0 fun _ _ _ bi=>obl rfl (zJ (n:=(zu n L).length) sT (bi 4 dc) F.sl dR),?_,?_,trivial⟩ ?_
 refine ob1 0 fun vals _ (cV:Sep _ _ _ _) aJ=>(obl rfl ((zH (f:=67) (vals:=[.agg (e.cells de0).toArray,Iw ((zu n L).length)]) (cap:=[]) rfl (yE ⟨(aJ 0 dc),(aJ 5 dc),trivial⟩) Tryz.call67 (zbN (e:=e) (n:=(((zu n L).length:Nat):Int)) (RdS.base hde0 cP) oe (by have:(zu n L).length*8≤140737488355328:=F.small;omega) cV) ?_)))
 rintro _ w70 ⟨rfl,cW⟩
 exact fun D P I=>⟨(zx P cW),trivial⟩
 refine ob1 1 fun _ _ bj _=>?_
 obtain⟨aK,hS129⟩:=bj
 exact obl rfl (zY (v:=Iv ((yv e (((zu n L).length:Nat):Int)))) aK dR)
 intro vals w130 bk bl
 obtain⟨aK,ag⟩:=bk
 have cX:=bl 7 dc
 refine zT (kv:=[(0,Ix b 0),(1,.agg (e.cells de0).toArray),(3,Ix q 0),(4,Iv 0),(5,Iv ((yv e (((zu n L).length:Nat):Int))))]) ⟨rfl,rfl,rfl,rfl,(by exact cX),trivial⟩ (fun ρw130=>(zb (za (R0 fun _=>st (mV (Iv ((yv e (((zu n L).length:Nat):Int)))) (st (yn (k:=.i64) (a:=(yv e (((zu n L).length:Nat):Int))) (b:=0) rfl rfl (zb ?_))))))))
 cases m: !decide ((yv e (((zu n L).length:Nat):Int))=0)
 have m:=zQ m
 rw[af]at m
 obtain⟨⟨ds,cY⟩,⟨hs9,hl9⟩,dt,hq9⟩:=Zq m
 have O:(zu n L).getD e.origin.toNat 0=((Yh L e.origin.toNat:Nat):Int):=Xd om
 have hcl9:=XV (L:=L) (o:=e.origin.toNat)
 refine ze rfl (zl (za (za ?_)))
 obtain⟨s,g,hx138,ah,hok140,ai,aj⟩:=ae.at_ (e.origin,e.seq)
 have hsm143:s.deps.length*8≤140737488355328:=ai.small
 refine WD4 ((fun B=>WF [fun vals x=>Sep G1 w (B::Rs) x,fun vals x=> ∃(l:Nat),(vals 10=(Ix l 0:Value))∧Sep G1 w ((Blk l #[Iv 0,Iv 0,Iv 0,(Iz),Iv 0,Iv 0,Iv 0,Iv 0,Iv 0,Iv 0] 44)::B::Rs) x,fun vals x=> ∃(l:Nat),(vals 10=(Ix l 0:Value))∧Sep G1 w ((Blk l (s.cells g).toArray 44)::B::Rs) x]) ad) (AF [Vl 0 (Ix b 0),Vl 1 (Ix b 0),Vl 2 (Ix b 1),Vl 3 (.map (some m8)),Vl 4 (Ix q 0),Vl 5 (.agg #[Iv (e.origin),Iv (e.seq)]),Vl 6 (.tuple #[.agg (s.cells g).toArray,.bool ((yb L (e.origin,e.seq)).isSome)]),Vl 7 (.tuple #[.agg (s.cells g).toArray,.bool ((yb L (e.origin,e.seq)).isSome)]),Vl 8 (.agg (s.cells g).toArray),Vl 9 (.bool ((yb L (e.origin,e.seq)).isSome)),fun _=>True,fun _=>True,Vl 12 (.bool ((yb L (e.origin,e.seq)).isSome))]) [[],[0],[0,1],[0,1,2],[],[4],(rg 6),(rg 7),(rg 8),(rg 8),[],[0,1,2,3,4,5,6,7,8,10],(rg 12)] [10,11] [(0,1),(0,1),(0,1),(0,1),(0,1),(0,1),(0,1),(0,1),(0,1),(0,2),(0,0),(1,1),(2,2)] ag ⟨fun _ _ _ _ _ _ _=>obl rfl (mV (Ix b 0) dR),fun _ _ _ _ _ _ bm=>obl rfl (zo (b:=b) (o:=0) (bm 0 dc) dR),fun _ _ _ _ _ _ bn=>obl rfl (XW (bn 1 dc) dR),?_,fun _ _ _ _ _ _ _=>obl rfl (yp rfl dR),?_,?_,fun _ _ _ _ _ _ bp=>obl rfl (yi (v:=.tuple #[.agg (s.cells g).toArray,.bool ((yb L (e.origin,e.seq)).isSome)]) (bp 6 dc) dR),fun _ _ _ _ _ _ bq=>obl rfl (zm (vs:=[.agg (s.cells g).toArray,.bool ((yb L (e.origin,e.seq)).isSome)]) (i:=0) (v:=.agg (s.cells g).toArray) (bq 7 dc) rfl dR),fun _ _ _ _ _ _ br=>obl rfl (zm (vs:=[.agg (s.cells g).toArray,.bool ((yb L (e.origin,e.seq)).isSome)]) (i:=1) (v:=.bool ((yb L (e.origin,e.seq)).isSome)) (br 7 dc) rfl dR),?_,?_,fun _ _ _ _ _ _ bs=>obl rfl (zY (v:=.bool ((yb L (e.origin,e.seq)).isSome)) (bs 9 dc) dR),trivial⟩ ?_
 refine fun Q _ _ cZ da ak al=>?_
 have hkk:=xk cZ da
 rcases hkk with rfl|rfl
 have bv:Sep _ _ _ _:=ak
 exact obl rfl (lD (.map (some m8)) qT (al 2 dc) (zd (bv.gblk N) rfl) dR)
 obtain⟨l,E,bw⟩:=ak
 exact obl rfl (lD (.map (some m8)) qT (al 2 dc) (zd (bw.gblk N) rfl) dR)
 refine fun R _ _ db dd am an=>?_
 have hkk:=xk db dd
 rcases hkk with rfl|rfl
 have bx:Sep _ _ _ _:=am
 exact obl rfl (zh (k:=2) (cs:=[Iv (e.origin),Iv (e.seq)]) kR lR rfl (an 4 dc) (CellsAt.sub (CellsAt.all (bx.b0)) 0 (cs2:=[Iv (e.origin),Iv (e.seq)]) rfl) dR)
 obtain⟨l,E,bz⟩:=am
 exact obl rfl (zh (k:=2) (cs:=[Iv (e.origin),Iv (e.seq)]) kR lR rfl (an 4 dc) (CellsAt.sub (CellsAt.all (bz.b1)) 0 (cs2:=[Iv (e.origin),Iv (e.seq)]) rfl) dR)
 refine fun S _ _ de df ao J=>?_
 have hkk:=xk de df
 rcases hkk with rfl|rfl
 have bA:Sep _ _ _ _:=ao
 exact obl rfl (XC (k:=(e.origin,e.seq)) bA ae K2i uT oT (J 3 dc) (show _=(.agg #[Iv (e.origin),Iv (e.seq)]:Value)from(J 5 dc)) ah aj dR)
 obtain⟨l,E,bB⟩:=ao
 exact obl rfl (XC (k:=(e.origin,e.seq)) bB ae K2i uT oT (J 3 dc) (show _=(.agg #[Iv (e.origin),Iv (e.seq)]:Value)from(J 5 dc)) ah aj dR)
 refine ob1 0 fun _ _ (bC:Sep _ _ _ _) _=>(obl rfl ((zq oT ?_)))
 intro w225 l bD
 exact fun D P I=>⟨(exiA l (zx P (bC.new bD))),trivial⟩
 refine ob1 1 fun _ _ bE bF=>?_
 obtain⟨l,E,ap⟩:=bE
 refine obl rfl ((zp (v:=.agg (s.cells g).toArray) (c':=(s.cells g).toArray) lT E (bF 8 dc) (ap.b0) (zX ⟨rfl,rfl,rfl,ai.sl.one,rfl,rfl,rfl,rfl,rfl,rfl,trivial⟩) yqc rfl ?_))
 intro w236 bG
 exact fun D P I=>⟨(exiA l (zx ((I 10 dc).trans E) (ap.pt0 bG))),trivial⟩
 intro vals w332 bH bI
 obtain⟨l,E,aq⟩:=bH
 let bu:=Blk l (s.cells g).toArray 44
 have dg:=bI 12 dc
 refine zT (kv:=[(0,Ix b 0),(1,.agg (e.cells de0).toArray),(3,Ix q 0),(4,Iv 0),(5,Iv ((yv e (((zu n L).length:Nat):Int)))),(16,Iv ((yv e (((zu n L).length:Nat):Int)))),(17,.bool false),(7,.bool ((yb L (e.origin,e.seq)).isSome))]) ⟨rfl,rfl,rfl,rfl,rfl,rfl,rfl,(by exact dg),trivial⟩ (fun ρw332=>(zb (za (R0 fun _=>st (mV (.bool ((yb L (e.origin,e.seq)).isSome)) (zb ?_))))))
 cases z:(yb L (e.origin,e.seq)).isSome
 refine ze rfl (zl (za (za ?_)))
 refine WD4 (WF [fun vals x=>Sep G1 w (bu::ad::Rs) x]) (AF [Vl 0 (Ix q 0),Vl 1 (Ix q 1),Vl 2 (Iv (e.seq)),Vl 3 (Ix b 0),Vl 4 (Ix b 0),Vl 5 (Ix b 0),Vl 6 (M),Vl 7 (Ix q 0),Vl 8 (Ix q 0),Vl 9 (Iv (e.origin)),Vl 10 (Ix (sb M) (so M+e.origin.toNat*1)),Vl 11 (Iv (((zu n L).getD e.origin.toNat 0))),Vl 12 (Iv (((zu n L).getD e.origin.toNat 0)+1)),Vl 13 (.bool (!decide (e.seq=(((zu n L).getD e.origin.toNat 0)+1))))]) [[],[0],[0,1],[],[3],[3,4],[3,4,5],[],[7],[7,8],[3,4,5,6,7,8,9],[3,4,5,6,7,8,9,10],[3,4,5,6,7,8,9,10,11],(rg 13)] [] [(0,0),(0,0),(0,0),(0,0),(0,0),(0,0),(0,0),(0,0),(0,0),(0,0),(0,0),(0,0),(0,0),(0,0)] aq ⟨fun _ _ _ _ _ _ _=>obl rfl (yp rfl dR),fun _ _ _ _ _ _ bJ=>obl rfl (xE (bJ 0 dc) dR),ob1 0 fun _ _ (bK:Sep _ _ _ _) bL=>obl rfl (lD (Iv (e.seq)) kT (bL 1 dc) (zd (bK.b1) rfl) dR),fun _ _ _ _ _ _ _=>obl rfl (mV (Ix b 0) dR),fun _ _ _ _ _ _ bM=>obl rfl (zo (b:=b) (o:=0) (bM 3 dc) dR),fun _ _ _ _ _ _ bN=>obl rfl (YY (bN 4 dc) dR),ob1 0 fun _ _ (bO:Sep _ _ _ _) bP=>obl rfl (lD M wT (bP 5 dc) (zd (bO.gblk N) rfl) dR),fun _ _ _ _ _ _ _=>obl rfl (yp rfl dR),fun _ _ _ _ _ _ bQ=>obl rfl (xa (bQ 7 dc) dR),ob1 0 fun _ _ (bR:Sep _ _ _ _) bS=>obl rfl (lD (Iv (e.origin)) kT (bS 8 dc) (zd (bR.b1) rfl) dR),?_,?_,?_,ob1 0 fun _ _ _ ar=>obl rfl (yn (k:=.i64) (a:=e.seq) (b:=((zu n L).getD e.origin.toNat 0)+1) (ar 2 dc) (ar 12 dc) dR),trivial⟩ ?_
 refine ob1 0 fun _ _ _ au=>(obl rfl ?_)
 have hi526:e.origin.toNat<(zu n L).length:=bo
 exact zr (k:=1) (i:=e.origin) sT pT (au 6 dc) F.sl (au 9 dc) ⟨by omega,by omega⟩ dR
 refine ob1 0 fun _ _ (bT:Sep _ _ _ _) bU=>(obl rfl ?_)
 have av:e.origin.toNat<(zu n L).length:=bo
 obtain⟨aL,hxe535⟩:=F.intD av
 have aM:=bT.cells aL (F.foot (ne_of_lt av))
 exact lD (Iv (((zu n L).getD e.origin.toNat 0))) kT (bU 10 dc) (aM.get (j:=0) rfl) dR
 refine ob1 0 fun _ _ _ bV=>(obl rfl ?_)
 have bW:InR (((zu n L).getD e.origin.toNat 0)+1):=by omega
 exact zP (r:=((zu n L).getD e.origin.toNat 0)+1) (k:=.i64) (a:=((zu n L).getD e.origin.toNat 0)) (b:=1) (bV 11 dc) rfl (zF bW) dR
 intro vals w556 bX bY
 have T:Sep _ _ _ _:=bX
 have dh:=bY 13 dc
 refine zT (kv:=[(0,Ix b 0),(1,.agg (e.cells de0).toArray),(3,Ix q 0),(4,Iv 0),(5,Iv ((yv e (((zu n L).length:Nat):Int)))),(16,Iv ((yv e (((zu n L).length:Nat):Int)))),(17,.bool false),(7,.bool false),(29,.bool false),(43,.bool (!decide (e.seq=(((zu n L).getD e.origin.toNat 0)+1))))]) ⟨rfl,rfl,rfl,rfl,rfl,rfl,rfl,rfl,rfl,(by exact dh),trivial⟩ (fun ρw556=>(zb ?_))
 cases p: !decide (e.seq=(((zu n L).getD e.origin.toNat 0)+1))
 have p:=zQ p
 refine ze rfl (zl (za (za (R0 fun _=>st (mV (Ix b 0) (st (zo (b:=b) (o:=0) rfl (st (YY rfl (st (lD M wT rfl (zd (T.gblk N) rfl) (st (zJ (n:=(zu n L).length) sT rfl F.sl (st (mV (Iv 0) (zb (zn (zZ (fun mq σ x=> ∃(k:Nat) (ρ:Env),mq=(zu n L).length-k∧σ=yd ρ [(0,Ix b 0),(3,Ix q 0),(48,Iw ((zu n L).length)),(49,Iw k)]∧(k≤(zu n L).length)∧(∀i,i<k→xB L e i=true)∧Sep G1 w ((Blk l (s.cells g).toArray 44)::(Blk q (e.cells de0).toArray 44)::Rs) x) ⟨0,_,rfl,sSf,Nat.zero_le _,(fun i h=>absurd h (Nat.not_lt_zero i)),T⟩ ?_))))))))))))))))))
 rintro m563 σ564 di ⟨k,ρl1,rfl,rfl,hkk,hm,U⟩
 refine za (R0 fun _=>st (zC (k:=.i64) (a:=((k:Nat):Int)) (b:=(((zu n L).length:Nat):Int)) rfl rfl (zb (za ?_))))
 cases K:decide (((k:Nat):Int)<(((zu n L).length:Nat):Int))
 have K:=fD K
 refine ze rfl (ya (zS (za ?_)))
 have bZ:=Z _ _ U
 obtain⟨d,t,aw⟩:=SetO.open bZ
 let dv:=Zs xh EV XI t (yb L) (e.origin,e.seq) XI
 let cR:=MapO xh EV t (Yi (yb L) (e.origin,e.seq) e)
 let bt:=Blk b #[d,.map (some t),Iv (zK L)] 118
 have V:=aw.r1
 have hr571s:_*8≤_:=V.2
 have ca:Sep G W (dv::bt::(RowE (α:=Int) own 3 d (zu n L))::bu::ad::Rs) di:=JQ (aw.mv2) (by simpa using z)
 refine WD4 ((fun TT B=>WF [fun vals x=>Sep G W (B::TT) x,fun vals x=> ∃(A:Value),(vals 7=(.agg (e.cells A).toArray:Value))∧Sep G W ((RowE (α:=Int) own 3 A e.deps)::B::TT) x,fun vals x=> ∃(A:Value),(vals 7=(.agg (e.cells A).toArray:Value))∧Sep G W (cR::TT) x]) (bt::(RowE (α:=Int) own 3 d (zu n L))::bu::ad::Rs) dv) (AF [Vl 0 (Ix b 0),Vl 1 (Ix b 0),Vl 2 (Ix b 1),Vl 3 (.map (some t)),Vl 4 (Ix q 0),Vl 5 (.agg #[Iv (e.origin),Iv (e.seq)]),Vl 6 (.agg (e.cells de0).toArray),fun _=>True,fun _=>True]) [[],[0],[0,1],[0,1,2],[],[4],[],[6],(rg 8)] [7,8] [(0,1),(0,1),(0,1),(0,1),(0,1),(0,1),(0,0),(0,0),(1,1)] ca ⟨fun _ _ _ _ _ _ _=>obl rfl (mV (Ix b 0) dR),fun _ _ _ _ _ _ cb=>obl rfl (zo (b:=b) (o:=0) (cb 0 dc) dR),fun _ _ _ _ _ _ cc=>obl rfl (XW (cc 1 dc) dR),?_,fun _ _ _ _ _ _ _=>obl rfl (yp rfl dR),?_,ob1 0 fun _ _ (cd:Sep _ _ _ _) _=>obl rfl (zh (k:=10) mT lT rfl rfl (CellsAt.all (cd.b4)) dR),?_,?_,trivial⟩ ?_
 refine fun X _ _ dj dk ax ay=>?_
 have hkk:=xk dj dk
 rcases hkk with rfl|rfl
 have ce:Sep _ _ _ _:=ax
 exact obl rfl (lD (.map (some t)) qT (ay 2 dc) (zd (ce.b1) rfl) dR)
 obtain⟨A,H,cf⟩:=ax
 exact obl rfl (lD (.map (some t)) qT (ay 2 dc) (zd (cf.b2) rfl) dR)
 refine fun Y _ _ dl dm az aA=>?_
 have hkk:=xk dl dm
 rcases hkk with rfl|rfl
 have cg:Sep _ _ _ _:=az
 exact obl rfl (zh (k:=2) (cs:=[Iv (e.origin),Iv (e.seq)]) kR lR rfl (aA 4 dc) (CellsAt.sub (CellsAt.all (cg.b4)) 0 (cs2:=[Iv (e.origin),Iv (e.seq)]) rfl) dR)
 obtain⟨A,H,ch⟩:=az
 exact obl rfl (zh (k:=2) (cs:=[Iv (e.origin),Iv (e.seq)]) kR lR rfl (aA 4 dc) (CellsAt.sub (CellsAt.all (ch.b5)) 0 (cs2:=[Iv (e.origin),Iv (e.seq)]) rfl) dR)
 refine ob1 0 fun vals _ (ci:Sep _ _ _ _) cj=>(obl rfl ((zH (f:=69) (vals:=[.agg (e.cells de0).toArray]) (cap:=[]) rfl (yE ⟨(cj 6 dc),trivial⟩) nR (VC (e:=e) hde0 oe ci) ?_)))
 rintro _ w633 ⟨A,rfl,aB⟩
 have ck:=aB.r0
 have hr635s:_*8≤_:=ck.2
 exact fun D P I=>⟨(exiA A (zx P aB)),trivial⟩
 refine ob1 1 fun _ dp cl aC=>?_
 obtain⟨A,H,cm⟩:=cl
 refine obl rfl ?_
 have cn:Sep G W ((EV (.agg (e.cells A).toArray) e)::dv::bt::(RowE (α:=Int) own 3 d (zu n L))::bu::ad::Rs) dp:=zdt oe cm
 refine(YJ (k:=(e.origin,e.seq)) (cn.mv1) K2i uT (aC 3 dc) (show _=(.agg #[Iv (e.origin),Iv (e.seq)]:Value)from(aC 5 dc)) H ?_)
 intro dq co
 have aN:Sep G W (cR::bt::(RowE (α:=Int) own 3 d (zu n L))::bu::ad::Rs) dq:=co
 exact fun D P I=>⟨(exiA A (zx ((I 7 dc).trans H) aN)),trivial⟩
 intro vals w703 cp hA705
 obtain⟨A,H,cq⟩:=cp
 refine zT (kv:=[(0,Ix b 0),(3,Ix q 0),(48,Iw ((zu n L).length)),(49,Iw k),(50,.bool false)]) sEv (fun ρw703=>(zb (za ?_)))
 refine WD4 ((fun TT B aa=>WF [fun vals x=>Sep G W (B::aa::(RowE (α:=Int) own 3 d (zu n L))::TT) x,fun vals x=>Sep G W ((RowE (α:=Int) own 3 d ((zu n L).set e.origin.toNat (((zu n L).getD e.origin.toNat 0)+1)))::B::aa::TT) x]) (bu::ad::Rs) cR bt) (AF [Vl 0 (Ix b 0),Vl 1 (Ix b 0),Vl 2 (Ix b 0),Vl 3 (d),Vl 4 (Ix q 0),Vl 5 (Ix q 0),Vl 6 (Iv (e.origin)),Vl 7 (Ix (sb d) (so d+e.origin.toNat*1)),Vl 8 (Iv (((zu n L).getD e.origin.toNat 0))),Vl 9 (Iv (((zu n L).getD e.origin.toNat 0)+1)),Vl 10 (Ix (sb d) (so d+e.origin.toNat*1)),fun _=>True]) [[],[0],[0,1],[0,1,2],[],[4],[4,5],(rg 7),(rg 8),(rg 9),(rg 10),(rg 11)] [11] [(0,0),(0,0),(0,0),(0,0),(0,0),(0,0),(0,0),(0,0),(0,0),(0,0),(0,0),(0,0)] cq ⟨fun _ _ _ _ _ _ _=>obl rfl (mV (Ix b 0) dR),fun _ _ _ _ _ _ cr=>obl rfl (zo (b:=b) (o:=0) (cr 0 dc) dR),fun _ _ _ _ _ _ ct=>obl rfl (YY (ct 1 dc) dR),ob1 0 fun _ _ (cu:Sep _ _ _ _) cv=>obl rfl (lD d wT (cv 2 dc) (zd (cu.b1) rfl) dR),fun _ _ _ _ _ _ _=>obl rfl (yp rfl dR),fun _ _ _ _ _ _ cw=>obl rfl (xa (cw 4 dc) dR),ob1 0 fun _ _ (cx:Sep _ _ _ _) cy=>obl rfl (lD (Iv (e.origin)) kT (cy 5 dc) (zd (cx.b4) rfl) dR),?_,?_,?_,?_,?_,trivial⟩ ?_
 refine ob1 0 fun _ _ _ aD=>(obl rfl ?_)
 have hi867:e.origin.toNat<(zu n L).length:=bo
 exact zr (k:=1) (i:=e.origin) sT pT (aD 3 dc) V.1 (aD 6 dc) ⟨by omega,by omega⟩ dR
 refine ob1 0 fun _ _ (cz:Sep _ _ _ _) cC=>(obl rfl ?_)
 have cD:e.origin.toNat<(zu n L).length:=bo
 obtain⟨_,_,aO,rfl,hxe876⟩:=cz.rowAtI (i:=2) (j:=e.origin.toNat) rfl cD
 exact lD (Iv (((zu n L).getD e.origin.toNat 0))) kT (cC 7 dc) (aO.get (j:=0) rfl) dR
 refine ob1 0 fun _ _ _ cE=>(obl rfl ?_)
 have cF:InR (((zu n L).getD e.origin.toNat 0)+1):=by omega
 exact zP (r:=((zu n L).getD e.origin.toNat 0)+1) (k:=.i64) (a:=((zu n L).getD e.origin.toNat 0)) (b:=1) (cE 8 dc) rfl (zF cF) dR
 refine ob1 0 fun _ _ _ aE=>(obl rfl ?_)
 have hi896:e.origin.toNat<(zu n L).length:=bo
 exact zr (k:=1) (i:=e.origin) sT pT (aE 3 dc) V.1 (aE 6 dc) ⟨by omega,by omega⟩ dR
 refine ob1 0 fun _ _ (cG:Sep _ _ _ _) aF=>(obl rfl ?_)
 refine(yP (α:=Int) (j:=e.origin.toNat) (o:=0) (u:=Iv (((zu n L).getD e.origin.toNat 0)+1)) (us:=[Iv (((zu n L).getD e.origin.toNat 0)+1)]) (x1:=((zu n L).getD e.origin.toNat 0)+1) ((cG.mv2).emp1) pT bo (aF 10 (by decide)) (aF 9 (by decide)) rfl (Nat.le_of_ble_eq_true rfl) (zX ⟨rfl,trivial⟩) (fun _ _ cQ hel _=>(by have du:=Src.len _ hel;have e0:cQ.take 0++(([Iv (((zu n L).getD e.origin.toNat 0)+1)]:List Value))++cQ.drop (0+(([Iv (((zu n L).getD e.origin.toNat 0)+1)]:List Value)).length)=(([Iv (((zu n L).getD e.origin.toNat 0)+1)]:List Value)):=(by rw[List.drop_eq_nil_of_le (by rw[du];exact Nat.le_of_ble_eq_true rfl)];simp);rw[e0];exact(show _ from⟨rfl,(by omega)⟩))) ?_)
 intro w804 aG
 have cH:=aG.r0
 have hr808s:_*8≤_:=cH.2
 exact fun D P I=>⟨aG,trivial⟩
 intro vals w897 cI hA899
 have cJ:Sep _ _ _ _:=cI
 refine zT (kv:=[(0,Ix b 0),(3,Ix q 0),(48,Iw ((zu n L).length)),(49,Iw k),(50,.bool false)]) sEv (fun ρw897=>(zb (za ?_)))
 refine WD4 ((fun TT B aa=>WF [fun vals x=>Sep G W (B::aa::bt::TT) x,fun vals x=>Sep G W (B::aa::(Blk b #[d,.map (some t),Iv (max (zK L) e.lam)] 118)::TT) x]) (bu::ad::Rs) (RowE (α:=Int) own 3 d ((zu n L).set e.origin.toNat (((zu n L).getD e.origin.toNat 0)+1))) cR) (AF [Vl 0 (Ix b 0),Vl 1 (Ix b 0),Vl 2 (Ix b 0),Vl 3 (Ix b 2),Vl 4 (Iv (zK L)),Vl 5 (Ix q 2),Vl 6 (Iv (e.lam)),Vl 7 (Iv (max (zK L) e.lam)),Vl 8 (Ix b 0),Vl 9 (Ix b 2),fun _=>True]) [[],[],[1],[1,2],[1,2,3],[],[5],[1,2,3,4,5,6],(rg 8),(rg 9),(rg 10)] [10] [(0,0),(0,0),(0,0),(0,0),(0,0),(0,0),(0,0),(0,0),(0,0),(0,0),(0,0)] cJ ⟨fun _ _ _ _ _ _ _=>obl rfl (mV (Ix b 0) dR),fun _ _ _ _ _ _ _=>obl rfl (mV (Ix b 0) dR),fun _ _ _ _ _ _ cK=>obl rfl (zo (b:=b) (o:=0) (cK 1 dc) dR),fun _ _ _ _ _ _ aP=>obl rfl (Uf (aP 2 dc) dR),ob1 0 fun _ _ (aQ:Sep _ _ _ _) aR=>obl rfl (lD (Iv (zK L)) kT (aR 3 dc) (zd (aQ.b2) rfl) dR),fun _ _ _ _ _ _ _=>obl rfl (xC rfl dR),ob1 0 fun _ _ (aT:Sep _ _ _ _) aU=>obl rfl (lD (Iv (e.lam)) kT (aU 5 dc) (zd (aT.b4) rfl) dR),ob1 0 fun _ _ _ ab=>obl rfl (Yj (k:=.i64) (a:=zK L) (b:=e.lam) (ab 4 dc) (ab 6 dc) dR),fun _ _ _ _ _ _ aV=>obl rfl (zo (b:=b) (o:=0) (aV 0 dc) dR),fun _ _ _ _ _ _ aW=>obl rfl (Uf (aW 8 dc) dR),?_,trivial⟩ ?_
 refine ob1 0 fun _ _ (aH:Sep _ _ _ _) aI=>(obl rfl ((ym (v:=Iv (max (zK L) e.lam)) (c:=[d,.map (some t),Iv (zK L)]) (c':=[d,.map (some t),Iv (max (zK L) e.lam)]) pT (aI 9 dc) (aI 7 dc) (aH.b2) rfl rfl rfl ?_)))
 intro w981 cM
 exact fun D P I=>⟨(aH.pt2 cM),trivial⟩
 intro vals cN aX hA1057
 have aY:Sep _ _ _ _:=aX
 refine zT (kv:=[(0,Ix b 0),(3,Ix q 0),(48,Iw ((zu n L).length)),(49,Iw k),(50,.bool false)]) sEv (fun ρw1055=>(zb (za (R0 fun _=>st (aS (Iv 0) (zb (zk (zG tT (show _=(Iv 0:Value)from rfl) ?_))))))))
 have aZ:Sep G W ((SetO b n (xo e L))::bu::ad::Rs) cN:=SetO.close (aY.mv2) zcp (by rw[O];exact KV ds cY) (Qk (by simpa using z))
 refine⟨(xo e L),?_,?_,(aZ.s3_a)⟩
 rw[VD m z (by rw[O]at p;exact p) (fun i hi=>hm i (by omega))]
 rw[WD (VD m z (by rw[O]at p;exact p) (fun i hi=>hm i (by omega)))]
 have K:=tD K
 refine zg rfl (zl (za (zn (za (R0 fun _=>st (mV (Iw k) (st (aS (Iw k) (zb (za (R0 fun _=>st (mV (Ix b 0) (st (zh (k:=10) mT lT rfl rfl (CellsAt.all (U.b1)) (st (mV (Iw k) ?_))))))))))))))))
 refine st (cL Tryz.call68 (zcR (e:=e) (o:=k) cO (RdS.base hde0 cP) oe yqe U (dt) (hlen)) ?_)
 rintro _ w1062 ⟨rfl,ac⟩
 refine st (yB (a:=(xB L e k)) rfl (zb ?_))
 cases C: !(xB L e k)
 try simp only[zf]at C
 refine ze rfl (zl (R0 fun _=>?_))
 have ba:InR ((k+1:Nat):Int):=bo
 refine st (zP (r:=((k+1:Nat):Int)) (k:=.i64) (a:=((k:Nat):Int)) (b:=1) rfl rfl (by rw[show(((k:Nat):Int)+1:Int)=((k+1:Nat):Int)from bo];exact zF ba) (st (mV (Iw (k+1)) (zb ?_))))
 exact⟨_,by omega,k+1,_,rfl,sSf,by omega,(yL hm (by simpa using C)),ac⟩
 try simp only[zf]at C
 refine zg rfl (za (R0 fun _=>st (aS (Iv 9) (zb (zk (zG tT (show _=(Iv 9:Value)from rfl) ?_))))))
 have bb:=Z _ _ ac
 refine⟨L,?_,?_,(bb.s3_a)⟩
 rw[KA m z (by rw[O]at p;exact p) (k:=k) (by omega) (by simpa using C)]
 rw[Zy (by rw[KA m z (by rw[O]at p;exact p) (k:=k) (by omega) (by simpa using C)];decide)]
 have p:=zz p
 refine zg rfl (za (R0 fun _=>st (aS (Iv 9) (zb (zk (zG tT (show _=(Iv 9:Value)from rfl) ?_))))))
 have bc:=Z _ _ T
 refine⟨L,?_,?_,(bc.s3_a)⟩
 rw[KG m z (by rw[O]at p;exact p)]
 rw[Zy (by rw[KG m z (by rw[O]at p;exact p)];decide)]
 refine zg rfl (za (R0 fun _=>st (aS (Iv 16) (zb (zk (zG tT (show _=(Iv 16:Value)from rfl) ?_))))))
 have bd:=Z _ _ aq
 refine⟨L,?_,?_,(bd.s3_a)⟩
 rw[KD m z]
 rw[Zy (by rw[KD m z];decide)]
 have m:=zz m
 refine zg rfl (za (R0 fun _=>st (mV (Iv ((yv e (((zu n L).length:Nat):Int)))) (st (aS (Iv ((yv e (((zu n L).length:Nat):Int)))) (zb (zk (zG tT (show _=(Iv ((yv e (((zu n L).length:Nat):Int))):Value)from rfl) ?_))))))))
 have be:=Z _ _ ag
 refine⟨L,?_,?_,(be.s2_a)⟩
 rw[af]at*;rw[Ja m]
 rw[af]at*;rw[Zy (by rw[Ja m];exact m)]
end
section
theorem Kd {a b:Ev}:ltE a b=true↔ZU a b<0:=by
 rw[xU]
 unfold ltE
 by_cases h1:a.lam=b.lam
 ·by_cases h2:a.origin=b.origin
  ·simp[h1,h2]
  ·simp[h1,h2]
 ·simp[h1]
theorem Jn {a b c:Ev}(h1:ZU a b<0)(h2:ZU b c<0):ZU a c<0:=by rw[xU]at*;omega
theorem JV {a b:Ev}(h1:ZU a b<0): ¬ZU b a<0:=by rw[xU]at*;omega
theorem JO {a b:Ev}(h:idE a≠idE b):ZU a b<0∨ZU b a<0:=by
 rw[xU,xU]
 have h': ¬(a.origin=b.origin∧a.seq=b.seq):=fun e=>h (by unfold idE;rw[e.1,e.2])
 omega
section
variable {n:Nat}{L T:List Ev}{e x y:Ev}
theorem Xl:x∈xo e L↔x=e∨x∈L:=by rw[insE_perm.mem_iff,List.mem_cons]
theorem zbF (hs:Srt L)(hn:idE e∉L.map idE):Srt (xo e L):=by
 induction L with
 |nil=>exact List.pairwise_singleton _ _
 |cons x l ih=>
  unfold Srt at hs⊢
  rw[List.pairwise_cons]at hs
  have hne:idE e≠idE x:=fun h=>hn (by rw[h];exact List.mem_map.2 ⟨x,List.mem_cons_self ..,rfl⟩)
  simp only[xo]
  split
  ·rename_i hlt
   have h1:=Kd.1 hlt
   rw[List.pairwise_cons,List.pairwise_cons]
   refine⟨fun y hy=>?_,hs.1,hs.2⟩
   rcases List.mem_cons.1 hy with rfl|hy
   ·exact h1
   ·exact Jn h1 (hs.1 y hy)
  ·rename_i hlt
   rw[List.pairwise_cons]
   refine⟨fun y hy=>?_,ih hs.2 (fun h=>hn (List.mem_cons_of_mem _ h))⟩
   rcases Xl.1 hy with rfl|hy
   ·rcases JO hne with h|h
    ·exact absurd (Kd.2 h) hlt
    ·exact h
   ·exact hs.1 y hy
structure Good (n:Nat) (L:List Ev):Prop where
 chk: ∀e∈L,yv e n=0
 ids:(L.map idE).Nodup
 srt:Srt L
 knw: ∀e∈L,∀o,o<n→xB L e o=true
 seqle: ∀e∈L,e.seq≤((Yh L e.origin.toNat:Nat):Int)
 fill: ∀(o:Nat) (q:Int),1≤q→q≤((Yh L o:Nat):Int)→(yb L ((o:Int),q)).isSome=true
theorem Good.nil:Good n []:=by
 refine⟨fun _ h=>by simp at h,List.nodup_nil,List.Pairwise.nil,fun _ h=>by simp at h,fun _ h=>by simp at h,fun o q h1 h2=>?_⟩
 have h3:Yh [] o=0:=rfl
 omega
theorem Good.len (h:Good n L): ∀y∈L,y.deps.length=n:=fun y hy=>(Zq (h.chk y hy)).2.2.1
theorem Good.get (h:Good n L)(hx:x∈L):yb L (x.origin,x.seq)=some x:=Yy h.ids hx
theorem JY {o:Nat}:xB L e o=true↔e.deps.getD o 0=0∨ ∃x,yb L ((o:Int),e.deps.getD o 0)=some x∧x.lam<e.lam∧ ∀i,i<x.deps.length→x.deps.getD i 0≤e.deps.getD i 0:=by
 unfold xB
 by_cases h:e.deps.getD o 0=0
 ·rw[decide_eq_true h,Bool.true_or];exact⟨fun _=>.inl h,fun _=>rfl⟩
 ·rw[decide_eq_false h,Bool.false_or]
  constructor
  ·intro h1
   cases hg:yb L ((o:Int),e.deps.getD o 0)with
   |none=>rw[hg]at h1;cases h1
   |some x=>
    rw[hg]at h1
    simp only[Bool.and_eq_true,decide_eq_true_eq,List.all_eq_true,List.mem_range]at h1
    exact .inr ⟨x,rfl,h1.1,fun i hi=>h1.2 i hi⟩
  ·rintro(h1|⟨x,hg,h1,h2⟩)
   ·exact absurd h1 h
   ·rw[hg]
    simp only[Bool.and_eq_true,decide_eq_true_eq,List.all_eq_true,List.mem_range]
    exact⟨h1,fun i hi=>h2 i hi⟩
theorem add_zero (h:ZM n L e=0):yv e n=0∧(yb L (e.origin,e.seq)).isSome=false∧e.seq=((Yh L e.origin.toNat:Nat):Int)+1∧ ∀o,o<n→xB L e o=true:=by
 unfold ZM at h
 split at h
 ·rename_i h1;exact absurd h h1
 ·rename_i h1
  split at h
  ·cases h
  ·rename_i h2
   split at h
   ·cases h
   ·rename_i h3
    split at h
    ·rename_i h4
     refine⟨by simpa using h1,by simpa using h2,by simpa using h3,fun o ho=>?_⟩
     exact(List.all_eq_true.1 h4) o (List.mem_range.2 ho)
    ·cases h
theorem VH {k:Int×Int}(h:(yb L (e.origin,e.seq)).isSome=false):yb (xo e L) k=if(e.origin,e.seq)=k then some e else yb L k:=by
 rw[←Qk h];rfl
theorem Good.add (h:Good n L)(h0:ZM n L e=0):Good n (xo e L):=by
 obtain⟨hc,hg,hs,hk⟩:=add_zero h0
 obtain⟨⟨ho,ho'⟩,⟨hs1,_⟩,hdl,hdq⟩:=Zq hc
 have hid:idE e∉L.map idE:=fun hm=>by
  have:=Qy.2 hm
  unfold idE at this
  rw[hg]at this;cases this
 have hkn: ∀{x:Ev} {o:Nat},xB L x o=true→xB (xo e L) x o=true:=fun{x o} hx=>by
  rw[JY]at hx⊢
  rcases hx with hx|⟨z,hz,h1,h2⟩
  ·exact .inl hx
  ·refine .inr ⟨z,?_,h1,h2⟩
   rw[VH hg,if_neg,hz]
   intro he
   rw[he,hz]at hg;cases hg
 refine⟨fun x hx=>?_,?_,zbF h.srt hid,fun x hx o hlt=>?_,fun x hx=>?_,fun o q h1 h2=>?_⟩
 ·rcases Xl.1 hx with rfl|hx
  ·exact hc
  ·exact h.chk x hx
 ·have hp:((xo e L).map idE).Perm (idE e::L.map idE):=insE_perm.map idE
  exact hp.nodup_iff.2 (List.nodup_cons.2 ⟨hid,h.ids⟩)
 ·rcases Xl.1 hx with rfl|hx
  ·exact hkn (hk o hlt)
  ·exact hkn (h.knw x hx o hlt)
 ·rw[Uq]
  rcases Xl.1 hx with rfl|hx
  ·rw[if_pos (by omega)];omega
  ·have:=h.seqle x hx;omega
 ·rw[Uq]at h2
  rw[VH hg]
  by_cases he:(e.origin,e.seq)=((o:Int),q)
  ·rw[if_pos he];rfl
  ·rw[if_neg he]
   refine h.fill o q h1 ?_
   by_cases hoe:e.origin=(o:Int)
   ·rw[if_pos hoe]at h2
    have:e.seq≠q:=fun hq=>he (by rw[hoe,hq])
    have h3:e.origin.toNat=o:=by omega
    rw[h3]at hs
    omega
   ·rw[if_neg hoe]at h2;simpa using h2
theorem Good.addL (h:Good n L):Good n (addL n L e):=by
 unfold Go.Proofs.YtbcdijeggfoabaaGreatDoor.addL
 split
 ·rename_i h0;exact h.add h0
 ·exact h
def xb (n:Nat)(l:List Ev):List Ev:=l.foldl (addL n) []
theorem QG {l:List Ev}:xb n (l++[e])=addL n (xb n l) e:=by unfold xb;rw[List.foldl_append];rfl
theorem We: ∀{l:List Ev} {L:List Ev},Good n L→Good n (l.foldl (addL n) L)
 |[],_,h=>h
 |_::l,_,h=>We (l:=l) h.addL
theorem laidL_good {l:List Ev}:Good n (xb n l):=We Good.nil
theorem zbZ:(addL n L e).length≤L.length+1:=by
 unfold addL
 split
 ·rw[Qu];omega
 ·omega
theorem Vo: ∀{l:List Ev} {L:List Ev},(l.foldl (addL n) L).length≤L.length+l.length
 |[],_=>Nat.le_refl _
 |x::l,L=>by
  have:=Vo (l:=l) (L:=addL n L x)
  have h2:=zbZ (n:=n) (L:=L) (e:=x)
  simp only[List.foldl_cons,List.length_cons]
  omega
theorem ZF {l:List Ev}:(xb n l).length≤l.length:=by have:=Vo (n:=n) (l:=l) (L:=[]);simpa[xb]using this
end
end
section
set_option maxRecDepth 8000
set_option maxHeartbeats 4000000
open Go.Proofs Go.RowKit
def Zb (c:Cmd)(ver:Int):Int:=if(decide (c.expect= -1)||decide (c.expect=ver))=true then 0 else 11
def xH (d:Dcl)(k:Int×Int)(V:List Ent):Sta:=⟨((yh k V:Nat):Int),zO d k V⟩
def exR (d:Dcl)(n:Nat)(L:List Ev)(V:List Ent)(o start:Int)(c:Cmd):Ev×Bool×Int:=
 if ¬xx d c=0 then(ev0,false,xx d c)else match yO L c.ckey with
 |some e=>(e,false,0)
 |none=>if ¬Zb c ((yh (c.ctyp,c.cagg) V:Nat):Int)=0 then(ev0,false,Zb c ((yh (c.ctyp,c.cagg) V:Nat):Int))
  else if ¬yH (xX d c.ctyp) (zO d (c.ctyp,c.cagg) V) c.cfield c.cop c.carg=0 then(ev0,false,yH (xX d c.ctyp) (zO d (c.ctyp,c.cagg) V) c.cfield c.cop c.carg)
  else(evE c o (zu n L) (max (zK L) start),decide (evN o (zu n L) (max (zK L) start)=0),evN o (zu n L) (max (zK L) start))
theorem JU {G:Nat→Prop}{W w:World}{As:List HP}{T:TypeId}{d:Value}{l:List Int}(h:Sep G W (RowE (α:=Int) own T d l::As) w):Sep G W (DepO d l::As) w:=h.impl (i:=0) rfl (fun _ h=>RowE.soft h)
theorem D_ex1 {bc:Nat}{c:Cmd}(hbc:(Blk bc (c.cells).toArray 49).p W G)(oc:c.Ok){bs:Nat}{x:Sta}{vx:Value}(hbs:(Blk bs (x.cells vx).toArray 77).p W G)(hvx:RdS W G vx x.cls)(ox:x.Ok)(hS0:Sep G W Rs w):Ret Tryz.prog 38 [.pointer (some ⟨bc,0,none⟩),.pointer (some ⟨bs,0,none⟩)] w (fun r w'=>r=(.int .i64 ((Zb c x.ver)):Value)∧Sep G W Rs w'):=by
 refine zi (args:=[Ix bc 0,Ix bs 0]) Tryz.func38 rfl rfl ?_
 refine za (R0 fun _=>st (aS (Iv 0) (zb (za (za (zA kr (st (Yo rfl (st (lD (Iv (c.expect)) kT rfl (zd (hS0.gblk hbc) rfl) (st (zR (k:=.i64) (a:=c.expect) (b:= -1) rfl rfl (st (mV (.bool (decide (c.expect=(-1)))) (stc (V:=Ix bc 5) rfl rfl (fun i=>?_) ?_)))))))))))))))
 have hl2:=fD i
 exact Yo rfl ⟨rfl,rfl⟩
 refine stc (V:=Iv (c.expect)) rfl rfl (fun g=>?_) ?_
 have hl4:=fD g
 exact lD (Iv (c.expect)) kT (if_pos g) (zd (hS0.gblk hbc) rfl) ⟨rfl,rfl⟩
 refine stc (V:=Ix bs 0) rfl rfl (fun j=>?_) ?_
 have hl6:=fD j
 exact Xt rfl ⟨rfl,rfl⟩
 refine stc (V:=Iv (x.ver)) rfl rfl (fun h=>?_) ?_
 have hl8:=fD h
 exact lD (Iv (x.ver)) kT (if_pos h) (zd (hS0.gblk hbs) rfl) ⟨rfl,rfl⟩
 refine stc (V:=.bool (decide (c.expect=x.ver))) rfl rfl (fun f=>?_) ?_
 have hl10:=fD f
 exact zR (k:=.i64) (a:=c.expect) (b:=x.ver) (if_pos f) (if_pos f) ⟨rfl,rfl⟩
 refine st (zt (b:=decide (c.expect=(-1))) (b':=decide (c.expect=x.ver)) rfl (fun hbp=>(if_pos hbp)) (zb ?_))
 cases d:(decide (c.expect=(-1)))||(decide (c.expect=x.ver))
 have e:=d
 try simp only[zf]at d
 refine ze rfl (zl (za (R0 fun _=>st (aS (Iv 11) (zb (zk (zG tR (show _=(Iv 11:Value)from rfl) ?_)))))))
 refine⟨?_,hS0⟩
 unfold Zb
 simp only[e,if_true,if_false,Bool.false_eq_true,↓reduceIte]
 have e:=d
 try simp only[zf]at d
 refine zg rfl (za (R0 fun _=>st (aS (Iv 0) (zb (zk (zG tR (show _=(Iv 0:Value)from rfl) ?_))))))
 refine⟨?_,hS0⟩
 unfold Zb
 simp only[e,if_true,if_false,Bool.false_eq_true,↓reduceIte]
theorem D_ex2 {bt:Nat}{t:Typ}{vt:Value}(hbt:(Blk bt (t.cells vt).toArray 74).p W G)(hvt:RdS W G vt t.fields)(ot:t.Ok){bs:Nat}{x:Sta}{vx:Value}(hbs:(Blk bs (x.cells vx).toArray 77).p W G)(hvx:RdS W G vx x.cls)(ox:x.Ok){bc:Nat}{c:Cmd}(hbc:(Blk bc (c.cells).toArray 49).p W G)(oc:c.Ok)(hS0:Sep G W Rs w)(hak:Yw t x.cls c.cfield c.cop c.carg):Ret Tryz.prog 39 [.pointer (some ⟨bt,0,none⟩),.pointer (some ⟨bs,0,none⟩),.pointer (some ⟨bc,0,none⟩)] w (fun r w'=>r=(.int .i64 (yH t x.cls c.cfield c.cop c.carg):Value)∧Sep G W Rs w'):=by
 refine zi (args:=[Ix bt 0,Ix bs 0,Ix bc 0]) Tryz.func39 rfl rfl ?_
 refine za (R0 fun _=>st (aS (Iv 0) (zb (za (R0 fun _=>st (zh (k:=1) Tryz.isAgg74 Tryz.sizeOf74 rfl rfl (CellsAt.all (hS0.gblk hbt)) (st (xO rfl (st (lD vx Tryz.isAgg75 rfl (zd (hS0.gblk hbs) rfl) (st (Xp rfl (st (lD (Iv (c.cfield)) kT rfl (zd (hS0.gblk hbc) rfl) (st (Xz rfl (st (lD (Iv (c.cop)) kT rfl (zd (hS0.gblk hbc) rfl) (st (YS rfl (st (lD (Iv (c.carg)) kT rfl (zd (hS0.gblk hbc) rfl) (st (cL Tryz.call40 (zdj (t:=t) (c:=x.cls) (vc:=vx) (f:=c.cfield) (op:=c.cop) (arg:=c.carg) hvt ot hvx oc.cfield oc.cop oc.carg hS0 (hak)) ?_))))))))))))))))))))))))
 rintro _ w1 ⟨rfl,a⟩
 refine st (aS (Iv (yH t x.cls c.cfield c.cop c.carg)) (zb (zk (zG Tryz.results39 (show _=(Iv (yH t x.cls c.cfield c.cop c.carg):Value)from rfl) ?_))))
 refine⟨rfl,a⟩
end
end Go.Proofs.YtbcdijeggfoabaaGreatDoor
