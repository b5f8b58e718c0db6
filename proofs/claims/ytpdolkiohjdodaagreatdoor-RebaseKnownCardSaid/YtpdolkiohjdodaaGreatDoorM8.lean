import Derived.Test.YtpdolkiohjdodaaGreatDoorM7
import Derived.Laws.Externs
set_option maxRecDepth 8000
set_option maxHeartbeats 4000000
set_option linter.unusedSimpArgs false
set_option linter.unusedVariables false
set_option linter.unusedSectionVars false
set_option linter.deprecated false
open Go.Proofs.Tryz renaming sizeOf3→kT,isAgg3→lT,sizeOf77→mT,sizeOf55→nT,underlying119→oT,underlying75→pT,zeroValue77→qT,isAgg75→rT,isAgg78→sT,isAgg73→tT,sizeOf73→uT,isAgg55→vT,isAgg119→wT,sizeOf70→kR,isAgg26→lR,isAgg77→mR,underlying78→nR,underlying57→oR,underlying55→pR,underlying73→qR,underlying3→rR,zeroValue70→sR,isAgg70→tR,results64→uR,isAgg25→vR,sizeOf25→wR,call80→kY,sizeOf92→lY,results38→mY
namespace Go.Proofs.YtpdolkiohjdodaaGreatDoor
variable {G:Nat→Prop}{W w:World}{Rs:List HP}
section
open Go.Proofs Go.RowKit
theorem Qc {p:Prj}{r:Row}{arg:Int}(hv:InR r.value)(hc:InR r.count)(ha:InR arg):InR (yV p r arg):=by
 unfold yV
 split
 ·exact hc
 ·split
  ·exact Ys _
  ·split
   ·exact ha
   ·split
    ·omega
    ·split
     ·omega
     ·decide
def pick (L:List (Int×Row))(idx:List Nat):List Row:=idx.map fun j=>(L.getD j (0,⟨0,0,0⟩)).2
theorem JY {L:List (Int×Row)}{idx:List Nat}{j:Nat}(hj:j<L.length):pick L (idx++[j])=pick L idx++[L[j].2]:=by
 unfold pick
 rw[List.map_append,List.map_cons,List.map_nil,zJ _ hj]
theorem Jw {L:List (Int×Row)}{idx:List Nat}(h:List.Perm (idx.map fun j=>L[j]?) (L.map some)):(pick L idx).Perm (L.map (·.2)):=by
 have h2:=h.map (fun o:Option (Int×Row)=>(o.getD (0,⟨0,0,0⟩)).2)
 rw[List.map_map,List.map_map]at h2
 refine(List.Perm.of_eq ?_).trans (h2.trans (List.Perm.of_eq ?_))
 ·unfold pick;refine List.map_congr_left fun j _=>?_;simp[List.getD_eq_getElem?_getD]
 ·refine List.map_congr_left fun p _=>?_;simp
theorem C_New {w:World}{p:Prj}(op:p.Ok):Ret Tryz.prog 37 [.agg (p.cells).toArray] w (fun r w'=> ∃a m,r=.pointer (some ⟨a,0,none⟩)∧Ext w w'∧w.heap.size≤a∧w.heap.size≤m∧a≠m∧w'.heap[a]? =some (.cells #[.int .i64 (p.ptyp),.int .i64 (p.pfield),.int .i64 (p.pgroup),.int .i64 (p.pby),.int .i64 (p.pmake),.map (some m)] 121)∧MapR (α:=Row) w' (fun _=>False) m []):=by
 refine zn (args:=[.agg (p.cells).toArray]) Tryz.func37 rfl rfl ?_
 refine za ?_
 refine zL (by kernel_rfl) (fun _=>?_)
 refine st (zX (v:=.agg (p.cells).toArray) rfl (fun w1 b2 hn1=>?_))
 have hb3:w1.heap[b2]? =some (.cells (p.cells).toArray 73):=hn1.at_
 have hs4:=hn1.size;have hs4e:=hn1.eq
 refine st (zM (v:=.pointer none) rfl ?_)
 refine zb ?_
 refine za ?_
 refine zL (by kernel_rfl) (fun _=>?_)
 refine st (zh (k:=5) tT uT rfl rfl (zo hb3) ?_)
 refine st (Yq (fun w2 hn5=>?_))
 obtain⟨m6,m6e⟩: ∃z,z=w1.heap.size:=⟨_,rfl⟩;rw[←m6e]at hn5⊢
 have hn5s:=hn5.size
 have hn5m:=New.mapR (α:=Row) hn5 (fun _=>False)
 refine st (zV (parts':=[(0,.agg (p.cells).toArray),(1,.map (some m6))]) (v:=.agg #[.int .i64 (p.ptyp),.int .i64 (p.pfield),.int .i64 (p.pgroup),.int .i64 (p.pby),.int .i64 (p.pmake),.map (some m6)]) rfl (by simp[Instr.build,Instr.fill,Prj.cells,go_sem]) ?_)
 refine st (zX (v:=.agg #[.int .i64 (p.ptyp),.int .i64 (p.pfield),.int .i64 (p.pgroup),.int .i64 (p.pby),.int .i64 (p.pmake),.map (some m6)]) rfl (fun w3 b8 hn7=>?_))
 have hb9:w3.heap[b8]? =some (.cells #[.int .i64 (p.ptyp),.int .i64 (p.pfield),.int .i64 (p.pgroup),.int .i64 (p.pby),.int .i64 (p.pmake),.map (some m6)] 121):=hn7.at_
 have hs10:=hn7.size;have hs10e:=hn7.eq
 refine st (zM (v:=.pointer (some ⟨b8,0,none⟩)) rfl ?_)
 refine zb ?_
 refine zq ?_
 refine zU Tryz.results37 (show _=(.pointer (some ⟨b8,0,none⟩):Value)from rfl) ?_
 have h11:=hn5m.ext hn7.ext
 refine⟨_,_,rfl,(Chg.trans (Chg.trans hn1.ext hn5.ext) hn7.ext),by omega,by omega,by omega,hb9,h11⟩
theorem Um {d:Option Tmp}{ty:TypeId}{pos:String}{af:Array Edge}{g:Option (Nat×Bool)}{σ:Env}{w:World}{K:Value→World→Prop}{x:Operand}{b o:Nat}(hx:ev σ x=.pointer (some ⟨b,o,none⟩))(h:K (.pointer (some ⟨b,o+0,none⟩)) w):opV Tryz.prog ⟨d,.fieldAddr 57 x 0,ty,pos,af,g⟩ σ w K:=zu oR rfl rfl (fun w=>⟨9,nT w⟩) hx h
theorem zdl {d:Option Tmp}{ty:TypeId}{pos:String}{af:Array Edge}{g:Option (Nat×Bool)}{σ:Env}{w:World}{K:Value→World→Prop}{x:Operand}{b o:Nat}(hx:ev σ x=.pointer (some ⟨b,o,none⟩))(h:K (.pointer (some ⟨b,o+10,none⟩)) w):opV Tryz.prog ⟨d,.fieldAddr 57 x 1,ty,pos,af,g⟩ σ w K:=zu oR rfl rfl (fun w=>⟨0,Tryz.sizeOf4 w⟩) hx h
theorem zdc {d:Option Tmp}{ty:TypeId}{pos:String}{af:Array Edge}{g:Option (Nat×Bool)}{σ:Env}{w:World}{K:Value→World→Prop}{x:Operand}{b o:Nat}(hx:ev σ x=.pointer (some ⟨b,o,none⟩))(h:K (.pointer (some ⟨b,o+4,none⟩)) w):opV Tryz.prog ⟨d,.fieldAddr 55 x 3,ty,pos,af,g⟩ σ w K:=zu pR rfl rfl (fun w=>⟨0,kT w⟩) hx h
theorem zcN {d:Option Tmp}{ty:TypeId}{pos:String}{af:Array Edge}{g:Option (Nat×Bool)}{σ:Env}{w:World}{K:Value→World→Prop}{x:Operand}{b o:Nat}(hx:ev σ x=.pointer (some ⟨b,o,none⟩))(h:K (.pointer (some ⟨b,o+0,none⟩)) w):opV Tryz.prog ⟨d,.fieldAddr 73 x 0,ty,pos,af,g⟩ σ w K:=zu qR rfl rfl (fun w=>⟨0,kT w⟩) hx h
theorem zcO {d:Option Tmp}{ty:TypeId}{pos:String}{af:Array Edge}{g:Option (Nat×Bool)}{σ:Env}{w:World}{K:Value→World→Prop}{x:Operand}{b o:Nat}(hx:ev σ x=.pointer (some ⟨b,o,none⟩))(h:K (.pointer (some ⟨b,o+6,none⟩)) w):opV Tryz.prog ⟨d,.fieldAddr 55 x 5,ty,pos,af,g⟩ σ w K:=zu pR rfl rfl (fun w=>⟨0,kT w⟩) hx h
theorem zcL {d:Option Tmp}{ty:TypeId}{pos:String}{af:Array Edge}{g:Option (Nat×Bool)}{σ:Env}{w:World}{K:Value→World→Prop}{x:Operand}{b o:Nat}(hx:ev σ x=.pointer (some ⟨b,o,none⟩))(h:K (.pointer (some ⟨b,o+1,none⟩)) w):opV Tryz.prog ⟨d,.fieldAddr 73 x 1,ty,pos,af,g⟩ σ w K:=zu qR rfl rfl (fun w=>⟨0,kT w⟩) hx h
theorem UX {d:Option Tmp}{ty:TypeId}{pos:String}{af:Array Edge}{g:Option (Nat×Bool)}{σ:Env}{w:World}{K:Value→World→Prop}{x:Operand}{b o:Nat}(hx:ev σ x=.pointer (some ⟨b,o,none⟩))(h:K (.pointer (some ⟨b,o+5,none⟩)) w):opV Tryz.prog ⟨d,.fieldAddr 121 x 1,ty,pos,af,g⟩ σ w K:=zu Tryz.underlying121 rfl rfl (fun w=>⟨0,Tryz.sizeOf119 w⟩) hx h
theorem QV {d:Option Tmp}{ty:TypeId}{pos:String}{af:Array Edge}{g:Option (Nat×Bool)}{σ:Env}{w:World}{K:Value→World→Prop}{x:Operand}{b o:Nat}(hx:ev σ x=.pointer (some ⟨b,o,none⟩))(h:K (.pointer (some ⟨b,o+0,none⟩)) w):opV Tryz.prog ⟨d,.fieldAddr 70 x 0,ty,pos,af,g⟩ σ w K:=zu Tryz.underlying70 rfl rfl (fun w=>⟨0,kT w⟩) hx h
theorem C_Add {w:World}{a m:Nat}{p:Prj}(ha:w.heap[a]? =some (.cells #[.int .i64 (p.ptyp),.int .i64 (p.pfield),.int .i64 (p.pgroup),.int .i64 (p.pby),.int .i64 (p.pmake),.map (some m)] 121))(op:p.Ok){L:List (Int×Row)}(hm:MapR w (fun _=>False) m L)(ham:a≠m){Fe:Nat→Prop}{e:Ent}{de0:Value}(he0:RdS w Fe de0 e.ev.deps)(oe:e.Ok){reg:Int}(hreg:InR reg)(hcnt: ∀g,((yi L g).getD (⟨0,0,0⟩:Row)).count<4611686018427387904):Ret Tryz.prog 64 [.pointer (some ⟨a,0,none⟩),.agg (e.cells de0).toArray,.int .i64 (reg)] w (fun r w'=>r=.tuple #[]∧MapR w' (fun _=>False) m (ZM p L e reg)∧Chg (fun i=>i=m) w w'):=by
 have he0s:_*8≤_:=he0.small
 have hml:=hm.lt
 have hal:=xz ha
 refine zn (args:=[.pointer (some ⟨a,0,none⟩),.agg (e.cells de0).toArray,.int .i64 (reg)]) Tryz.func64 rfl rfl ?_
 refine za ?_
 refine zL (by kernel_rfl) (fun _=>?_)
 refine st (zX (v:=.agg (e.cells de0).toArray) rfl (fun w1 b2 hn1=>?_))
 have hb3:w1.heap[b2]? =some (.cells (e.cells de0).toArray 57):=hn1.at_
 have hs4:=hn1.size;have hs4e:=hn1.eq
 refine zb ?_
 refine za ?_
 refine zL (by kernel_rfl) (fun _=>?_)
 refine st (zP (v:=.pointer (some ⟨a,0,none⟩)) rfl ?_)
 refine st (Um rfl ?_)
 refine st (zh (k:=10) (cs:=[.int .i64 (e.ev.origin),.int .i64 (e.ev.seq),.int .i64 (e.ev.lam),de0,.int .i64 (e.ev.typ),.int .i64 (e.ev.agg),.int .i64 (e.ev.field),.int .i64 (e.ev.op),.int .i64 (e.ev.arg),.int .i64 (e.ev.key)]) vT nT rfl rfl (CellsAt.sub (zo hb3) 0 (cs2:=[.int .i64 (e.ev.origin),.int .i64 (e.ev.seq),.int .i64 (e.ev.lam),de0,.int .i64 (e.ev.typ),.int .i64 (e.ev.agg),.int .i64 (e.ev.field),.int .i64 (e.ev.op),.int .i64 (e.ev.arg),.int .i64 (e.ev.key)]) rfl) ?_)
 refine st (zP (v:=.int .i64 reg) rfl ?_)
 have h5:=hn1.ext.keep ha (fun h=>h)
 have h6:=he0.ext hn1.ext
 refine st (zW (f:=83) (vals:=[.pointer (some ⟨a,0,none⟩),.agg ((e.ev).cells de0).toArray,.int .i64 (reg)]) (cap:=[]) rfl rfl Tryz.call83 (zbJ h5 op h6 oe.ev hreg) ?_)
 rintro _ w2 ⟨rfl,hx7⟩
 have hx7s:=hx7.size
 refine st (zP (v:=.tuple #[.int .i64 ((zD p (e.ev) reg).getD 0),.bool ((zD p (e.ev) reg).isSome)]) rfl ?_)
 refine st (zz (vs:=[.int .i64 ((zD p (e.ev) reg).getD 0),.bool ((zD p (e.ev) reg).isSome)]) (i:=0) (v:=.int .i64 ((zD p (e.ev) reg).getD 0)) rfl rfl ?_)
 refine st (zz (vs:=[.int .i64 ((zD p (e.ev) reg).getD 0),.bool ((zD p (e.ev) reg).isSome)]) (i:=1) (v:=.bool ((zD p (e.ev) reg).isSome)) rfl rfl ?_)
 refine st (zM (v:=.int .i64 ((zD p (e.ev) reg).getD 0)) rfl ?_)
 refine st (zM (v:=.bool ((zD p (e.ev) reg).isSome)) rfl ?_)
 refine zb ?_
 refine za ?_
 refine za ?_
 refine KN Ext (AL [fun v w=>v=(.bool ((zD p (e.ev) reg).isSome):Value),fun v w=>v=(.bool (!((zD p (e.ev) reg).isSome)):Value),fun v w=>v=(.bool (!((zD p (e.ev) reg).isSome)):Value),fun v w=>v=(if(!((zD p (e.ev) reg).isSome))=false then(.pointer (some ⟨b2,10,none⟩):Value)else undef),fun v w=>v=(if(!((zD p (e.ev) reg).isSome))=false then(.bool (e.void):Value)else undef),fun v w=>v=(.bool ((!((zD p (e.ev) reg).isSome))||e.void):Value),fun v w=>v=(.bool ((!((zD p (e.ev) reg).isSome))||e.void):Value),fun v w=>v=(if((!((zD p (e.ev) reg).isSome))||e.void)=false then(.pointer (some ⟨b2,0,none⟩):Value)else undef),fun v w=>v=(if((!((zD p (e.ev) reg).isSome))||e.void)=false then(.pointer (some ⟨b2,4,none⟩):Value)else undef),fun v w=>v=(if((!((zD p (e.ev) reg).isSome))||e.void)=false then(.int .i64 (e.ev.typ):Value)else undef),fun v w=>v=(if((!((zD p (e.ev) reg).isSome))||e.void)=false then(.pointer (some ⟨a,0,none⟩):Value)else undef),fun v w=>v=(if((!((zD p (e.ev) reg).isSome))||e.void)=false then(.pointer (some ⟨a,0,none⟩):Value)else undef),fun v w=>v=(if((!((zD p (e.ev) reg).isSome))||e.void)=false then(.pointer (some ⟨a,0,none⟩):Value)else undef),fun v w=>v=(if((!((zD p (e.ev) reg).isSome))||e.void)=false then(.pointer (some ⟨a,0,none⟩):Value)else undef),fun v w=>v=(if((!((zD p (e.ev) reg).isSome))||e.void)=false then(.int .i64 (p.ptyp):Value)else undef),fun v w=>v=(if((!((zD p (e.ev) reg).isSome))||e.void)=false then(.bool (!decide (e.ev.typ=p.ptyp)):Value)else undef),fun v w=>v=(.bool (((!((zD p (e.ev) reg).isSome))||e.void)||(!decide (e.ev.typ=p.ptyp))):Value),fun v w=>v=(.bool (((!((zD p (e.ev) reg).isSome))||e.void)||(!decide (e.ev.typ=p.ptyp))):Value),fun v w=>v=(if(((!((zD p (e.ev) reg).isSome))||e.void)||(!decide (e.ev.typ=p.ptyp)))=false then(.pointer (some ⟨b2,0,none⟩):Value)else undef),fun v w=>v=(if(((!((zD p (e.ev) reg).isSome))||e.void)||(!decide (e.ev.typ=p.ptyp)))=false then(.pointer (some ⟨b2,6,none⟩):Value)else undef),fun v w=>v=(if(((!((zD p (e.ev) reg).isSome))||e.void)||(!decide (e.ev.typ=p.ptyp)))=false then(.int .i64 (e.ev.field):Value)else undef),fun v w=>v=(if(((!((zD p (e.ev) reg).isSome))||e.void)||(!decide (e.ev.typ=p.ptyp)))=false then(.pointer (some ⟨a,0,none⟩):Value)else undef),fun v w=>v=(if(((!((zD p (e.ev) reg).isSome))||e.void)||(!decide (e.ev.typ=p.ptyp)))=false then(.pointer (some ⟨a,0,none⟩):Value)else undef),fun v w=>v=(if(((!((zD p (e.ev) reg).isSome))||e.void)||(!decide (e.ev.typ=p.ptyp)))=false then(.pointer (some ⟨a,0,none⟩):Value)else undef),fun v w=>v=(if(((!((zD p (e.ev) reg).isSome))||e.void)||(!decide (e.ev.typ=p.ptyp)))=false then(.pointer (some ⟨a,1,none⟩):Value)else undef),fun v w=>v=(if(((!((zD p (e.ev) reg).isSome))||e.void)||(!decide (e.ev.typ=p.ptyp)))=false then(.int .i64 (p.pfield):Value)else undef),fun v w=>v=(if(((!((zD p (e.ev) reg).isSome))||e.void)||(!decide (e.ev.typ=p.ptyp)))=false then(.bool (!decide (e.ev.field=p.pfield)):Value)else undef),fun v w=>v=(.bool ((((!((zD p (e.ev) reg).isSome))||e.void)||(!decide (e.ev.typ=p.ptyp)))||(!decide (e.ev.field=p.pfield))):Value)]) [[],[0],[0,1],[0,1,2],[0,1,2,3],[0,1,2,3,4],[0,1,2,3,4,5],[0,1,2,3,4,5,6],[0,1,2,3,4,5,6,7],[0,1,2,3,4,5,6,7,8],[0,1,2,3,4,5,6],[0,1,2,3,4,5,6,10],[0,1,2,3,4,5,6,10,11],[0,1,2,3,4,5,6,10,11,12],[0,1,2,3,4,5,6,10,11,12,13],[0,1,2,3,4,5,6,7,8,9,10,11,12,13,14],[0,1,2,3,4,5,6,7,8,9,10,11,12,13,14,15],[0,1,2,3,4,5,6,7,8,9,10,11,12,13,14,15,16],[0,1,2,3,4,5,6,7,8,9,10,11,12,13,14,15,16,17],[0,1,2,3,4,5,6,7,8,9,10,11,12,13,14,15,16,17,18],[0,1,2,3,4,5,6,7,8,9,10,11,12,13,14,15,16,17,18,19],[0,1,2,3,4,5,6,7,8,9,10,11,12,13,14,15,16,17],[0,1,2,3,4,5,6,7,8,9,10,11,12,13,14,15,16,17,21],[0,1,2,3,4,5,6,7,8,9,10,11,12,13,14,15,16,17,21,22],[0,1,2,3,4,5,6,7,8,9,10,11,12,13,14,15,16,17,21,22,23],[0,1,2,3,4,5,6,7,8,9,10,11,12,13,14,15,16,17,21,22,23,24],[0,1,2,3,4,5,6,7,8,9,10,11,12,13,14,15,16,17,18,19,20,21,22,23,24,25],[0,1,2,3,4,5,6,7,8,9,10,11,12,13,14,15,16,17,18,19,20,21,22,23,24,25,26]] 28 (by kernel_rfl) (by kernel_rfl) (by kernel_rfl) (fun w=>Chg.refl _ w) (fun _ _ _ h1 h2=>h1.trans h2) (zcx ⟨fun _ _ _ _ h=>h,fun _ _ _ _ h=>h,fun _ _ _ _ h=>h,fun _ _ _ _ h=>h,fun _ _ _ _ h=>h,fun _ _ _ _ h=>h,fun _ _ _ _ h=>h,fun _ _ _ _ h=>h,fun _ _ _ _ h=>h,fun _ _ _ _ h=>h,fun _ _ _ _ h=>h,fun _ _ _ _ h=>h,fun _ _ _ _ h=>h,fun _ _ _ _ h=>h,fun _ _ _ _ h=>h,fun _ _ _ _ h=>h,fun _ _ _ _ h=>h,fun _ _ _ _ h=>h,fun _ _ _ _ h=>h,fun _ _ _ _ h=>h,fun _ _ _ _ h=>h,fun _ _ _ _ h=>h,fun _ _ _ _ h=>h,fun _ _ _ _ h=>h,fun _ _ _ _ h=>h,fun _ _ _ _ h=>h,fun _ _ _ _ h=>h,fun _ _ _ _ h=>h,zl⟩) ?_
 intro w3 qh1 qh2 qh3 qh4
 have hx8:=XI qh1 qh2 qh3 qh4
 refine⟨⟨?_,?_,?_,?_,?_,?_,?_,?_,?_,?_,?_,?_,?_,?_,?_,?_,?_,?_,?_,?_,?_,?_,?_,?_,?_,?_,?_,?_,zl⟩,?_⟩
 ·intro vals w4 hR9 hA
  have hs10:=hR9.size
  refine obl rfl ?_
  exact zP (v:=.bool ((zD p (e.ev) reg).isSome)) rfl ⟨Chg.refl _ _,rfl⟩
 ·intro vals w5 hR11 hA
  have hs12:=hR11.size
  have e0:(vals 0)=(.bool ((zD p (e.ev) reg).isSome):Value):=hA 0 (by decide)
  refine obl rfl ?_
  exact yD (a:=(zD p (e.ev) reg).isSome) (show _=(.bool ((zD p (e.ev) reg).isSome):Value)from e0) ⟨Chg.refl _ _,rfl⟩
 ·intro vals w6 hR13 hA
  have hs14:=hR13.size
  have e1:(vals 1)=(.bool (!((zD p (e.ev) reg).isSome)):Value):=hA 1 (by decide)
  refine obl rfl ?_
  exact zP (v:=.bool (!((zD p (e.ev) reg).isSome))) (show _=(.bool (!((zD p (e.ev) reg).isSome)):Value)from e1) ⟨Chg.refl _ _,rfl⟩
 ·intro vals w7 hR15 hA
  have hs16:=hR15.size
  have e2:(vals 2)=(.bool (!((zD p (e.ev) reg).isSome)):Value):=hA 2 (by decide)
  refine zN rfl rfl (show _=(.bool (!((zD p (e.ev) reg).isSome)):Value)from e2) (fun hb17=>?_) (fun hb17=>(ifnC hb17).symm)
  have hl18:(!((zD p (e.ev) reg).isSome))=false:=hb17
  simp only[xI]at hl18
  exact zdl rfl ⟨Chg.refl _ _,(ifpC hb17).symm⟩
 ·intro vals w8 hR19 hA
  have hs20:=hR19.size
  have e2:(vals 2)=(.bool (!((zD p (e.ev) reg).isSome)):Value):=hA 2 (by decide)
  have e3:(vals 3)=(if(!((zD p (e.ev) reg).isSome))=false then(.pointer (some ⟨b2,10,none⟩):Value)else undef):=hA 3 (by decide)
  refine zN rfl rfl (show _=(.bool (!((zD p (e.ev) reg).isSome)):Value)from e2) (fun hb21=>?_) (fun hb21=>(ifnC hb21).symm)
  have hl22:(!((zD p (e.ev) reg).isSome))=false:=hb21
  simp only[xI]at hl22
  have h23:=(Chg.trans (Chg.trans hx7 hx8) hR19).keep hb3 (fun h=>h)
  exact yF (v:=.bool (e.void)) Tryz.isAgg4 (show _=(.pointer (some ⟨b2,10,none⟩):Value)from(zr e3 (ifpC hb21))) (zd h23 rfl) ⟨Chg.refl _ _,(ifpC hb21).symm⟩
 ·intro vals w9 hR24 hA
  have hs25:=hR24.size
  have e2:(vals 2)=(.bool (!((zD p (e.ev) reg).isSome)):Value):=hA 2 (by decide)
  have e4:(vals 4)=(if(!((zD p (e.ev) reg).isSome))=false then(.bool (e.void):Value)else undef):=hA 4 (by decide)
  refine obl rfl ?_
  exact zI (b:= !((zD p (e.ev) reg).isSome)) (b':=e.void) (show _=(.bool (!((zD p (e.ev) reg).isSome)):Value)from e2) (fun hbp=>(show _=(.bool (e.void):Value)from(zr e4 (ifpC hbp)))) ⟨Chg.refl _ _,rfl⟩
 ·intro vals w10 hR26 hA
  have hs27:=hR26.size
  have e5:(vals 5)=(.bool ((!((zD p (e.ev) reg).isSome))||e.void):Value):=hA 5 (by decide)
  refine obl rfl ?_
  exact zP (v:=.bool ((!((zD p (e.ev) reg).isSome))||e.void)) (show _=(.bool ((!((zD p (e.ev) reg).isSome))||e.void):Value)from e5) ⟨Chg.refl _ _,rfl⟩
 ·intro vals w11 hR28 hA
  have hs29:=hR28.size
  have e6:(vals 6)=(.bool ((!((zD p (e.ev) reg).isSome))||e.void):Value):=hA 6 (by decide)
  refine zN rfl rfl (show _=(.bool ((!((zD p (e.ev) reg).isSome))||e.void):Value)from e6) (fun hb30=>?_) (fun hb30=>(ifnC hb30).symm)
  have hl31:((!((zD p (e.ev) reg).isSome))||e.void)=false:=hb30
  simp only[xI]at hl31
  exact Um rfl ⟨Chg.refl _ _,(ifpC hb30).symm⟩
 ·intro vals w12 hR32 hA
  have hs33:=hR32.size
  have e6:(vals 6)=(.bool ((!((zD p (e.ev) reg).isSome))||e.void):Value):=hA 6 (by decide)
  have e7:(vals 7)=(if((!((zD p (e.ev) reg).isSome))||e.void)=false then(.pointer (some ⟨b2,0,none⟩):Value)else undef):=hA 7 (by decide)
  refine zN rfl rfl (show _=(.bool ((!((zD p (e.ev) reg).isSome))||e.void):Value)from e6) (fun hb34=>?_) (fun hb34=>(ifnC hb34).symm)
  have hl35:((!((zD p (e.ev) reg).isSome))||e.void)=false:=hb34
  simp only[xI]at hl35
  exact zdc (show _=(.pointer (some ⟨b2,0,none⟩):Value)from(zr e7 (ifpC hb34))) ⟨Chg.refl _ _,(ifpC hb34).symm⟩
 ·intro vals w13 hR36 hA
  have hs37:=hR36.size
  have e6:(vals 6)=(.bool ((!((zD p (e.ev) reg).isSome))||e.void):Value):=hA 6 (by decide)
  have e8:(vals 8)=(if((!((zD p (e.ev) reg).isSome))||e.void)=false then(.pointer (some ⟨b2,4,none⟩):Value)else undef):=hA 8 (by decide)
  refine zN rfl rfl (show _=(.bool ((!((zD p (e.ev) reg).isSome))||e.void):Value)from e6) (fun hb38=>?_) (fun hb38=>(ifnC hb38).symm)
  have hl39:((!((zD p (e.ev) reg).isSome))||e.void)=false:=hb38
  simp only[xI]at hl39
  have h40:=(Chg.trans (Chg.trans hx7 hx8) hR36).keep hb3 (fun h=>h)
  exact yF (v:=.int .i64 (e.ev.typ)) lT (show _=(.pointer (some ⟨b2,4,none⟩):Value)from(zr e8 (ifpC hb38))) (zd h40 rfl) ⟨Chg.refl _ _,(ifpC hb38).symm⟩
 ·intro vals w14 hR41 hA
  have hs42:=hR41.size
  have e6:(vals 6)=(.bool ((!((zD p (e.ev) reg).isSome))||e.void):Value):=hA 6 (by decide)
  refine zN rfl rfl (show _=(.bool ((!((zD p (e.ev) reg).isSome))||e.void):Value)from e6) (fun hb43=>?_) (fun hb43=>(ifnC hb43).symm)
  have hl44:((!((zD p (e.ev) reg).isSome))||e.void)=false:=hb43
  simp only[xI]at hl44
  exact zP (v:=.pointer (some ⟨a,0,none⟩)) rfl ⟨Chg.refl _ _,(ifpC hb43).symm⟩
 ·intro vals w15 hR45 hA
  have hs46:=hR45.size
  have e6:(vals 6)=(.bool ((!((zD p (e.ev) reg).isSome))||e.void):Value):=hA 6 (by decide)
  have e10:(vals 10)=(if((!((zD p (e.ev) reg).isSome))||e.void)=false then(.pointer (some ⟨a,0,none⟩):Value)else undef):=hA 10 (by decide)
  refine zN rfl rfl (show _=(.bool ((!((zD p (e.ev) reg).isSome))||e.void):Value)from e6) (fun hb47=>?_) (fun hb47=>(ifnC hb47).symm)
  have hl48:((!((zD p (e.ev) reg).isSome))||e.void)=false:=hb47
  simp only[xI]at hl48
  exact zm (b:=a) (o:=0) (show _=(.pointer (some ⟨a,0,none⟩):Value)from(zr e10 (ifpC hb47))) ⟨Chg.refl _ _,(ifpC hb47).symm⟩
 ·intro vals w16 hR49 hA
  have hs50:=hR49.size
  have e6:(vals 6)=(.bool ((!((zD p (e.ev) reg).isSome))||e.void):Value):=hA 6 (by decide)
  have e11:(vals 11)=(if((!((zD p (e.ev) reg).isSome))||e.void)=false then(.pointer (some ⟨a,0,none⟩):Value)else undef):=hA 11 (by decide)
  refine zN rfl rfl (show _=(.bool ((!((zD p (e.ev) reg).isSome))||e.void):Value)from e6) (fun hb51=>?_) (fun hb51=>(ifnC hb51).symm)
  have hl52:((!((zD p (e.ev) reg).isSome))||e.void)=false:=hb51
  simp only[xI]at hl52
  exact Zt (show _=(.pointer (some ⟨a,0,none⟩):Value)from(zr e11 (ifpC hb51))) ⟨Chg.refl _ _,(ifpC hb51).symm⟩
 ·intro vals w17 hR53 hA
  have hs54:=hR53.size
  have e6:(vals 6)=(.bool ((!((zD p (e.ev) reg).isSome))||e.void):Value):=hA 6 (by decide)
  have e12:(vals 12)=(if((!((zD p (e.ev) reg).isSome))||e.void)=false then(.pointer (some ⟨a,0,none⟩):Value)else undef):=hA 12 (by decide)
  refine zN rfl rfl (show _=(.bool ((!((zD p (e.ev) reg).isSome))||e.void):Value)from e6) (fun hb55=>?_) (fun hb55=>(ifnC hb55).symm)
  have hl56:((!((zD p (e.ev) reg).isSome))||e.void)=false:=hb55
  simp only[xI]at hl56
  exact zcN (show _=(.pointer (some ⟨a,0,none⟩):Value)from(zr e12 (ifpC hb55))) ⟨Chg.refl _ _,(ifpC hb55).symm⟩
 ·intro vals w18 hR57 hA
  have hs58:=hR57.size
  have e6:(vals 6)=(.bool ((!((zD p (e.ev) reg).isSome))||e.void):Value):=hA 6 (by decide)
  have e13:(vals 13)=(if((!((zD p (e.ev) reg).isSome))||e.void)=false then(.pointer (some ⟨a,0,none⟩):Value)else undef):=hA 13 (by decide)
  refine zN rfl rfl (show _=(.bool ((!((zD p (e.ev) reg).isSome))||e.void):Value)from e6) (fun hb59=>?_) (fun hb59=>(ifnC hb59).symm)
  have hl60:((!((zD p (e.ev) reg).isSome))||e.void)=false:=hb59
  simp only[xI]at hl60
  have h61:=(Chg.trans (Chg.trans hx7 hx8) hR57).keep h5 (fun h=>h)
  exact yF (v:=.int .i64 (p.ptyp)) lT (show _=(.pointer (some ⟨a,0,none⟩):Value)from(zr e13 (ifpC hb59))) (zd h61 rfl) ⟨Chg.refl _ _,(ifpC hb59).symm⟩
 ·intro vals w19 hR62 hA
  have hs63:=hR62.size
  have e6:(vals 6)=(.bool ((!((zD p (e.ev) reg).isSome))||e.void):Value):=hA 6 (by decide)
  have e9:(vals 9)=(if((!((zD p (e.ev) reg).isSome))||e.void)=false then(.int .i64 (e.ev.typ):Value)else undef):=hA 9 (by decide)
  have e14:(vals 14)=(if((!((zD p (e.ev) reg).isSome))||e.void)=false then(.int .i64 (p.ptyp):Value)else undef):=hA 14 (by decide)
  refine zN rfl rfl (show _=(.bool ((!((zD p (e.ev) reg).isSome))||e.void):Value)from e6) (fun hb64=>?_) (fun hb64=>(ifnC hb64).symm)
  have hl65:((!((zD p (e.ev) reg).isSome))||e.void)=false:=hb64
  simp only[xI]at hl65
  exact yy (k:=.i64) (a:=e.ev.typ) (b:=p.ptyp) (show _=(.int .i64 (e.ev.typ):Value)from(zr e9 (ifpC hb64))) (show _=(.int .i64 (p.ptyp):Value)from(zr e14 (ifpC hb64))) ⟨Chg.refl _ _,(ifpC hb64).symm⟩
 ·intro vals w20 hR66 hA
  have hs67:=hR66.size
  have e6:(vals 6)=(.bool ((!((zD p (e.ev) reg).isSome))||e.void):Value):=hA 6 (by decide)
  have e15:(vals 15)=(if((!((zD p (e.ev) reg).isSome))||e.void)=false then(.bool (!decide (e.ev.typ=p.ptyp)):Value)else undef):=hA 15 (by decide)
  refine obl rfl ?_
  exact zI (b:=(!((zD p (e.ev) reg).isSome))||e.void) (b':= !decide (e.ev.typ=p.ptyp)) (show _=(.bool ((!((zD p (e.ev) reg).isSome))||e.void):Value)from e6) (fun hbp=>(show _=(.bool (!decide (e.ev.typ=p.ptyp)):Value)from(zr e15 (ifpC hbp)))) ⟨Chg.refl _ _,rfl⟩
 ·intro vals w21 hR68 hA
  have hs69:=hR68.size
  have e16:(vals 16)=(.bool (((!((zD p (e.ev) reg).isSome))||e.void)||(!decide (e.ev.typ=p.ptyp))):Value):=hA 16 (by decide)
  refine obl rfl ?_
  exact zP (v:=.bool (((!((zD p (e.ev) reg).isSome))||e.void)||(!decide (e.ev.typ=p.ptyp)))) (show _=(.bool (((!((zD p (e.ev) reg).isSome))||e.void)||(!decide (e.ev.typ=p.ptyp))):Value)from e16) ⟨Chg.refl _ _,rfl⟩
 ·intro vals w22 hR70 hA
  have hs71:=hR70.size
  have e17:(vals 17)=(.bool (((!((zD p (e.ev) reg).isSome))||e.void)||(!decide (e.ev.typ=p.ptyp))):Value):=hA 17 (by decide)
  refine zN rfl rfl (show _=(.bool (((!((zD p (e.ev) reg).isSome))||e.void)||(!decide (e.ev.typ=p.ptyp))):Value)from e17) (fun hb72=>?_) (fun hb72=>(ifnC hb72).symm)
  have hl73:(((!((zD p (e.ev) reg).isSome))||e.void)||(!decide (e.ev.typ=p.ptyp)))=false:=hb72
  simp only[xI]at hl73
  exact Um rfl ⟨Chg.refl _ _,(ifpC hb72).symm⟩
 ·intro vals w23 hR74 hA
  have hs75:=hR74.size
  have e17:(vals 17)=(.bool (((!((zD p (e.ev) reg).isSome))||e.void)||(!decide (e.ev.typ=p.ptyp))):Value):=hA 17 (by decide)
  have e18:(vals 18)=(if(((!((zD p (e.ev) reg).isSome))||e.void)||(!decide (e.ev.typ=p.ptyp)))=false then(.pointer (some ⟨b2,0,none⟩):Value)else undef):=hA 18 (by decide)
  refine zN rfl rfl (show _=(.bool (((!((zD p (e.ev) reg).isSome))||e.void)||(!decide (e.ev.typ=p.ptyp))):Value)from e17) (fun hb76=>?_) (fun hb76=>(ifnC hb76).symm)
  have hl77:(((!((zD p (e.ev) reg).isSome))||e.void)||(!decide (e.ev.typ=p.ptyp)))=false:=hb76
  simp only[xI]at hl77
  exact zcO (show _=(.pointer (some ⟨b2,0,none⟩):Value)from(zr e18 (ifpC hb76))) ⟨Chg.refl _ _,(ifpC hb76).symm⟩
 ·intro vals w24 hR78 hA
  have hs79:=hR78.size
  have e17:(vals 17)=(.bool (((!((zD p (e.ev) reg).isSome))||e.void)||(!decide (e.ev.typ=p.ptyp))):Value):=hA 17 (by decide)
  have e19:(vals 19)=(if(((!((zD p (e.ev) reg).isSome))||e.void)||(!decide (e.ev.typ=p.ptyp)))=false then(.pointer (some ⟨b2,6,none⟩):Value)else undef):=hA 19 (by decide)
  refine zN rfl rfl (show _=(.bool (((!((zD p (e.ev) reg).isSome))||e.void)||(!decide (e.ev.typ=p.ptyp))):Value)from e17) (fun hb80=>?_) (fun hb80=>(ifnC hb80).symm)
  have hl81:(((!((zD p (e.ev) reg).isSome))||e.void)||(!decide (e.ev.typ=p.ptyp)))=false:=hb80
  simp only[xI]at hl81
  have h82:=(Chg.trans (Chg.trans hx7 hx8) hR78).keep hb3 (fun h=>h)
  exact yF (v:=.int .i64 (e.ev.field)) lT (show _=(.pointer (some ⟨b2,6,none⟩):Value)from(zr e19 (ifpC hb80))) (zd h82 rfl) ⟨Chg.refl _ _,(ifpC hb80).symm⟩
 ·intro vals w25 hR83 hA
  have hs84:=hR83.size
  have e17:(vals 17)=(.bool (((!((zD p (e.ev) reg).isSome))||e.void)||(!decide (e.ev.typ=p.ptyp))):Value):=hA 17 (by decide)
  refine zN rfl rfl (show _=(.bool (((!((zD p (e.ev) reg).isSome))||e.void)||(!decide (e.ev.typ=p.ptyp))):Value)from e17) (fun hb85=>?_) (fun hb85=>(ifnC hb85).symm)
  have hl86:(((!((zD p (e.ev) reg).isSome))||e.void)||(!decide (e.ev.typ=p.ptyp)))=false:=hb85
  simp only[xI]at hl86
  exact zP (v:=.pointer (some ⟨a,0,none⟩)) rfl ⟨Chg.refl _ _,(ifpC hb85).symm⟩
 ·intro vals w26 hR87 hA
  have hs88:=hR87.size
  have e17:(vals 17)=(.bool (((!((zD p (e.ev) reg).isSome))||e.void)||(!decide (e.ev.typ=p.ptyp))):Value):=hA 17 (by decide)
  have e21:(vals 21)=(if(((!((zD p (e.ev) reg).isSome))||e.void)||(!decide (e.ev.typ=p.ptyp)))=false then(.pointer (some ⟨a,0,none⟩):Value)else undef):=hA 21 (by decide)
  refine zN rfl rfl (show _=(.bool (((!((zD p (e.ev) reg).isSome))||e.void)||(!decide (e.ev.typ=p.ptyp))):Value)from e17) (fun hb89=>?_) (fun hb89=>(ifnC hb89).symm)
  have hl90:(((!((zD p (e.ev) reg).isSome))||e.void)||(!decide (e.ev.typ=p.ptyp)))=false:=hb89
  simp only[xI]at hl90
  exact zm (b:=a) (o:=0) (show _=(.pointer (some ⟨a,0,none⟩):Value)from(zr e21 (ifpC hb89))) ⟨Chg.refl _ _,(ifpC hb89).symm⟩
 ·intro vals w27 hR91 hA
  have hs92:=hR91.size
  have e17:(vals 17)=(.bool (((!((zD p (e.ev) reg).isSome))||e.void)||(!decide (e.ev.typ=p.ptyp))):Value):=hA 17 (by decide)
  have e22:(vals 22)=(if(((!((zD p (e.ev) reg).isSome))||e.void)||(!decide (e.ev.typ=p.ptyp)))=false then(.pointer (some ⟨a,0,none⟩):Value)else undef):=hA 22 (by decide)
  refine zN rfl rfl (show _=(.bool (((!((zD p (e.ev) reg).isSome))||e.void)||(!decide (e.ev.typ=p.ptyp))):Value)from e17) (fun hb93=>?_) (fun hb93=>(ifnC hb93).symm)
  have hl94:(((!((zD p (e.ev) reg).isSome))||e.void)||(!decide (e.ev.typ=p.ptyp)))=false:=hb93
  simp only[xI]at hl94
  exact Zt (show _=(.pointer (some ⟨a,0,none⟩):Value)from(zr e22 (ifpC hb93))) ⟨Chg.refl _ _,(ifpC hb93).symm⟩
 ·intro vals w28 hR95 hA
  have hs96:=hR95.size
  have e17:(vals 17)=(.bool (((!((zD p (e.ev) reg).isSome))||e.void)||(!decide (e.ev.typ=p.ptyp))):Value):=hA 17 (by decide)
  have e23:(vals 23)=(if(((!((zD p (e.ev) reg).isSome))||e.void)||(!decide (e.ev.typ=p.ptyp)))=false then(.pointer (some ⟨a,0,none⟩):Value)else undef):=hA 23 (by decide)
  refine zN rfl rfl (show _=(.bool (((!((zD p (e.ev) reg).isSome))||e.void)||(!decide (e.ev.typ=p.ptyp))):Value)from e17) (fun hb97=>?_) (fun hb97=>(ifnC hb97).symm)
  have hl98:(((!((zD p (e.ev) reg).isSome))||e.void)||(!decide (e.ev.typ=p.ptyp)))=false:=hb97
  simp only[xI]at hl98
  exact zcL (show _=(.pointer (some ⟨a,0,none⟩):Value)from(zr e23 (ifpC hb97))) ⟨Chg.refl _ _,(ifpC hb97).symm⟩
 ·intro vals w29 hR99 hA
  have hs100:=hR99.size
  have e17:(vals 17)=(.bool (((!((zD p (e.ev) reg).isSome))||e.void)||(!decide (e.ev.typ=p.ptyp))):Value):=hA 17 (by decide)
  have e24:(vals 24)=(if(((!((zD p (e.ev) reg).isSome))||e.void)||(!decide (e.ev.typ=p.ptyp)))=false then(.pointer (some ⟨a,1,none⟩):Value)else undef):=hA 24 (by decide)
  refine zN rfl rfl (show _=(.bool (((!((zD p (e.ev) reg).isSome))||e.void)||(!decide (e.ev.typ=p.ptyp))):Value)from e17) (fun hb101=>?_) (fun hb101=>(ifnC hb101).symm)
  have hl102:(((!((zD p (e.ev) reg).isSome))||e.void)||(!decide (e.ev.typ=p.ptyp)))=false:=hb101
  simp only[xI]at hl102
  have h103:=(Chg.trans (Chg.trans hx7 hx8) hR99).keep h5 (fun h=>h)
  exact yF (v:=.int .i64 (p.pfield)) lT (show _=(.pointer (some ⟨a,1,none⟩):Value)from(zr e24 (ifpC hb101))) (zd h103 rfl) ⟨Chg.refl _ _,(ifpC hb101).symm⟩
 ·intro vals w30 hR104 hA
  have hs105:=hR104.size
  have e17:(vals 17)=(.bool (((!((zD p (e.ev) reg).isSome))||e.void)||(!decide (e.ev.typ=p.ptyp))):Value):=hA 17 (by decide)
  have e20:(vals 20)=(if(((!((zD p (e.ev) reg).isSome))||e.void)||(!decide (e.ev.typ=p.ptyp)))=false then(.int .i64 (e.ev.field):Value)else undef):=hA 20 (by decide)
  have e25:(vals 25)=(if(((!((zD p (e.ev) reg).isSome))||e.void)||(!decide (e.ev.typ=p.ptyp)))=false then(.int .i64 (p.pfield):Value)else undef):=hA 25 (by decide)
  refine zN rfl rfl (show _=(.bool (((!((zD p (e.ev) reg).isSome))||e.void)||(!decide (e.ev.typ=p.ptyp))):Value)from e17) (fun hb106=>?_) (fun hb106=>(ifnC hb106).symm)
  have hl107:(((!((zD p (e.ev) reg).isSome))||e.void)||(!decide (e.ev.typ=p.ptyp)))=false:=hb106
  simp only[xI]at hl107
  exact yy (k:=.i64) (a:=e.ev.field) (b:=p.pfield) (show _=(.int .i64 (e.ev.field):Value)from(zr e20 (ifpC hb106))) (show _=(.int .i64 (p.pfield):Value)from(zr e25 (ifpC hb106))) ⟨Chg.refl _ _,(ifpC hb106).symm⟩
 ·intro vals w31 hR108 hA
  have hs109:=hR108.size
  have e17:(vals 17)=(.bool (((!((zD p (e.ev) reg).isSome))||e.void)||(!decide (e.ev.typ=p.ptyp))):Value):=hA 17 (by decide)
  have e26:(vals 26)=(if(((!((zD p (e.ev) reg).isSome))||e.void)||(!decide (e.ev.typ=p.ptyp)))=false then(.bool (!decide (e.ev.field=p.pfield)):Value)else undef):=hA 26 (by decide)
  refine obl rfl ?_
  exact zI (b:=((!((zD p (e.ev) reg).isSome))||e.void)||(!decide (e.ev.typ=p.ptyp))) (b':= !decide (e.ev.field=p.pfield)) (show _=(.bool (((!((zD p (e.ev) reg).isSome))||e.void)||(!decide (e.ev.typ=p.ptyp))):Value)from e17) (fun hbp=>(show _=(.bool (!decide (e.ev.field=p.pfield)):Value)from(zr e26 (ifpC hbp)))) ⟨Chg.refl _ _,rfl⟩
 intro vals w32 hR110 hA
 have hs111:=hR110.size
 have hs112:=hx8.size
 have e27:(vals 27)=(.bool ((((!((zD p (e.ev) reg).isSome))||e.void)||(!decide (e.ev.typ=p.ptyp)))||(!decide (e.ev.field=p.pfield))):Value):=hA 27 (by decide)
 refine yg (kv:=[(0,.pointer (some ⟨a,0,none⟩)),(1,.agg (e.cells de0).toArray),(2,.int .i64 reg),(4,.pointer (some ⟨b2,0,none⟩)),(10,.pointer (some ⟨a,0,none⟩)),(11,.pointer (some ⟨b2,0,none⟩)),(12,.agg ((e.ev).cells de0).toArray),(13,.int .i64 reg),(14,.tuple #[.int .i64 ((zD p (e.ev) reg).getD 0),.bool ((zD p (e.ev) reg).isSome)]),(9,.tuple #[.int .i64 ((zD p (e.ev) reg).getD 0),.bool ((zD p (e.ev) reg).isSome)]),(15,.int .i64 ((zD p (e.ev) reg).getD 0)),(16,.bool ((zD p (e.ev) reg).isSome)),(6,.int .i64 ((zD p (e.ev) reg).getD 0)),(7,.bool ((zD p (e.ev) reg).isSome)),(44,.bool ((((!((zD p (e.ev) reg).isSome))||e.void)||(!decide (e.ev.typ=p.ptyp)))||(!decide (e.ev.field=p.pfield))))]) ⟨rfl,rfl,rfl,rfl,rfl,rfl,rfl,rfl,rfl,rfl,rfl,rfl,rfl,rfl,(by exact e27),zl⟩ (fun ρ32=>?_)
 clear e27
 clear hA qh1 qh2 qh3 qh4
 refine zb ?_
 cases hc113:(((!((zD p (e.ev) reg).isSome))||e.void)||(!decide (e.ev.typ=p.ptyp)))||(!decide (e.ev.field=p.pfield))
 ·skip
  simp only[xI]at hc113
  refine ze rfl ?_
  refine zp ?_
  refine za ?_
  refine zL (by kernel_rfl) (fun _=>?_)
  refine st (zP (v:=.pointer (some ⟨a,0,none⟩)) rfl ?_)
  refine st (zm (b:=a) (o:=0) rfl ?_)
  refine st (UX rfl ?_)
  have h114:=(Chg.trans (Chg.trans hx7 hx8) hR110).keep h5 (fun h=>h)
  refine st (yF (v:=.map (some m)) wT rfl (zd h114 rfl) ?_)
  refine st (zP (v:=.int .i64 ((zD p (e.ev) reg).getD 0)) rfl ?_)
  have h115:=hm.ext (Chg.trans (Chg.trans (Chg.trans hn1.ext hx7) hx8) hR110)
  refine st (Jy (α:=Row) (d0:=(⟨0,0,0⟩:Row)) (zc:=Row.cells (⟨0,0,0⟩:Row)) oT rR sR (fun _ _=>⟨rfl,⟨by decide,by decide,by decide⟩⟩) rfl rfl h115 ?_)
  rintro _ ⟨rfl,ok118⟩
  refine st (zG sR (fun w33 b120 hn119=>?_))
  have hb121:w33.heap[b120]? =some (.cells #[.int .i64 (0),.int .i64 (0),.int .i64 (0)] 70):=hn119.at_
  have hs122:=hn119.size;have hs122e:=hn119.eq
  refine stn (zy (v:=.agg (((yi L ((zD p (e.ev) reg).getD 0)).getD (⟨0,0,0⟩:Row)).cells).toArray) (c':=(((yi L ((zD p (e.ev) reg).getD 0)).getD (⟨0,0,0⟩:Row)).cells).toArray) kR rfl rfl hb121 (yo ⟨rfl,rfl,rfl,zl⟩) (yQ rfl) rfl (fun w34 hp123=>?_))
  have hs124:=hp123.size
  refine zb ?_
  refine za ?_
  refine zL (by kernel_rfl) (fun _=>?_)
  refine st (zP (v:=.int .i64 ((zD p (e.ev) reg).getD 0)) rfl ?_)
  refine st (QV rfl ?_)
  refine stn (ym (v:=.int .i64 ((zD p (e.ev) reg).getD 0)) (c:=[.int .i64 (((yi L ((zD p (e.ev) reg).getD 0)).getD (⟨0,0,0⟩:Row)).group),.int .i64 (((yi L ((zD p (e.ev) reg).getD 0)).getD (⟨0,0,0⟩:Row)).value),.int .i64 (((yi L ((zD p (e.ev) reg).getD 0)).getD (⟨0,0,0⟩:Row)).count)]) (c':=[.int .i64 ((zD p (e.ev) reg).getD 0),.int .i64 (((yi L ((zD p (e.ev) reg).getD 0)).getD (⟨0,0,0⟩:Row)).value),.int .i64 (((yi L ((zD p (e.ev) reg).getD 0)).getD (⟨0,0,0⟩:Row)).count)]) kT rfl rfl hp123.at_ rfl rfl rfl (fun w35 hp125=>?_))
  have hs126:=hp125.size
  have ok127:Row.Ok (⟨(zD p (e.ev) reg).getD 0,((yi L ((zD p (e.ev) reg).getD 0)).getD (⟨0,0,0⟩:Row)).value,((yi L ((zD p (e.ev) reg).getD 0)).getD (⟨0,0,0⟩:Row)).count⟩:Row):=⟨(WI oe.ev hreg),ok118.value,ok118.count⟩
  refine zb ?_
  refine za ?_
  refine zL (by kernel_rfl) (fun _=>?_)
  refine st (Uu rfl ?_)
  refine st (yF (v:=.int .i64 (((yi L ((zD p (e.ev) reg).getD 0)).getD (⟨0,0,0⟩:Row)).count)) lT rfl (zd hp125.at_ rfl) ?_)
  have hcg:=hcnt ((zD p (e.ev) reg).getD 0);have hci:=ok118.count
  have hr128:InR ((((yi L ((zD p (e.ev) reg).getD 0)).getD (⟨0,0,0⟩:Row)).count)+1):=by omega
  refine st (zO (r:=(((yi L ((zD p (e.ev) reg).getD 0)).getD (⟨0,0,0⟩:Row)).count)+1) (k:=.i64) (a:=((yi L ((zD p (e.ev) reg).getD 0)).getD (⟨0,0,0⟩:Row)).count) (b:=1) rfl rfl (zw hr128) ?_)
  refine st (Uu rfl ?_)
  refine stn (ym (v:=.int .i64 ((((yi L ((zD p (e.ev) reg).getD 0)).getD (⟨0,0,0⟩:Row)).count)+1)) (c:=[.int .i64 ((zD p (e.ev) reg).getD 0),.int .i64 (((yi L ((zD p (e.ev) reg).getD 0)).getD (⟨0,0,0⟩:Row)).value),.int .i64 (((yi L ((zD p (e.ev) reg).getD 0)).getD (⟨0,0,0⟩:Row)).count)]) (c':=[.int .i64 ((zD p (e.ev) reg).getD 0),.int .i64 (((yi L ((zD p (e.ev) reg).getD 0)).getD (⟨0,0,0⟩:Row)).value),.int .i64 ((((yi L ((zD p (e.ev) reg).getD 0)).getD (⟨0,0,0⟩:Row)).count)+1)]) kT rfl rfl hp125.at_ rfl rfl rfl (fun w36 hp129=>?_))
  have hs130:=hp129.size
  have ok131:Row.Ok (⟨(zD p (e.ev) reg).getD 0,((yi L ((zD p (e.ev) reg).getD 0)).getD (⟨0,0,0⟩:Row)).value,(((yi L ((zD p (e.ev) reg).getD 0)).getD (⟨0,0,0⟩:Row)).count)+1⟩:Row):=⟨(WI oe.ev hreg),ok118.value,hr128⟩
  refine zb ?_
  refine za ?_
  refine zL (by kernel_rfl) (fun _=>?_)
  refine st (zP (v:=.pointer (some ⟨a,0,none⟩)) rfl ?_)
  refine st (zh (k:=3) tR kR rfl rfl (zo hp129.at_) ?_)
  refine st (Um rfl ?_)
  refine st (JR rfl ?_)
  have h132:=(Chg.new (Chg.new (Chg.new (Chg.trans (Chg.trans (Chg.trans hx7 hx8) hR110) hn119.ext) hp123.chg (fun i hi hO=>by subst hO;omega)) hp125.chg (fun i hi hO=>by subst hO;omega)) hp129.chg (fun i hi hO=>by subst hO;omega)).keep hb3 (fun h=>h)
  refine st (yF (v:=.int .i64 (e.ev.arg)) lT rfl (zd h132 rfl) ?_)
  have h133:=(Chg.new (Chg.new (Chg.new hn119.ext hp123.chg (fun i hi hO=>by subst hO;omega)) hp125.chg (fun i hi hO=>by subst hO;omega)) hp129.chg (fun i hi hO=>by subst hO;omega)).keep h114 (fun h=>h)
  refine st (zW (f:=84) (vals:=[.pointer (some ⟨a,0,none⟩),.agg ((⟨(zD p (e.ev) reg).getD 0,((yi L ((zD p (e.ev) reg).getD 0)).getD (⟨0,0,0⟩:Row)).value,(((yi L ((zD p (e.ev) reg).getD 0)).getD (⟨0,0,0⟩:Row)).count)+1⟩:Row).cells).toArray,.int .i64 (e.ev.arg)]) (cap:=[]) rfl rfl Tryz.call84 (zdA h133 op ok131 oe.ev.arg) ?_)
  rintro _ w37 ⟨rfl,hx134⟩
  have hx134s:=hx134.size
  refine st (Uj rfl ?_)
  have h135:=hx134.keep hp129.at_ (fun h=>h)
  refine stn (ym (v:=.int .i64 (yV p (⟨(zD p (e.ev) reg).getD 0,((yi L ((zD p (e.ev) reg).getD 0)).getD (⟨0,0,0⟩:Row)).value,(((yi L ((zD p (e.ev) reg).getD 0)).getD (⟨0,0,0⟩:Row)).count)+1⟩:Row) e.ev.arg)) (c:=[.int .i64 ((zD p (e.ev) reg).getD 0),.int .i64 (((yi L ((zD p (e.ev) reg).getD 0)).getD (⟨0,0,0⟩:Row)).value),.int .i64 ((((yi L ((zD p (e.ev) reg).getD 0)).getD (⟨0,0,0⟩:Row)).count)+1)]) (c':=[.int .i64 ((zD p (e.ev) reg).getD 0),.int .i64 (yV p (⟨(zD p (e.ev) reg).getD 0,((yi L ((zD p (e.ev) reg).getD 0)).getD (⟨0,0,0⟩:Row)).value,(((yi L ((zD p (e.ev) reg).getD 0)).getD (⟨0,0,0⟩:Row)).count)+1⟩:Row) e.ev.arg),.int .i64 ((((yi L ((zD p (e.ev) reg).getD 0)).getD (⟨0,0,0⟩:Row)).count)+1)]) kT rfl rfl h135 rfl rfl rfl (fun w38 hp136=>?_))
  have hs137:=hp136.size
  have ok138:Row.Ok (⟨(zD p (e.ev) reg).getD 0,yV p (⟨(zD p (e.ev) reg).getD 0,((yi L ((zD p (e.ev) reg).getD 0)).getD (⟨0,0,0⟩:Row)).value,(((yi L ((zD p (e.ev) reg).getD 0)).getD (⟨0,0,0⟩:Row)).count)+1⟩:Row) e.ev.arg,(((yi L ((zD p (e.ev) reg).getD 0)).getD (⟨0,0,0⟩:Row)).count)+1⟩:Row):=⟨(WI oe.ev hreg),(Qc ok131.value ok131.count oe.ev.arg),hr128⟩
  refine zb ?_
  refine KN Ext (AL [fun v w=>v=(.pointer (some ⟨a,0,none⟩):Value),fun v w=>v=(.pointer (some ⟨a,0,none⟩):Value),fun v w=>v=(.pointer (some ⟨a,5,none⟩):Value),fun v w=>v=(.map (some m):Value),fun v w=>v=(.int .i64 ((zD p (e.ev) reg).getD 0):Value),fun v w=>v=(.agg ((⟨(zD p (e.ev) reg).getD 0,yV p (⟨(zD p (e.ev) reg).getD 0,((yi L ((zD p (e.ev) reg).getD 0)).getD (⟨0,0,0⟩:Row)).value,(((yi L ((zD p (e.ev) reg).getD 0)).getD (⟨0,0,0⟩:Row)).count)+1⟩:Row) e.ev.arg,(((yi L ((zD p (e.ev) reg).getD 0)).getD (⟨0,0,0⟩:Row)).count)+1⟩:Row).cells).toArray:Value)]) [[],[0],[0,1],[0,1,2],[],[],[0,1,2,3,4,5]] 6 (by kernel_rfl) (by kernel_rfl) (by kernel_rfl) (fun w=>Chg.refl _ w) (fun _ _ _ h1 h2=>h1.trans h2) (zcx ⟨fun _ _ _ _ h=>h,fun _ _ _ _ h=>h,fun _ _ _ _ h=>h,fun _ _ _ _ h=>h,fun _ _ _ _ h=>h,fun _ _ _ _ h=>h,zl⟩) ?_
  intro w39 qh1 qh2 qh3 qh4
  have hx139:=XI qh1 qh2 qh3 qh4
  refine⟨⟨?_,?_,?_,?_,?_,?_,zl⟩,?_⟩
  ·intro vals w40 hR140 hA
   have hs141:=hR140.size
   refine obl rfl ?_
   exact zP (v:=.pointer (some ⟨a,0,none⟩)) rfl ⟨Chg.refl _ _,rfl⟩
  ·intro vals w41 hR142 hA
   have hs143:=hR142.size
   have e0:(vals 0)=(.pointer (some ⟨a,0,none⟩):Value):=hA 0 (by decide)
   refine obl rfl ?_
   exact zm (b:=a) (o:=0) (show _=(.pointer (some ⟨a,0,none⟩):Value)from e0) ⟨Chg.refl _ _,rfl⟩
  ·intro vals w42 hR144 hA
   have hs145:=hR144.size
   have e1:(vals 1)=(.pointer (some ⟨a,0,none⟩):Value):=hA 1 (by decide)
   refine obl rfl ?_
   exact UX (show _=(.pointer (some ⟨a,0,none⟩):Value)from e1) ⟨Chg.refl _ _,rfl⟩
  ·intro vals w43 hR146 hA
   have hs147:=hR146.size
   have e2:(vals 2)=(.pointer (some ⟨a,5,none⟩):Value):=hA 2 (by decide)
   refine obl rfl ?_
   have h148:=(hR146.keep (hx139.keep (hp136.chg.keep (hx134.keep h133 (fun h=>h)) (fun e=>by have e:a=b120:=e;omega)) (fun h=>h)) (fun h=>h))
   exact yF (v:=.map (some m)) wT (show _=(.pointer (some ⟨a,5,none⟩):Value)from e2) (zd h148 rfl) ⟨Chg.refl _ _,rfl⟩
  ·intro vals w44 hR149 hA
   have hs150:=hR149.size
   refine obl rfl ?_
   exact zP (v:=.int .i64 ((zD p (e.ev) reg).getD 0)) rfl ⟨Chg.refl _ _,rfl⟩
  ·intro vals w45 hR151 hA
   have hs152:=hR151.size
   refine obl rfl ?_
   have h153:=(Chg.trans hx139 hR151).keep hp136.at_ (fun h=>h)
   exact zh (k:=3) tR kR rfl rfl (zo h153) ⟨Chg.refl _ _,rfl⟩
  intro vals w46 hR154 hA
  have hs155:=hR154.size
  have hs156:=hx139.size
  have e3:(vals 3)=(.map (some m):Value):=hA 3 (by decide)
  have e4:(vals 4)=(.int .i64 ((zD p (e.ev) reg).getD 0):Value):=hA 4 (by decide)
  have e5:(vals 5)=(.agg ((⟨(zD p (e.ev) reg).getD 0,yV p (⟨(zD p (e.ev) reg).getD 0,((yi L ((zD p (e.ev) reg).getD 0)).getD (⟨0,0,0⟩:Row)).value,(((yi L ((zD p (e.ev) reg).getD 0)).getD (⟨0,0,0⟩:Row)).count)+1⟩:Row) e.ev.arg,(((yi L ((zD p (e.ev) reg).getD 0)).getD (⟨0,0,0⟩:Row)).count)+1⟩:Row).cells).toArray:Value):=hA 5 (by decide)
  refine yg (kv:=[(0,.pointer (some ⟨a,0,none⟩)),(1,.agg (e.cells de0).toArray),(2,.int .i64 reg),(4,.pointer (some ⟨b2,0,none⟩)),(10,.pointer (some ⟨a,0,none⟩)),(11,.pointer (some ⟨b2,0,none⟩)),(12,.agg ((e.ev).cells de0).toArray),(13,.int .i64 reg),(14,.tuple #[.int .i64 ((zD p (e.ev) reg).getD 0),.bool ((zD p (e.ev) reg).isSome)]),(9,.tuple #[.int .i64 ((zD p (e.ev) reg).getD 0),.bool ((zD p (e.ev) reg).isSome)]),(15,.int .i64 ((zD p (e.ev) reg).getD 0)),(16,.bool ((zD p (e.ev) reg).isSome)),(6,.int .i64 ((zD p (e.ev) reg).getD 0)),(7,.bool ((zD p (e.ev) reg).isSome)),(44,.bool false),(45,.pointer (some ⟨a,0,none⟩)),(46,.pointer (some ⟨a,0,none⟩)),(47,.pointer (some ⟨a,5,none⟩)),(48,.map (some m)),(49,.int .i64 ((zD p (e.ev) reg).getD 0)),(50,.agg (((yi L ((zD p (e.ev) reg).getD 0)).getD (⟨0,0,0⟩:Row)).cells).toArray),(8,.pointer (some ⟨b120,0,none⟩)),(51,.int .i64 ((zD p (e.ev) reg).getD 0)),(52,.pointer (some ⟨b120,0,none⟩)),(53,.pointer (some ⟨b120,2,none⟩)),(54,.int .i64 (((yi L ((zD p (e.ev) reg).getD 0)).getD (⟨0,0,0⟩:Row)).count)),(55,.int .i64 ((((yi L ((zD p (e.ev) reg).getD 0)).getD (⟨0,0,0⟩:Row)).count)+1)),(56,.pointer (some ⟨b120,2,none⟩)),(57,.pointer (some ⟨a,0,none⟩)),(58,.agg ((⟨(zD p (e.ev) reg).getD 0,((yi L ((zD p (e.ev) reg).getD 0)).getD (⟨0,0,0⟩:Row)).value,(((yi L ((zD p (e.ev) reg).getD 0)).getD (⟨0,0,0⟩:Row)).count)+1⟩:Row).cells).toArray),(59,.pointer (some ⟨b2,0,none⟩)),(60,.pointer (some ⟨b2,8,none⟩)),(61,.int .i64 (e.ev.arg)),(62,.int .i64 (yV p (⟨(zD p (e.ev) reg).getD 0,((yi L ((zD p (e.ev) reg).getD 0)).getD (⟨0,0,0⟩:Row)).value,(((yi L ((zD p (e.ev) reg).getD 0)).getD (⟨0,0,0⟩:Row)).count)+1⟩:Row) e.ev.arg)),(63,.pointer (some ⟨b120,1,none⟩)),(67,.map (some m)),(68,.int .i64 ((zD p (e.ev) reg).getD 0)),(69,.agg ((⟨(zD p (e.ev) reg).getD 0,yV p (⟨(zD p (e.ev) reg).getD 0,((yi L ((zD p (e.ev) reg).getD 0)).getD (⟨0,0,0⟩:Row)).value,(((yi L ((zD p (e.ev) reg).getD 0)).getD (⟨0,0,0⟩:Row)).count)+1⟩:Row) e.ev.arg,(((yi L ((zD p (e.ev) reg).getD 0)).getD (⟨0,0,0⟩:Row)).count)+1⟩:Row).cells).toArray)]) ⟨rfl,rfl,rfl,rfl,rfl,rfl,rfl,rfl,rfl,rfl,rfl,rfl,rfl,rfl,rfl,rfl,rfl,rfl,rfl,rfl,rfl,rfl,rfl,rfl,rfl,rfl,rfl,rfl,rfl,rfl,rfl,rfl,rfl,rfl,rfl,(by exact e3),(by exact e4),(by exact e5),zl⟩ (fun ρ46=>?_)
  clear e3 e4 e5
  clear hA qh1 qh2 qh3 qh4
  have h157:=(MapR.ext (MapR.ext (MapR.chg (MapR.ext (MapR.chg (MapR.chg (MapR.chg (MapR.ext h115 hn119.ext) hp123.chg (fun e=>by have e:m=b120:=e;omega) (fun _ h=>h.elim)) hp125.chg (fun e=>by have e:m=b120:=e;omega) (fun _ h=>h.elim)) hp129.chg (fun e=>by have e:m=b120:=e;omega) (fun _ h=>h.elim)) hx134) hp136.chg (fun e=>by have e:m=b120:=e;omega) (fun _ h=>h.elim)) hx139) hR154)
  refine stn (XG (α:=Row) (x1:=(⟨(zD p (e.ev) reg).getD 0,yV p (⟨(zD p (e.ev) reg).getD 0,((yi L ((zD p (e.ev) reg).getD 0)).getD (⟨0,0,0⟩:Row)).value,(((yi L ((zD p (e.ev) reg).getD 0)).getD (⟨0,0,0⟩:Row)).count)+1⟩:Row) e.ev.arg,(((yi L ((zD p (e.ev) reg).getD 0)).getD (⟨0,0,0⟩:Row)).count)+1⟩:Row)) (cs:=((⟨(zD p (e.ev) reg).getD 0,yV p (⟨(zD p (e.ev) reg).getD 0,((yi L ((zD p (e.ev) reg).getD 0)).getD (⟨0,0,0⟩:Row)).value,(((yi L ((zD p (e.ev) reg).getD 0)).getD (⟨0,0,0⟩:Row)).count)+1⟩:Row) e.ev.arg,(((yi L ((zD p (e.ev) reg).getD 0)).getD (⟨0,0,0⟩:Row)).count)+1⟩:Row).cells)) oT rR rfl rfl rfl (WI oe.ev hreg) h157 ⟨rfl,ok138⟩ (fun h=>h) (fun w47 hm159 hch158=>?_))
  have hch158s:=hch158.size
  refine zb ?_
  refine Xe uR ?_
  refine⟨rfl,?_,(Chg.trans (Chg.trans (Chg.trans (Chg.new (Chg.trans (Chg.new (Chg.new (Chg.new (Chg.trans (Chg.trans (Chg.trans (Chg.trans (Chg.ext _ hn1.ext) (Chg.ext _ hx7)) (Chg.ext _ hx8)) (Chg.ext _ hR110)) (Chg.ext _ hn119.ext)) hp123.chg (fun i hi hO=>by exfalso;subst hO;omega)) hp125.chg (fun i hi hO=>by exfalso;subst hO;omega)) hp129.chg (fun i hi hO=>by exfalso;subst hO;omega)) (Chg.ext _ hx134)) hp136.chg (fun i hi hO=>by exfalso;subst hO;omega)) (Chg.ext _ hx139)) (Chg.ext _ hR154)) hch158)⟩
  obtain⟨g,hg⟩:=Option.isSome_iff_exists.1 hc113.1.1.1
  have hadd:ZM p L e reg=xP L ((zD p (e.ev) reg).getD 0) (⟨(zD p (e.ev) reg).getD 0,yV p (⟨(zD p (e.ev) reg).getD 0,((yi L ((zD p (e.ev) reg).getD 0)).getD (⟨0,0,0⟩:Row)).value,(((yi L ((zD p (e.ev) reg).getD 0)).getD (⟨0,0,0⟩:Row)).count)+1⟩:Row) e.ev.arg,(((yi L ((zD p (e.ev) reg).getD 0)).getD (⟨0,0,0⟩:Row)).count)+1⟩:Row):=by
   unfold ZM
   rw[hg]
   simp only[]
   rw[ifnC (by rintro(h|h|h);rw[hc113.1.1.2]at h;cases h;omega;omega)]
   rfl
  rw[hadd]
  exact hm159
 ·skip
  simp only[xI]at hc113
  refine zg rfl ?_
  refine zq ?_
  refine zaW uR ?_
  have h160:=hm.ext (Chg.trans (Chg.trans (Chg.trans hn1.ext hx7) hx8) hR110)
  refine⟨rfl,?_,(Chg.trans (Chg.trans (Chg.trans (Chg.ext _ hn1.ext) (Chg.ext _ hx7)) (Chg.ext _ hx8)) (Chg.ext _ hR110))⟩
  have hadd:ZM p L e reg=L:=by
   unfold ZM
   split
   ·rfl
   ·rename_i g hg
    rw[ifpC]
    rw[hg]at hc113
    rcases hc113 with((h|h)|h)|h
    ·cases h
    ·exact .inl h
    ·exact .inr (.inl h)
    ·exact .inr (.inr h)
  rw[hadd]
  exact h160
end
section
theorem JJ {α:Type}{L:List (Int×α)}{k:Int}{x:α}:(∃p∈L,p.1=k)∧(xP L k x).map (·.1)=L.map (·.1)∨(∀p∈L,p.1≠k)∧xP L k x=L++[(k,x)]:=by
 unfold xP
 split
 ·rename_i j hj
  obtain⟨h1,h2,h3⟩:=List.findIdx?_eq_some_iff_getElem.1 hj
  refine .inl ⟨⟨L[j],List.getElem_mem h1,by simpa using h2⟩,?_⟩
  refine List.ext_getElem (by simp) fun i h4 h5=>?_
  simp only[List.getElem_map,List.getElem_set]
  split
  ·rename_i e;subst e;have h6:L[j].1=k:=by simpa using h2
   exact h6.symm
  ·rfl
 ·rename_i hj
  rw[List.findIdx?_eq_none_iff]at hj
  exact .inr ⟨fun p hp=>by simpa using hj p hp,rfl⟩
theorem JK {α:Type}{L:List (Int×α)}{k g:Int}{x:α}:yi (xP L k x) g=if g=k then some x else yi L g:=by
 unfold yi xP
 split
 ·rename_i j hj
  obtain⟨h1,h2,h3⟩:=List.findIdx?_eq_some_iff_getElem.1 hj
  have h2':L[j].1=k:=by simpa using h2
  by_cases hg:g=k
  ·subst hg
   rw[if_pos rfl]
   have:(L.set j (g,x)).find? (fun p=>p.1== g)=some (g,x):=by
    rw[List.find?_eq_some_iff_getElem]
    refine⟨by simp,j,by simpa using h1,by simp,fun i hi=>?_⟩
    have h4:=h3 i hi
    simp only[List.getElem_set]
    rw[if_neg (by omega)]
    simpa using h4
   rw[this];rfl
  ·rw[if_neg hg]
   congr 1
   clear h3 hj
   induction L generalizing j with
   |nil=>rfl
   |cons p L ih=>
    cases j with
    |zero=>
     simp only[List.set_cons_zero,List.find?_cons]
     have e1:(k== g)=false:=by simpa using fun e=>hg e.symm
     have e2:(p.1== g)=false:=by
      have:p.1=k:=by simpa using h2'
      rw[this];exact e1
     simp only[e1,e2]
    |succ j=>
     simp only[List.set_cons_succ,List.find?_cons]
     split
     ·rfl
     ·exact ih j (by simpa using h1) (by simpa using h2) (by simpa using h2')
 ·rename_i hj
  rw[List.findIdx?_eq_none_iff]at hj
  rw[List.find?_append]
  by_cases hg:g=k
  ·subst hg
   rw[if_pos rfl]
   have:L.find? (fun p=>p.1== g)=none:=by
    rw[List.find?_eq_none]
    intro p hp;simpa using hj p hp
   rw[this];simp
  ·rw[if_neg hg]
   have e1:(k== g)=false:=by simpa using fun e=>hg e.symm
   simp[e1]
theorem Jp {α:Type}{L:List (Int×α)}(hn:(L.map (·.1)).Nodup){p:Int×α}(hp:p∈L):yi L p.1=some p.2:=by
 obtain⟨j,hj,rfl⟩:=List.getElem_of_mem hp
 unfold yi
 rw[WG hn hj];rfl
theorem Ye {α:Type}{L:List (Int×α)}{g:Int}{x:α}(h:yi L g=some x):(g,x)∈L:=by
 unfold yi at h
 rw[Option.map_eq_some_iff]at h
 obtain⟨p,hp,rfl⟩:=h
 have h1:=List.find?_some hp
 have h2:=List.mem_of_find?_eq_some hp
 have:p.1=g:=by simpa using h1
 rw[←this];exact h2
structure GoodM (L:List (Int×Row)) (k:Nat):Prop where
 grp: ∀q∈L,q.1=q.2.group
 cnt: ∀q∈L,1≤q.2.count∧q.2.count≤k
 nodup:(L.map (·.1)).Nodup
 len:L.length≤k
theorem zbj:GoodM [] 0:=⟨fun q h=>(by cases h),fun q h=>(by cases h),List.nodup_nil,Nat.le_refl _⟩
theorem QM {α:Type}{L:List (Int×α)}{k:Int}{x:α}{q:Int×α}(h:q∈xP L k x):q=(k,x)∨q∈L:=by
 unfold xP at h
 split at h
 ·rcases List.mem_or_eq_of_mem_set h with h|h
  ·exact .inr h
  ·exact .inl h
 ·rcases List.mem_append.1 h with h|h
  ·exact .inr h
  ·exact .inl (by simpa using h)
theorem Kf {L:List (Int×Row)}{k:Nat}(h:GoodM L k)(g:Int):0≤((yi L g).getD (⟨0,0,0⟩:Row)).count∧((yi L g).getD (⟨0,0,0⟩:Row)).count≤k:=by
 cases hl:yi L g with
 |none=>simp
 |some x=>have h1:1≤x.count∧x.count≤k:=h.cnt (g,x) (Ye hl);simp;omega
theorem GoodM.add {L:List (Int×Row)}{k:Nat}(h:GoodM L k)(p:Prj)(e:Ent)(reg:Int):GoodM (ZM p L e reg) (k+1):=by
 have hw:GoodM L (k+1):=⟨h.grp,fun q hq=>by have:=h.cnt q hq;omega,h.nodup,Nat.le_succ_of_le h.len⟩
 unfold ZM
 split
 ·exact hw
 ·rename_i g hg
  split
  ·exact hw
  ·have hc:=Kf h g
   refine⟨fun q hq=>?_,fun q hq=>?_,?_,?_⟩
   ·rcases QM hq with rfl|hq
    ·rfl
    ·exact h.grp q hq
   ·rcases QM hq with rfl|hq
    ·show 1≤_+1∧_+1≤((k+1:Nat):Int)
     omega
    ·have:=h.cnt q hq;omega
   ·rcases JJ (L:=L) (k:=g) (x:=(⟨g,yV p ⟨g,((yi L g).getD ⟨0,0,0⟩).value,((yi L g).getD ⟨0,0,0⟩).count+1⟩ e.ev.arg,((yi L g).getD ⟨0,0,0⟩).count+1⟩:Row))with⟨_,h1⟩|⟨h1,h2⟩
    ·rw[h1];exact h.nodup
    ·rw[h2,List.map_append,List.nodup_append]
     refine⟨h.nodup,by simp,fun a ha b hb=>?_⟩
     simp at hb
     subst hb
     obtain⟨q,hq,rfl⟩:=List.mem_map.1 ha
     exact h1 q hq
   ·have:=h.len
    unfold xP
    split
    ·rw[List.length_set];omega
    ·rw[List.length_append];simp;omega
def Kb (x:Row):List Row→List Row
 |[]=>[x]
 |y::l=>if x.group<y.group then x::y::l else y::Kb x l
def Xd:List Row→List Row
 |[]=>[]
 |x::l=>Kb x (Xd l)
theorem We (x:Row): ∀l,(Kb x l).Perm (x::l)
 |[]=>List.Perm.refl _
 |y::l=>by
  unfold Kb;split
  ·exact List.Perm.refl _
  ·exact((We x l).cons y).trans (List.Perm.swap x y l)
theorem ZT: ∀l,(Xd l).Perm l
 |[]=>List.Perm.refl _
 |x::l=>(We x _).trans ((ZT l).cons x)
theorem Wo (x:Row): ∀{l:List Row},l.Pairwise (fun a b=> ¬b.group<a.group)→(Kb x l).Pairwise (fun a b=> ¬b.group<a.group)
 |[],_=>by simp[Kb]
 |y::l,h=>by
  obtain⟨h1,h2⟩:=List.pairwise_cons.1 h
  unfold Kb;split
  ·rename_i hl
   refine List.pairwise_cons.2 ⟨fun z hz=>?_,h⟩
   rcases List.mem_cons.1 hz with rfl|hz
   ·omega
   ·have:=h1 z hz;omega
  ·rename_i hl
   refine List.pairwise_cons.2 ⟨fun z hz=>?_,Wo x h2⟩
   rcases List.mem_cons.1 ((We x l).subset hz)with rfl|hz
   ·exact hl
   ·exact h1 z hz
theorem YI: ∀l:List Row,(Xd l).Pairwise (fun a b=> ¬b.group<a.group)
 |[]=>List.Pairwise.nil
 |x::l=>Wo x (YI l)
theorem Wa: ∀{a b:List Row},a.Perm b→a.Pairwise (fun x y=> ¬y.group<x.group)→b.Pairwise (fun x y=> ¬y.group<x.group)→(a.map (·.group)).Nodup→a=b
 |[],b,hp,_,_,_=>(List.nil_perm.1 hp).symm
 |x::a,b,hp,ha,hb,hn=>by
  cases b with
  |nil=>exact absurd hp.symm (by simp)
  |cons y b=>
   obtain⟨ha1,ha2⟩:=List.pairwise_cons.1 ha
   obtain⟨hb1,hb2⟩:=List.pairwise_cons.1 hb
   have hn':=List.nodup_cons.1 (by simpa using hn:(x.group::a.map (·.group)).Nodup)
   have hxy:x=y:=by
    have hy:y∈x::a:=hp.symm.subset (List.mem_cons_self ..)
    have hx:x∈y::b:=hp.subset (List.mem_cons_self ..)
    rcases List.mem_cons.1 hy with h|h
    ·exact h.symm
    ·rcases List.mem_cons.1 hx with h'|h'
     ·exact h'
     ·have h1:=ha1 y h
      have h2:=hb1 x h'
      have:y.group=x.group:=by omega
      exact absurd (this▸List.mem_map_of_mem (f:= (·.group)) h) hn'.1
   subst hxy
   rw[Wa ((List.perm_cons x).1 hp) ha2 hb2 hn'.2]
theorem XP {L:List (Int×Row)}(hg: ∀q∈L,q.1=q.2.group)(hn:(L.map (·.1)).Nodup):((L.map (·.2)).map (·.group)).Nodup:=by
 have:(L.map (·.2)).map (·.group)=L.map (·.1):=by
  rw[List.map_map]
  exact List.map_congr_left fun q hq=>(hg q hq).symm
 rw[this];exact hn
theorem QK {L:List (Int×Row)}(hg: ∀q∈L,q.1=q.2.group)(hn:(L.map (·.1)).Nodup){l':List Row}(hp:l'.Perm (L.map (·.2)))(hs:l'.Pairwise (fun a b=> ¬b.group<a.group)):l'=Xd (L.map (·.2)):=by
 refine Wa (hp.trans (ZT _).symm) hs (YI _) ?_
 exact((hp.map (·.group)).nodup_iff).2 (XP hg hn)
theorem zci {d:Dcl}{l:List Ev}{x:Ent}(h:x∈zk d l):x.ev∈l:=by
 induction l using ZB with
 |h0=>exact absurd h (List.not_mem_nil)
 |h1 l e ih=>
  rw[xF,List.mem_append]at h
  rw[List.mem_append]
  rcases h with h|h
  ·exact .inl (ih h)
  ·rw[List.mem_singleton]at h
   subst h
   exact .inr (List.mem_singleton.2 rfl)
theorem zbP {d:Dcl}{l:List Ev}{e:Ev}(he:e.Ok)(hl: ∀x∈l,x.Ok):(ye d (zk d l) e).Ok:=by
 have h0:InR 0:=by decide
 have h1:InR (yh d (zk d l) e).2.1∧InR (yh d (zk d l) e).2.2:=by
  unfold yh
  split
  ·exact⟨h0,h0⟩
  split
  ·rename_i x hx
   have hm:=List.mem_of_find?_eq_some hx
   unfold yB at hm
   obtain⟨y,hy,rfl⟩:=List.mem_map.1 hm
   have ho:=hl _ (zci (List.mem_filter.1 hy).1)
   exact⟨ho.origin,ho.seq⟩
  ·split
   ·exact⟨h0,h0⟩
   ·exact⟨h0,h0⟩
 exact⟨he,h1.1,h1.2⟩
abbrev PR:=Prj×List (Int×Row)
def WT (d:Dcl)(p:Prj)(L:List Ent)(e:Ev):Int:=if p.pby<(((stL d (e.typ,e.agg) L).length:Nat):Int)then((stL d (e.typ,e.agg) L).getD p.pby.toNat default).n else 0
def zbW (d:Dcl)(p:Prj)(l:List Ev):List Ent×List (Int×Row):=l.foldl (fun q e=>(q.1++[ye d q.1 e],ZM p q.2 (ye d q.1 e) (WT d p (q.1++[ye d q.1 e]) e))) ([],[])
theorem zay (d:Dcl)(p:Prj)(l:List Ev):(zbW d p l).1=zk d l:=by
 induction l using ZB with
 |h0=>rfl
 |h1 l e ih=>unfold zbW at ih⊢;rw[List.foldl_append,xF,←ih];rfl
def ZJ (d:Dcl)(p:Prj)(l:List Ev):List (Int×Row):=(zbW d p l).2
theorem XX (d:Dcl)(p:Prj)(l:List Ev)(e:Ev):ZJ d p (l++[e])=ZM p (ZJ d p l) (ye d (zk d l) e) (WT d p (zk d (l++[e])) e):=by
 have h:=zay d p l
 unfold ZJ
 rw[xF,←h]
 unfold zbW
 rw[List.foldl_append]
 rfl
theorem Zs (d:Dcl)(p:Prj)(l:List Ev):GoodM (ZJ d p l) l.length:=by
 induction l using ZB with
 |h0=>exact zbj
 |h1 l e ih=>rw[XX,List.length_append];exact ih.add _ _ _
def prs (d:Dcl)(l:List Ev):List PR:=d.projs.map fun p=>(p,ZJ d p l)
theorem Yr (d:Dcl)(l:List Ev):(prs d l).length=d.projs.length:=by unfold prs;rw[List.length_map]
theorem UN {d:Dcl}{l:List Ev}{k:Nat}(h:k<d.projs.length):(prs d l).getD k default=(d.projs.getD k default,ZJ d (d.projs.getD k default) l):=by
 unfold prs
 rw[zJ _ (by rw[List.length_map];exact h),List.getElem_map,zJ _ h]
def ZC {α:Type}(A B:List α)(k:Nat):List α:=A.take k++B.drop k
theorem JZ {α:Type}{A B:List α}{k:Nat}(h:A.length=B.length)(hk:B.length≤k):ZC A B k=A:=by
 unfold ZC
 rw[List.take_of_length_le (by omega),List.drop_eq_nil_of_le hk,List.append_nil]
theorem VF {α:Type}{A B:List α}{k:Nat}(h:A.length=B.length):(ZC A B k).length=B.length:=by
 unfold ZC
 rw[List.length_append,List.length_take,List.length_drop];omega
theorem zbh {α:Type}[Inhabited α]{A B:List α}{k:Nat}(h:A.length=B.length)(hk:k<B.length):(ZC A B k).getD k default=B.getD k default:=by
 unfold ZC
 rw[List.getD_eq_getElem?_getD,List.getElem?_append_right (by rw[List.length_take];omega),List.length_take,List.getElem?_drop,show k+(k-min k A.length)=k by omega,←List.getD_eq_getElem?_getD]
theorem zaj {α:Type}[Inhabited α]{A B:List α}{k:Nat}(h:A.length=B.length)(hk:k<B.length):(ZC A B k).set k (A.getD k default)=ZC A B (k+1):=by
 unfold ZC
 have h1:(A.take k).length=k:=by rw[List.length_take];omega
 rw[List.set_append_right _ _ (by omega),h1,Nat.sub_self,List.drop_eq_getElem_cons hk,List.set_cons_zero,List.take_getD (d:=default) (by omega),List.append_assoc,List.singleton_append]
def yK (d:Dcl)(every:Nat)(l:List Ev):List (List PR):=(List.range (l.length/every+1)).map fun j=>prs d (l.take (j*every))
theorem XK (d:Dcl)(every:Nat)(l:List Ev):(yK d every l).length=l.length/every+1:=by unfold yK;rw[List.length_map,List.length_range]
theorem zbO {d:Dcl}{every:Nat}{l:List Ev}{j:Nat}(h:j<l.length/every+1):(yK d every l).getD j default=prs d (l.take (j*every)):=by
 unfold yK
 rw[zJ _ (by rw[List.length_map,List.length_range];exact h),List.getElem_map,List.getElem_range]
def YH (n every:Nat)(P:List (List PR))(R:List PR):List (List PR):=if n=P.length*every then P++[R]else P
theorem Js {d:Dcl}{every:Nat}:YH 0 every [] (prs d [])=yK d every []:=by
 unfold YH yK
 rw[if_pos (by simp)]
 simp
theorem Jm {d:Dcl}{every:Nat}{l:List Ev}{e:Ev}(h:1≤every):YH (l++[e]).length every (yK d every l) (prs d (l++[e]))=yK d every (l++[e]):=by
 have hl:(l++[e]).length=l.length+1:=by rw[List.length_append];rfl
 unfold YH
 rw[XK,hl]
 have hq: ∀j,j<l.length/every+1→(l++[e]).take (j*every)=l.take (j*every):=fun j hj=>by
  have h1:j*every≤l.length:=Nat.le_trans (Nat.mul_le_mul_right _ (Nat.le_of_lt_succ hj)) (Nat.div_mul_le_self ..)
  rw[List.take_append_of_le_length h1]
 have hm:(List.range (l.length/every+1)).map (fun j=>prs d ((l++[e]).take (j*every)))=yK d every l:=by
  unfold yK
  refine List.map_congr_left fun j hj=>?_
  rw[hq j (List.mem_range.1 hj)]
 by_cases hc:l.length+1=(l.length/every+1)*every
 ·rw[if_pos hc]
  have e1:(l.length+1)/every=l.length/every+1:=by rw[hc,Nat.mul_div_cancel _ (by omega)]
  conv=>rhs;unfold yK
  rw[hl,e1,List.range_succ,List.map_append,hm,List.map_singleton,←hc,List.take_of_length_le (by rw[hl];exact Nat.le_refl _)]
 ·rw[if_neg hc]
  have hnd: ¬every∣l.length+1:=by
   intro hd
   obtain⟨q,hq⟩:=hd
   apply hc
   have h3:(l.length+1)/every=q:=by rw[hq,Nat.mul_div_cancel_left _ (by omega)]
   have h4:l.length/every+1=q:=by
    have:=Nat.succ_div (a:=l.length) (b:=every)
    rw[if_pos ⟨q,hq⟩]at this
    rw[←h3,this]
   rw[h4,hq,Nat.mul_comm]
  have e1:(l.length+1)/every=l.length/every:=by rw[Nat.succ_div,if_neg hnd,Nat.add_zero]
  conv=>rhs;unfold yK
  rw[hl,e1,hm]
theorem zby {d:Dcl}{every:Nat}{l:List Ev}(h:1≤every∧every≤9223372036854775807)(hl:l.length≤1000000):(yK d every l).length*every≤9223372036854775807:=by
 rw[XK,Nat.add_mul,Nat.one_mul]
 have h1:l.length/every*every≤l.length:=Nat.div_mul_le_self ..
 by_cases hc:every≤l.length
 ·omega
 ·rw[Nat.div_eq_of_lt (by omega)];omega
theorem zbu {d:Dcl}{every n:Nat}{l:List Ev}(h:1≤every)(hn:n<l.length):(yK d every l).take (n/every+1)=yK d every (l.take (n/every*every)):=by
 have h1:n/every*every≤n:=Nat.div_mul_le_self ..
 have h2:(l.take (n/every*every)).length=n/every*every:=by rw[List.length_take];omega
 have h3:n/every≤l.length/every:=Nat.div_le_div_right (by omega)
 unfold yK
 rw[h2,Nat.mul_div_cancel _ (by omega),←List.map_take,List.take_range,Nat.min_eq_left (by omega)]
 refine List.map_congr_left fun j hj=>?_
 have hj':=List.mem_range.1 hj
 rw[List.take_take,Nat.min_eq_left (Nat.mul_le_mul_right _ (Nat.le_of_lt_succ hj'))]
def Zo:List Ev→List Ev→Nat
 |a::l,b::m=>if a.origin=b.origin∧a.seq=b.seq then Zo l m+1 else 0
 |_,_=>0
def yv (every:Nat)(l evs:List Ev):Nat:=if Zo l evs<evs.length then Zo l evs/every*every else Zo l evs
theorem Qs: ∀{l m:List Ev},Zo l m≤l.length∧Zo l m≤m.length
 |[],_=>⟨Nat.le_refl _,Nat.zero_le _⟩
 |_::_,[]=>⟨Nat.zero_le _,Nat.le_refl _⟩
 |a::l,b::m=>by
  have:=Qs (l:=l) (m:=m)
  unfold Zo
  split
  ·simp only[List.length_cons];omega
  ·exact⟨Nat.zero_le _,Nat.zero_le _⟩
def Zq (a b:Ev):Prop:=a.origin=b.origin∧a.seq=b.seq
theorem Yc: ∀{l m:List Ev} {p:Nat},p≤l.length→p≤m.length→(∀i,i<p→Zq (l.getD i default) (m.getD i default))→(p<l.length→p<m.length→ ¬Zq (l.getD p default) (m.getD p default))→Zo l m=p
 |[],m,p,h1,_,_,_=>by simp at h1;subst h1;cases m<;>rfl
 |_::_,[],p,_,h1,_,_=>by simp at h1;subst h1;rfl
 |a::l,b::m,0,_,_,_,h=>by
  unfold Zo
  exact if_neg (h (Nat.zero_lt_succ _) (Nat.zero_lt_succ _))
 |a::l,b::m,p+1,h1,h2,h3,h4=>by
  unfold Zo
  have h0:a.origin=b.origin∧a.seq=b.seq:=h3 0 (by omega)
  rw[if_pos h0,Yc (l:=l) (m:=m) (p:=p) (by simpa using h1) (by simpa using h2) (fun i hi=>h3 (i+1) (by omega)) (fun q1 q2=>h4 (by simpa using q1) (by simpa using q2))]
def UZ (l m:List Ev):Prop:= ∀a∈l,∀b∈m,Zq a b→a=b
theorem JA {l m:List Ev}{p:Nat}(h:UZ l m)(h1:p≤l.length)(h2:p≤m.length)(h3: ∀i,i<p→Zq (l.getD i default) (m.getD i default)):m.take p=l.take p:=by
 refine List.ext_getElem (by rw[List.length_take,List.length_take];omega) fun i hi hi2=>?_
 rw[List.length_take]at hi hi2
 have a1:i<l.length:=by omega
 have a2:i<m.length:=by omega
 have:=h3 i (by omega)
 rw[zJ _ a1,zJ _ a2]at this
 rw[List.getElem_take,List.getElem_take]
 exact(h _ (List.getElem_mem a1) _ (List.getElem_mem a2) this).symm
end
section
open Go.RowKit Go.MapKept
section
variable {α:Type}[Rep α]{P:Program}{d:Option Tmp}{ty:TypeId}{pos:String}{af:Array Edge}{g:Option (Nat×Bool)}{σ:Env}{w:World}{K:Value→World→Prop}
theorem Jv {x:Operand}{t t2 k e:TypeId}{m:Nat}(hU:P.underlying t=some (.map k e))(hx:ev σ x=.map (some m))(h:K (.bool false) w):
 opV P ⟨d,.binOp .eql t x (.const (.map none)) t2,ty,pos,af,g⟩ σ w K:=by
 have hc:ev σ (.const (.map none))=.map none:=rfl
 have h1: ∀n,(Op.equalIn (n+1) t (.map (some m)) (.map none)).run P w=.ok false w:=fun n=>by simp[Op.equalIn,run_underlying hU]
 have h2:(binOp .eql t (.map (some m)) (.map none)).run P w=.ok (.bool false) w:=by
  simp only[binOp]
  simp[show Op.equal t (.map (some m)) (.map none)=Op.equalIn (9999+1) t (.map (some m)) (.map none)from rfl,h1]
 refine yp (v:=.bool false) (w':=w) ?_ h
 simp[execOp,hx,hc,h2,eqGuard,go_sem]
theorem UR {x:Operand}{t k e:TypeId}{v:Value}(hU:P.underlying t=some (.map k e))(hx:ev σ x=v)(h:K (.iface t v) w):opV P ⟨d,.makeInterface t x,ty,pos,af,g⟩ σ w K:=
 yp (v:=.iface t v) (w':=w) (by simp[execOp,hx,Instr.makeInterface,run_underlying hU,go_sem]) h
theorem Uk {x:Operand}{t xT k e:TypeId}{v:Value}(hU:P.underlying t=some (.map k e))(hx:ev σ x=.iface t v)(h:K v w):opV P ⟨d,.typeAssert x xT t false,ty,pos,af,g⟩ σ w K:=
 yp (v:=v) (w':=w) (by simp[execOp,hx,Instr.typeAssert,run_underlying hU,go_sem]) h
theorem Qv {f:FuncId}{x:Operand}{asq:List Operand}{ts:Array TypeId}{t:TypeId}{m:Nat}{F:Nat→Prop}{L:List (Int×α)}(hf:ev σ x=.func (.func f) #[] #[])(ha:asq.map (ev σ)=[.iface t (.map (some m))])
 (hcall: ∀args w,(callFunc f args).run P w=((Extern.MapsClone.clone args).run P w).andThen fun v w'=>.ok (.value v) w') (hm:MapR w F m L)
 (h: ∀w1,Ext w w1→w1.heap.size=w.heap.size+1→MapR w1 F w.heap.size L→K (.iface t (.map (some w.heap.size))) w1):opV P ⟨d,.call ⟨.value x,asq.toArray,ts⟩,ty,pos,af,g⟩ σ w K:=by
 obtain⟨es,clock,hb,hs,he⟩:=hm
 have hn:=New.mk' w (.map es clock)
 have h1:(Extern.MapsClone.clone #[.iface t (.map (some m))]).run P w=.ok (.iface t (.map (some w.heap.size))) {w with heap:=w.heap.push (.map es clock)}:=by
  have e:Extern.MapsClone.clone #[.iface t (.map (some m))]=(getObj m >>= fun o=>match o with
   | .map entries clock=>(newObj (.map entries clock) >>= fun n=>pure (.iface t (.map (some n))))
   |_=>stuck "maps.clone: a map expected"):=rfl
  rw[e]
  simp[Go.MapKept.run_getObj_map hb,Result.andThen,newObj,newRow,Sem.run,go_sem]
 refine yp (v:=.iface t (.map (some w.heap.size))) (w':={w with heap:=w.heap.push (.map es clock)}) ?_ (h _ hn.ext (by simp) ⟨es,clock,hn.at_,hs,he.mono (fun b hb hlt=>⟨hn.ext.block b hlt (fun h=>h),hb⟩)⟩)
 simp[execOp,resolve,hf,Deferred.ofValue,invoke,hcall,←ha,h1,go_sem]
 rw[ha]
 simp[h1,Result.andThen]
end
end
section
open Go.Proofs Go.RowKit
abbrev xA:=And.intro (@Ev.cells.eq_1) (And.intro (@Mv.cells.eq_1) (And.intro (@Fld.cells.eq_1) (And.intro (@Typ.cells.eq_1) (And.intro (@Prj.cells.eq_1) (And.intro (@Dcl.cells.eq_1) (And.intro (@Cel.cells.eq_1) (And.intro (@AskR.cells.eq_1) (And.intro (@CelS.cells.eq_1) (And.intro (@Ent.cells.eq_1) (And.intro (@Sta.cells.eq_1) (And.intro (@Row.cells.eq_1) (@Trn.cells.eq_1))))))))))))
def Xc (m:Nat)(L:List (Int×Row)):HP:=⟨fun w f=>f m∧MapR (α:=Row) w (fun _=>False) m L,fun⟨h1,h2⟩ hf=>⟨(hf _ h1 h2.lt).2,h2.mono (hf _ h1 h2.lt).1 (fun _ h=>h.elim)⟩⟩
def ProjO (a:Nat)(p:Prj)(L:List (Int×Row)):HP:=WC p.Ok (Ex1 fun m=>Star [Blk a #[.int .i64 (p.ptyp),.int .i64 (p.pfield),.int .i64 (p.pgroup),.int .i64 (p.pby),.int .i64 (p.pmake),.map (some m)] 121,Xc m L])
theorem ProjO.mk {w:World}{f:Nat→Prop}{a m:Nat}{p:Prj}{L:List (Int×Row)}(op:p.Ok)(hb:w.heap[a]? =some (.cells #[.int .i64 (p.ptyp),.int .i64 (p.pfield),.int .i64 (p.pgroup),.int .i64 (p.pby),.int .i64 (p.pmake),.map (some m)] 121))(hm:MapR (α:=Row) w (fun _=>False) m L)(hne:a≠m)(ha:f a)(hfm:f m):(ProjO a p L).p w f:=by
 refine⟨op,m,fun i b=>match i with|0=>b=a|1=>b=m|_=>False,fun i A hA=>?_,fun i j hi hj hij b hb1 hb2=>?_⟩
 ·match i,hA with
  |0,hA=>simp only[List.getElem?_cons_zero,Option.some.injEq]at hA;subst hA;exact⟨⟨hb,rfl⟩,fun b h=>by subst h;exact⟨ha,xz hb⟩⟩
  |1,hA=>simp only[List.getElem?_cons_succ,List.getElem?_cons_zero,Option.some.injEq]at hA;subst hA;exact⟨⟨rfl,hm⟩,fun b h=>by subst h;exact⟨hfm,hm.lt⟩⟩
  |_+2,hA=>simp at hA
 ·match i,j,hb1,hb2 with
  |0,0,_,_=>exact hij rfl
  |0,1,h1,h2=>exact hne (h1.symm.trans h2)
  |1,0,h1,h2=>exact hne (h2.symm.trans h1)
  |1,1,_,_=>exact hij rfl
  |_+2,_,h,_=>exact h
  |0,_+2,_,h=>exact h
  |1,_+2,_,h=>exact h
theorem ProjO.get {w:World}{f:Nat→Prop}{a:Nat}{p:Prj}{L:List (Int×Row)}(h:(ProjO a p L).p w f):p.Ok∧ ∃m,w.heap[a]? =some (.cells #[.int .i64 (p.ptyp),.int .i64 (p.pfield),.int .i64 (p.pgroup),.int .i64 (p.pby),.int .i64 (p.pmake),.map (some m)] 121)∧MapR (α:=Row) w (fun _=>False) m L∧a≠m∧f a∧f m:=by
 obtain⟨op,m,fs,h1,h2⟩:=h
 obtain⟨hA,hfA⟩:=h1 0 _ rfl
 obtain⟨hB,hfB⟩:=h1 1 _ rfl
 exact⟨op,m,hA.1,hB.2,fun e=>h2 0 1 (by simp) (by simp) (by simp) a hA.2 (e▸hB.1),(hfA a hA.2).1,(hfB m hB.1).1⟩
theorem ProjO.open {G:Nat→Prop}{W w:World}{As:List HP}{a:Nat}{p:Prj}{L:List (Int×Row)}(h:Sep G W (ProjO a p L::As) w):p.Ok∧ ∃m,Sep G W (Blk a #[.int .i64 (p.ptyp),.int .i64 (p.pfield),.int .i64 (p.pgroup),.int .i64 (p.pby),.int .i64 (p.pmake),.map (some m)] 121::Xc m L::As) w:=by
 obtain⟨h1,h2⟩:=h.openAnd
 obtain⟨v,h3⟩:=h2.openEx
 exact⟨h1,v,h3.openStar⟩
theorem ProjO.close {G:Nat→Prop}{W w:World}{As:List HP}{a m:Nat}{p:Prj}{L:List (Int×Row)}(hp:p.Ok)(h:Sep G W (Blk a #[.int .i64 (p.ptyp),.int .i64 (p.pfield),.int .i64 (p.pgroup),.int .i64 (p.pby),.int .i64 (p.pmake),.map (some m)] 121::Xc m L::As) w):Sep G W (ProjO a p L::As) w:=
 Sep.closeAnd hp (Sep.closeEx (A:=fun m=>Star [Blk a #[.int .i64 (p.ptyp),.int .i64 (p.pfield),.int .i64 (p.pgroup),.int .i64 (p.pby),.int .i64 (p.pmake),.map (some m)] 121,Xc m L]) m (Sep.closeStar (Bs:=[Blk a #[.int .i64 (p.ptyp),.int .i64 (p.pfield),.int .i64 (p.pgroup),.int .i64 (p.pby),.int .i64 (p.pmake),.map (some m)] 121,Xc m L]) h))
theorem zdB {p:Prj}(op:p.Ok)(hS0:Sep G W Rs w):Ret Tryz.prog 37 [.agg (p.cells).toArray] w (fun r w'=> ∃(a:Nat),r=(.pointer (some ⟨a,0,none⟩):Value)∧Sep G W ((ProjO a p [])::Rs) w'):=by
 refine Ret.mono (C_New op) ?_
 rintro r w1 ⟨a,m,rfl,hx,ha,hm,hne,hb,hmr⟩
 exact⟨a,rfl,hS0.push hx (ProjO.mk op hb hmr hne (f:=fun b=>w.heap.size≤b) ha hm) (fun _ h=>h)⟩
theorem zdd {a:Nat}{p:Prj}{L:List (Int×Row)}{e:Ent}{de0:Value}(hde0:RdS W G de0 e.ev.deps)(oe:e.Ok){reg:Int}(hreg:InR reg)(hS0:Sep G W ((ProjO a p L)::Rs) w)(hcnt: ∀g,((yi L g).getD (⟨0,0,0⟩:Row)).count<4611686018427387904):Ret Tryz.prog 64 [.pointer (some ⟨a,0,none⟩),.agg (e.cells de0).toArray,.int .i64 (reg)] w (fun r w'=>r=(.tuple #[]:Value)∧Sep G W ((ProjO a p (ZM p L e reg))::Rs) w'):=by
 obtain⟨f,hA,hl,hT⟩:=hS0.take (i:=0) rfl
 obtain⟨op,m,hb,hm,hne,hfa,hfm⟩:=ProjO.get hA
 refine Ret.mono (C_Add hb op hm hne (hS0.rds hde0) oe hreg hcnt) ?_
 rintro r w1 ⟨rfl,hm2,hch⟩
 exact⟨rfl,hT w1 _ f (hch.weak (fun i _ h=>by subst h;exact hfm)) (ProjO.mk op (hch.keep hb hne) hm2 hne hfa hfm) (fun _ h=>.inl h)⟩
theorem zbl {m:Nat}{L:List (Int×Row)}(hS0:Sep G W ((Xc m L)::Rs) w):Ret Tryz.prog 94 [.map (some m)] w (fun r w'=> ∃(m2:Nat),r=(.map (some m2):Value)∧Sep G W ((Xc m L)::(Xc m2 L)::Rs) w'):=by
 refine zn (args:=[.map (some m)]) Tryz.func94 rfl rfl ?_
 refine za (R0 fun _=>st (aS (.map none) (zb (za (za (R0 fun _=>st (mV (.map (some m)) (st (Jv (m:=m) oT rfl (zb (ze rfl (zp (za (R0 fun _=>st (mV (.map (some m)) (st (UR (v:=.map (some m)) oT rfl ?_)))))))))))))))))
 obtain⟨f1,⟨_,d⟩,hl3⟩:=hS0.get (i:=0) rfl
 refine st (Qv (α:=Row) (f:=113) (t:=119) (m:=m) rfl rfl (fun a w=>run_callFunc_extern Tryz.func113 kr kr kr (e:=Extern.MapsClone.clone) kr a w) d ?_)
 intro k g hs6 c
 obtain⟨b,h⟩: ∃z,z=w.heap.size:=⟨_,rfl⟩;rw[←h]at c⊢
 have j:Sep G W ((Xc b L)::(Xc m L)::Rs) k:=hS0.push g (B:=Xc b L) (f:=fun i=>i=b) ⟨rfl,c⟩ (fun i hi=>by omega)
 refine st (Uk (v:=.map (some b)) oT rfl (st (aS (.map (some b)) (zb (zq (zU Tryz.results94 (show _=(.map (some b):Value)from rfl) ?_))))))
 refine⟨b,rfl,(j.mv1)⟩
theorem zcr {a:Nat}{p:Prj}{L:List (Int×Row)}(hS0:Sep G W ((ProjO a p L)::Rs) w):Ret Tryz.prog 81 [.pointer (some ⟨a,0,none⟩)] w (fun r w'=> ∃(a2:Nat),r=(.pointer (some ⟨a2,0,none⟩):Value)∧Sep G W ((ProjO a p L)::(ProjO a2 p L)::Rs) w'):=by
 refine zn (args:=[Ix a 0]) Tryz.func81 rfl rfl ?_
 obtain⟨e,t,ag⟩:=ProjO.open hS0
 have U:Sep G W ((Blk a #[Iv (p.ptyp),Iv (p.pfield),Iv (p.pgroup),Iv (p.pby),Iv (p.pmake),.map (some t)] 121)::(Xc t L)::Rs) w:=ag
 refine za (R0 fun _=>st (aS (.pointer none) (zb (za ?_))))
 refine WD4 ((fun y z=>WF [fun vals A=>Sep G W (y::z::Rs) A,fun vals A=> ∃(c:Nat),(vals 8=(.map (some c):Value))∧Sep G W (z::(Xc c L)::y::Rs) A,fun vals A=> ∃(c:Nat) (d:Nat),(vals 8=(.map (some c):Value))∧(vals 10=(Ix d 0:Value))∧Sep G W ((Blk d #[Iv (p.ptyp),Iv (p.pfield),Iv (p.pgroup),Iv (p.pby),Iv (p.pmake),.map (some c)] 121)::z::(Xc c L)::y::Rs) A]) (Blk a #[Iv (p.ptyp),Iv (p.pfield),Iv (p.pgroup),Iv (p.pby),Iv (p.pmake),.map (some t)] 121) (Xc t L)) (AF [Vl 0 (Ix a 0),Vl 1 (Ix a 0),Vl 2 (Ix a 0),Vl 3 (.agg (p.cells).toArray),Vl 4 (Ix a 0),Vl 5 (Ix a 0),Vl 6 (Ix a 5),Vl 7 (.map (some t)),fun _=>True,fun vals=> ∀(c:Nat),vals 8=(.map (some c):Value)→vals 9=(.agg #[Iv (p.ptyp),Iv (p.pfield),Iv (p.pgroup),Iv (p.pby),Iv (p.pmake),.map (some c)]:Value),fun _=>True,fun vals=> ∀(d:Nat),vals 10=(Ix d 0:Value)→vals 11=(Ix d 0:Value)]) [[],[0],[0,1],[0,1,2],[],[4],[4,5],[4,5,6],[4,5,6,7],(rg 9),(rg 10),(rg 11)] [8,10] [(0,1),(0,1),(0,1),(0,1),(0,0),(0,0),(0,0),(0,0),(0,0),(1,1),(1,1),(2,2)] U ⟨fun _ _ _ _ _ _ _=>obl rfl (mV (Ix a 0) dR),fun _ _ _ _ _ _ C=>obl rfl (zm (b:=a) (o:=0) (C 0 dc) dR),fun _ _ _ _ _ _ D=>obl rfl (zcb (D 1 dc) dR),?_,fun _ _ _ _ _ _ _=>obl rfl (mV (Ix a 0) dR),fun _ _ _ _ _ _ E=>obl rfl (zm (b:=a) (o:=0) (E 4 dc) dR),fun _ _ _ _ _ _ F=>obl rfl (zcw (F 5 dc) dR),ob1 0 fun _ _ (H:Sep _ _ _ _) I=>obl rfl (lD (.map (some t)) wT (I 6 dc) (zd (H.b0) rfl) dR),?_,?_,?_,?_,zl⟩ ?_ (hlocA:=xi ⟨dA,dA,dA,dA,dA,dA,dA,dA,dT,fun vals i l h=>fun c j=>(l 9 (.inl rfl)).trans (h c ((l 8 (.inr dc)).symm.trans j)),dT,fun vals i l h=>fun d j=>(l 11 (.inl rfl)).trans (h d ((l 10 (.inr dc)).symm.trans j)),zl⟩)
 refine fun q _ _ V X u x=>?_
 have hkk:=xE V X
 rcases hkk with rfl|rfl
 have J:Sep _ _ _ _:=u
 refine obl rfl ?_
 have ok130:Prj.Ok p:=⟨(show InR (p.ptyp)from e.ptyp),(show InR (p.pfield)from e.pfield),(show InR (p.pgroup)from e.pgroup),(show InR (p.pby)from e.pby),(show InR (p.pmake)from e.pmake)⟩
 exact zh (k:=5) (cs:=[Iv (p.ptyp),Iv (p.pfield),Iv (p.pgroup),Iv (p.pby),Iv (p.pmake)]) tT uT rfl (x 2 dc) (CellsAt.sub (zo (J.b0)) 0 (cs2:=[Iv (p.ptyp),Iv (p.pfield),Iv (p.pgroup),Iv (p.pby),Iv (p.pmake)]) rfl) dR
 obtain⟨c,g,K⟩:=u
 refine obl rfl ?_
 have ok133:Prj.Ok p:=⟨(show InR (p.ptyp)from e.ptyp),(show InR (p.pfield)from e.pfield),(show InR (p.pgroup)from e.pgroup),(show InR (p.pby)from e.pby),(show InR (p.pmake)from e.pmake)⟩
 exact zh (k:=5) (cs:=[Iv (p.ptyp),Iv (p.pfield),Iv (p.pgroup),Iv (p.pby),Iv (p.pmake)]) tT uT rfl (x 2 dc) (CellsAt.sub (zo (K.b2)) 0 (cs2:=[Iv (p.ptyp),Iv (p.pfield),Iv (p.pgroup),Iv (p.pby),Iv (p.pmake)]) rfl) dR
 refine ob1 0 fun vals _ (Y:Sep _ _ _ _) Z=>(obl rfl ((zW (f:=94) (vals:=[.map (some t)]) (cap:=[]) rfl (yM ⟨(Z 7 dc),zl⟩) Tryz.call94 (zbl (Y.mv1)) ?_)))
 rintro _ w71 ⟨c,rfl,aa⟩
 exact fun i l n=>⟨(exiA c (zA l aa)),zl⟩
 refine ob1 1 fun _ _ M N=>?_
 obtain⟨c,g,hS168⟩:=M
 refine obl rfl (zV (parts':=[(0,.agg (p.cells).toArray),(1,.map (some c))]) (v:=.agg #[Iv (p.ptyp),Iv (p.pfield),Iv (p.pgroup),Iv (p.pby),Iv (p.pmake),.map (some c)]) (Za ⟨rfl,(N 3 (by decide)),rfl,g,zl⟩) (by simp+zetaDelta [Instr.build,Instr.fill,go_sem,xA]) (fun i l n=>⟨rfl,?_⟩))
 intro m270q j
 rw[n 8 (by decide)]at j;cases g.symm.trans j
 exact l
 refine ob1 1 fun vals _ ab ac=>?_
 obtain⟨c,g,ad⟩:=ab
 have ah:vals 9=(.agg #[Iv (p.ptyp),Iv (p.pfield),Iv (p.pgroup),Iv (p.pby),Iv (p.pmake),.map (some c)]:Value):=ac 9 dc c g
 refine obl rfl ((zX (v:=.agg #[Iv (p.ptyp),Iv (p.pfield),Iv (p.pgroup),Iv (p.pby),Iv (p.pmake),.map (some c)]) ah ?_))
 intro w92 d ae
 exact fun i l n=>⟨(exiA c (exiA d (zA ((n 8 dc).trans g) (zA l (ad.new ae))))),zl⟩
 refine ob1 2 fun _ _ O _=>?_
 obtain⟨c,d,g,s,hS176⟩:=O
 refine obl rfl (zM (v:=Ix d 0) s (fun i l n=>⟨rfl,?_⟩))
 intro b91q j
 rw[n 10 (by decide)]at j;cases s.symm.trans j
 exact l
 intro vals B P Q
 obtain⟨c,d,g,s,R⟩:=P
 have af:vals 11=(Ix d 0:Value):=Q 11 dc d s
 refine yg (kv:=[(0,Ix a 0),(2,Ix d 0)]) ⟨rfl,(by exact af),zl⟩ (fun ρw177=>(zb (zq (zU Tryz.results81 (show _=(Ix d 0:Value)from rfl) ?_))))
 have S:Sep G W ((ProjO a p L)::(Blk d #[Iv (p.ptyp),Iv (p.pfield),Iv (p.pgroup),Iv (p.pby),Iv (p.pmake),.map (some c)] 121)::(Xc c L)::Rs) B:=ProjO.close (m:=t) e (R.s4_dbac)
 have T:Sep G W ((ProjO d p L)::(ProjO a p L)::Rs) B:=ProjO.close (m:=c) e (S.s3_bca)
 refine⟨d,rfl,(T.mv1)⟩
end
section
open Go.RowKit
theorem JS (z:Array Value)(hz:0<z.size)(n:Nat):(Builtin.zeroCells z n).toList=(List.replicate n z.toList).flatten:=by
 refine List.ext_getElem? fun j=>?_
 have hl:(Builtin.zeroCells z n).toList.length=n*z.size:=by simp[Builtin.zeroCells]
 by_cases hj:j<n*z.size
 ·rw[Vz z.toList (by simpa using hz) n j (by simpa using hj),List.getElem?_eq_getElem (by rw[hl];exact hj)]
  have hm:j%z.size<z.size:=Nat.mod_lt _ hz
  simp[Builtin.zeroCells,hm]
 ·rw[List.getElem?_eq_none (by rw[hl];omega),List.getElem?_eq_none (by simp[List.length_flatten,List.map_replicate];omega)]
theorem frz9 {w:World}{b o:Nat}{a:Array Value}{T:TypeId}(h:w.heap[b]? =some (.cells a T)):w.frozen? ⟨b,o,none⟩=false:=by simp[World.frozen?,h]
structure PtC where
 b:Nat
 deriving Inhabited
structure PtC.Ok (e:PtC):Prop where
def PtC.cells (e:PtC):List Value:=[.pointer (some ⟨e.b,0,none⟩)]
instance:Rep PtC where
 k:=1
 rd _ _ cs x:=cs=x.cells∧x.Ok
 bytes:=8
 bpos:=by decide
 kpos:=by decide
 len h:=by rw[h.1];rfl
 one h:=by rw[h.1];exact yo ⟨rfl,trivial⟩
 mono h _:=h
instance:Flat PtC:=⟨fun h=>h⟩
structure PtV where
 b:Nat
 v:Value
 deriving Inhabited
structure PtV.Ok (e:PtV):Prop where
 one:e.v.oneCell'=true
def PtV.cells (e:PtV):List Value:=[.pointer (some ⟨e.b,0,none⟩),e.v]
instance:Rep PtV where
 k:=2
 rd _ _ cs x:=cs=x.cells∧x.Ok
 bytes:=32
 bpos:=by decide
 kpos:=by decide
 len h:=by rw[h.1];rfl
 one h:=by rw[h.1];exact yo ⟨rfl,h.2.one,trivial⟩
 mono h _:=h
instance:Flat PtV:=⟨fun h=>h⟩
section
variable {α β:Type}{A:α→β→HP}
def Zip (A:α→β→HP):List α→List β→List HP
 |s::sh,c::l=>A s c::Zip A sh l
 |_,_=>[]
theorem Zip.get [Inhabited α][Inhabited β]: ∀{sh:List α} {l:List β} {i:Nat},i<sh.length→i<l.length→(Zip A sh l)[i]? =some (A (sh.getD i default) (l.getD i default))
 |_::_,_::_,0,_,_=>rfl
 |_::_,_::_,i+1,h1,h2=>by
  have:=Zip.get (i:=i) (by simpa using h1) (by simpa using h2)
  simpa[Zip]using this
 |[],_,i,h,_=>absurd h (Nat.not_lt_zero i)
 |_::_,[],i,_,h=>absurd h (Nat.not_lt_zero i)
theorem Zip.len: ∀{sh:List α} {l:List β},sh.length=l.length→(Zip A sh l).length=l.length
 |[],[],_=>rfl
 |_::_,_::_,h=>by simpa[Zip]using Zip.len (by simpa using h)
 |[],_::_,h=>by simp at h
 |_::_,[],h=>by simp at h
theorem Zip.set [Inhabited α]: ∀{sh:List α} {l:List β} (i:Nat) (c:β),sh.length=l.length→i<l.length→Zip A sh (l.set i c)=(Zip A sh l).set i (A (sh.getD i default) c)
 |[],[],i,_,_,h=>absurd h (Nat.not_lt_zero i)
 |_::_,_::_,0,_,_,_=>rfl
 |_::sh,_::l,i+1,c,h1,h2=>by
  simp only[List.set_cons_succ,Zip]
  rw[Zip.set i c (by simpa using h1) (by simpa using h2)]
  rfl
 |[],_::_,_,_,h,_=>by simp at h
 |_::_,[],_,_,h,_=>by simp at h
theorem Zip.snoc: ∀{sh:List α} {l:List β} (s:α) (c:β),sh.length=l.length→Zip A (sh++[s]) (l++[c])=Zip A sh l++[A s c]
 |[],[],_,_,_=>rfl
 |_::sh,_::l,s,c,h=>by simp only[List.cons_append,Zip];rw[Zip.snoc s c (by simpa using h)]
 |[],_::_,_,_,h=>by simp at h
 |_::_,[],_,_,h=>by simp at h
theorem Zip.cut: ∀{sh:List α} {l:List β} (i:Nat),∃r,Zip A sh l=Zip A (sh.take i) (l.take i)++r
 |_::_,_::_,0=>⟨_,rfl⟩
 |s::sh,c::l,i+1=>by
  obtain⟨r,h⟩:=Zip.cut (sh:=sh) (l:=l) i
  exact⟨r,by simp only[List.take_succ_cons,Zip,List.cons_append];rw[←h]⟩
 |[],_,i=>⟨[],by simp[Zip]⟩
 |_::_,[],i=>⟨[],by cases i<;>simp[Zip]⟩
end
section
variable {G:Nat→Prop}{W w:World}{As:List HP}{T:TypeId}{v:Value}
theorem Sep.starFst {As Bs R:List HP}(h:Sep G W (Star (As++Bs)::R) w):Sep G W (Star As::R) w:=h.impl (i:=0) rfl (fun f ⟨fs,h1,h2⟩=>⟨fs,fun i C hC=>h1 i C (by rw[List.getElem?_append_left (List.getElem?_eq_some_iff.1 hC).1];exact hC),fun i j hi hj=>h2 i j (by simp;omega) (by simp;omega)⟩)
variable {α β:Type}[Rep α][Inhabited α][Inhabited β]{A:α→β→HP}{sh:List α}{l:List β}
def ZipW (A:α→β→HP)(T:TypeId)(v:Value)(l:List β):HP:=Ex1 fun sh:List α=>WC (sh.length=l.length) (Star [RowE (α:=α) own T v sh,Star (Zip A sh l)])
theorem ZipW.open (h:Sep G W (ZipW A T v l::As) w): ∃sh:List α,sh.length=l.length∧Sep G W (RowE (α:=α) own T v sh::Star (Zip A sh l)::As) w:=by
 obtain⟨sh,h1⟩:=h.openEx
 obtain⟨h2,h3⟩:=h1.openAnd
 exact⟨sh,h2,h3.openStar⟩
theorem ZipW.mk (hn:sh.length=l.length)(h:Sep G W (RowE (α:=α) own T v sh::Star (Zip A sh l)::As) w):Sep G W (ZipW A T v l::As) w:=
 Sep.closeEx (A:=fun sh:List α=>WC (sh.length=l.length) (Star [RowE (α:=α) own T v sh,Star (Zip A sh l)])) sh (Sep.closeAnd hn (Sep.closeStar (Bs:=[RowE (α:=α) own T v sh,Star (Zip A sh l)]) h))
theorem ZipW.take {i:Nat}(hn:sh.length=l.length)(hi:i<l.length)(h:Sep G W (Star (Zip A sh l)::As) w):Sep G W (A (sh.getD i default) (l.getD i default)::Star ((Zip A sh l).set i Emp)::As) w:=h.takeStar (Zip.get (by omega) hi)
theorem ZipW.put {i:Nat}{c:β}(hn:sh.length=l.length)(hi:i<l.length)(h:Sep G W (A (sh.getD i default) c::Star ((Zip A sh l).set i Emp)::As) w):Sep G W (Star (Zip A sh (l.set i c))::As) w:=by
 have h1:=h.putStar (i:=i) (by rw[List.length_set,Zip.len hn];exact hi)
 rw[List.set_set,←Zip.set i c hn hi]at h1
 exact h1
theorem ZipW.back {i:Nat}(hn:sh.length=l.length)(hi:i<l.length)(h:Sep G W (A (sh.getD i default) (l.getD i default)::Star ((Zip A sh l).set i Emp)::As) w):Sep G W (Star (Zip A sh l)::As) w:=by
 have h1:=ZipW.put hn hi h
 rw[zJ _ hi,List.set_getElem_self]at h1
 exact h1
theorem ZipW.snoc {s:α}{c:β}(hn:sh.length=l.length)(h:Sep G W (RowE (α:=α) own T v (sh++[s])::Star (Zip A sh l)::A s c::As) w):Sep G W (ZipW A T v (l++[c])::As) w:=by
 have h2:Sep G W (Star (Zip A sh l++[A s c])::RowE (α:=α) own T v (sh++[s])::As) w:=(h.sel 3 [2,1,0] (Nat.le_add_left _ _) rfl rfl).snocStar
 rw[←Zip.snoc s c hn]at h2
 exact ZipW.mk (by rw[List.length_append,List.length_append,hn];rfl) (h2.sel 2 [1,0] (Nat.le_add_left _ _) rfl rfl)
theorem ZipW.nil (A:α→β→HP)(T:TypeId)(h:Sep G W As w):Sep G W (ZipW A T (.slice none 0 0) []::As) w:=ZipW.mk (sh:=[]) rfl (h.nilStar.rowNil own T)
theorem Sep.zipSl (h:Sep G W As w){i:Nat}(hi:As[i]? =some (ZipW A T v l)):IsSl v l.length:=by
 obtain⟨f,⟨sh,hn,hst⟩,_⟩:=h.get hi
 have h1:=RowE.isSl (T:=T) (Star.at_ hst (i:=0) rfl)
 rw[hn]at h1
 exact h1
theorem ZipW.cut {i:Nat}(hn:sh.length=l.length)(h:Sep G W (RowE (α:=α) own T v (sh.take i)::Star (Zip A sh l)::As) w):Sep G W (ZipW A T v (l.take i)::As) w:=by
 obtain⟨r,hr⟩:=Zip.cut (A:=A) (sh:=sh) (l:=l) i
 rw[hr]at h
 exact ZipW.mk (by rw[List.length_take,List.length_take,hn]) ((h.sel 2 [1,0] (Nat.le_add_left _ _) rfl rfl).starFst.sel 2 [1,0] (Nat.le_add_left _ _) rfl rfl)
end
section
variable {α:Type}[Rep α]{src:Src α}{G:Nat→Prop}{W w:World}{As:List HP}{T:TypeId}{v:Value}{l:List α}
theorem Sep.rowSome (h:Sep G W As w){i:Nat}(hi:As[i]? =some (RowE src T v l))(hl:0<l.length): ∃g cap,v=.slice (some ⟨g,0,none⟩) l.length cap∧l.length≤cap:=by
 obtain⟨f,⟨css,_,hown,_,_⟩,_⟩:=h.get hi
 rcases hown.2 with⟨_,h0⟩|⟨g,cap,cur,e,_,_,hn,_⟩
 ·omega
 ·exact⟨g,cap,e,hn⟩
theorem WA {w:World}{g n cap i k:Nat}{css:List (List Value)}(hk: ∀c∈css,c.length=k)(hcs:css.length=n)(hi:i≤n)(h:w.ownsRow 0 T k (.slice (some ⟨g,0,none⟩) n cap) n css.flatten):w.ownsRow 0 T k (.slice (some ⟨g,0,none⟩) i cap) i (css.take i).flatten:=by
 have hfl: ∀(c:List (List Value)),(∀x∈c,x.length=k)→c.flatten.length=c.length*k:=by
  intro c
  induction c with
  |nil=>intro _;simp
  |cons x c ih=>intro h;rw[List.flatten_cons,List.length_append,ih (fun y hy=>h y (List.mem_cons_of_mem _ hy)),h x (List.mem_cons_self ..),List.length_cons,Nat.add_mul];omega
 have hft: ∀(c:List (List Value)) (i:Nat),(∀x∈c,x.length=k)→c.flatten.take (i*k)=(c.take i).flatten:=by
  intro c
  induction c with
  |nil=>intro i _;simp
  |cons x c ih=>
   intro i h
   cases i with
   |zero=>simp
   |succ i=>
    have hx:=h x (List.mem_cons_self ..)
    rw[List.take_succ_cons,List.flatten_cons,List.flatten_cons,←ih i (fun y hy=>h y (List.mem_cons_of_mem _ hy)),show(i+1)*k=x.length+i*k by rw[hx,Nat.add_mul];omega,List.take_length_add_append]
 refine⟨by rw[hfl _ (fun x hx=>hk x (List.mem_of_mem_take hx)),List.length_take,hcs,Nat.min_eq_left hi],.inr ?_⟩
 rcases h.2 with⟨e,_⟩|⟨g',cap',cur,e,hg,hb,hn,hm,hs,ht⟩
 ·cases e
 ·cases e
  refine⟨g,cap,cur,rfl,hg,hb,by omega,hm,hs,?_⟩
  rw[←hft css i hk,←ht,List.take_take,Nat.min_eq_left (Nat.mul_le_mul_right k hi)]
theorem Sep.rowCut {g n cap i:Nat}(h:Sep G W (RowE src T (.slice (some ⟨g,0,none⟩) n cap) l::As) w)(hn:l.length=n)(hi:i≤n):Sep G W (RowE src T (.slice (some ⟨g,0,none⟩) i cap) (l.take i)::As) w:=by
 refine h.impl (i:=0) rfl (fun f hA=>?_)
 obtain⟨css,hE,hown,hrow,hsm⟩:=hA
 have hcl:=hE.length
 have hk: ∀c∈css,c.length=Rep.k α:=fun c hc=>by
  obtain⟨j,hj,rfl⟩:=List.getElem_of_mem hc
  exact src.len (EP.at2 hE j hj (by omega))
 subst hn
 have e:(l.take i).length=i:=by rw[List.length_take,Nat.min_eq_left hi]
 refine⟨css.take i,EP.mono (fun cs x hx=>(src.el cs x).weak hx (fun b hb _=>hb)) (hE.take i),?_,hrow,?_⟩
 ·rw[e];exact WA hk hcl hi hown
 ·rw[e];exact Nat.le_trans (Nat.mul_le_mul_right _ hi) hsm
end
section
variable {P:Program}{d:Option Tmp}{ty:TypeId}{pos:String}{af:Array Edge}{gd:Option (Nat×Bool)}{σ:Env}{w:World}{K:Value→World→Prop}{g k:Nat}
theorem Vg {t e:TypeId}{x y:Operand}{n c j:Nat}(hU:P.underlying t=some (.slice e))(hS: ∀w,(sizeOf e).run P w=.ok k w)(hx:ev σ x=.slice (some ⟨g,0,none⟩) n c)
 (hhi:ev σ y=.int .i64 (j:Nat)) (hin:j≤n) (hnc:n≤c) (h:K (.slice (some ⟨g,0,none⟩) j c) w):opV P ⟨d,.slice t x none (some y) none,ty,pos,af,gd⟩ σ w K:=by
 refine yp (v:=.slice (some ⟨g,0,none⟩) j c) (w':=w) ?_ h
 have hb: ¬c<j:=by omega
 by_cases hc:c=0
 ·obtain rfl:j=0:=by omega
  simp[execOp, *,Instr.sliceAt,Instr.slice,Instr.sliceBounds,run_underlying hU,hS,go_sem,Addr.add_lit]
 ·simp[execOp, *,Instr.sliceAt,Instr.slice,Instr.sliceBounds,run_underlying hU,hS,go_sem,Addr.add_lit]
theorem UF {t e:TypeId}{x y:Operand}{n c i:Nat}(hU:P.underlying t=some (.slice e))(hS: ∀w,(sizeOf e).run P w=.ok k w)(hx:ev σ x=.slice (some ⟨g,0,none⟩) n c)
 (hlo:ev σ y=.int .i64 (i:Nat)) (hin:i≤n) (hnc:n≤c) (h:K (.slice (some ⟨g,if c=i then 0 else i*k,none⟩) (n-i) (c-i)) w):opV P ⟨d,.slice t x (some y) none none,ty,pos,af,gd⟩ σ w K:=by
 refine yp (v:=.slice (some ⟨g,if c=i then 0 else i*k,none⟩) (n-i) (c-i)) (w':=w) ?_ h
 have hb: ¬c<n:=by omega
 have hb2: ¬n<i:=by omega
 by_cases hc:c=i
 ·simp[execOp, *,Instr.sliceAt,Instr.slice,Instr.sliceBounds,run_underlying hU,hS,go_sem,Addr.add_lit]
 ·simp[execOp, *,Instr.sliceAt,Instr.slice,Instr.sliceBounds,run_underlying hU,hS,go_sem,Addr.add_lit]
theorem Jn {α:Type}[Rep α]{src:Src α}{G:Nat→Prop}{W:World}{As:List HP}{T:TypeId}{l:List α}{t e:TypeId}{x:Operand}{n c i:Nat}{z:Value}(hU:P.underlying t=some (.slice e))(hv: ∀w,(zeroValue e).run P w=.ok z w)(hz:z.cells.toList.length=Rep.k α)(hz1: ∀u∈z.cells.toList,u.oneCell'=true)
 (h:Sep G W (RowE src T (.slice (some ⟨g,0,none⟩) n c) l::As) w) (hn:l.length=n) (hi:i≤n) (hx:ev σ x=.slice (some ⟨g,if c=i then 0 else i*Rep.k α,none⟩) (n-i) (c-i))
 (hK: ∀w',Sep G W (RowE src T (.slice (some ⟨g,0,none⟩) i c) (l.take i)::As) w'→K (.tuple #[]) w'):opV P ⟨d,.call ⟨.builtin .clear,#[x],#[t]⟩,ty,pos,af,gd⟩ σ w K:=by
 have hkp:0<Rep.k α:=Rep.kpos (α:=α)
 subst hn
 by_cases hni:l.length=i
 ·subst hni
  have hr:(Builtin.clear_ #[t] ty #[.slice (some ⟨g,if c=l.length then 0 else l.length*Rep.k α,none⟩) (l.length-l.length) (c-l.length)]).run P w=.ok (.tuple #[]) w:=by
   rw[Nat.sub_self]
   simp[Builtin.clear_,run_underlying hU,World.setCells]
  refine yp (v:=.tuple #[]) (w':=w) ?_ (hK _ (h.rowCut rfl hi))
  unfold execOp
  simp only[resolve,invoke,builtin,Sem.run_bind,Sem.run_pure,Result.andThen_ok,List.map_toArray,List.map_cons,List.map_nil,hx,hr]
 ·obtain⟨f0,⟨css0,_,hown0,_,_⟩,_⟩:=h.get (i:=0) rfl
  rcases hown0.2 with⟨e0,_⟩|⟨g',cap,cur,e0,_,hb,hnc,hm,hs,ht⟩
  ·cases e0
  cases e0
  have hci: ¬c=i:=by omega
  rw[if_neg hci]at hx
  have hz0:0<z.cells.size:=by rw[←Array.length_toList,hz];exact hkp
  generalize hS:(List.replicate (l.length-i) z.cells.toList).flatten=S
  have hSl:S.length=(l.length-i)*Rep.k α:=by
   rw[←hS,List.length_flatten,List.map_replicate,List.sum_replicate_nat,hz]
  have hS1: ∀u∈S,u.oneCell'=true:=fun u hu=>by
   rw[←hS]at hu
   obtain⟨q,hq,huq⟩:=List.mem_flatten.1 hu
   rw[List.eq_of_mem_replicate hq]at huq
   exact hz1 u huq
  have hcl:cur.toList.length=c*Rep.k α:=by rw[Array.length_toList];exact hs
  have hle:i*Rep.k α+S.length≤cur.toList.length:=by
   rw[hSl,hcl,←Nat.add_mul]
   exact Nat.mul_le_mul_right _ (by omega)
  have hsome: ∀j,j<cur.toList.length→(w.cell? ⟨g,j,none⟩).isSome=true:=fun j hj=>by
   simp only[World.cell?,hb]
   simpa[Array.getElem?_eq_some_iff]using hj
  have hst:=run_storeCells_cells (P:=P) g (i*Rep.k α) S 0 w (fun j hj=>by rw[Nat.add_zero];exact hsome _ (by omega)) (fun j _=>frz9 hb) hS1
  simp only[Nat.add_zero]at hst
  have hr:(Builtin.clear_ #[t] ty #[.slice (some ⟨g,i*Rep.k α,none⟩) (l.length-i) (c-i)]).run P w=.ok (.tuple #[]) (w.setCells g (i*Rep.k α) S):=by
   obtain⟨q,hq⟩: ∃q,l.length-i=q+1:=⟨l.length-i-1,by omega⟩
   rw[hq]at hS⊢
   subst hS
   simp[Builtin.clear_,run_underlying hU,hv,JS _ hz0,hst]
  have hwr:=xN S (i*Rep.k α) w cur hb
  rw[Yo _ _ _ hle]at hwr
  refine yp (v:=.tuple #[]) (w':=w.setCells g (i*Rep.k α) S) ?_ (hK _ (h.upd (i:=0) rfl (fun f hA _=>?_)))
  ·unfold execOp
   simp only[resolve,invoke,builtin,Sem.run_bind,Sem.run_pure,Result.andThen_ok,List.map_toArray,List.map_cons,List.map_nil,hx,hr]
  ·obtain⟨css,hE,hown,hrow,hsm⟩:=hA
   have hfg:f g:=hrow g rfl
   refine⟨(hwr.chg hb).weak (fun b _ hb'=>hb'▸hfg),f,?_,fun b hb'=>.inl hb'⟩
   have hkc: ∀c∈css,c.length=Rep.k α:=fun c hc=>by
    obtain⟨j,hj,rfl⟩:=List.getElem_of_mem hc
    exact src.len (EP.at2 hE j hj (by have:=hE.length;omega))
   have e:(l.take i).length=i:=by rw[List.length_take,Nat.min_eq_left (by omega)]
   refine⟨css.take i,(EP.mono (fun cs x hx=>(src.el cs x).loc hx (fun b hb' hlt=>⟨?_,hb'⟩)) hE).take i,?_,hrow,?_⟩
   ·exact hwr.other b (fun e=>hb'.2 (by rw[e];rfl))
   ·rw[e]
    have h9:=WA hkc hE.length (show i≤l.length by omega) hown
    refine⟨h9.1,.inr ?_⟩
    rcases h9.2 with⟨e9,_⟩|⟨g9,c9,cur9,e9,hg9,hb9,hn9,hm9,hs9,ht9⟩
    ·cases e9
    ·cases e9
     have ec:cur9=cur:=by
      have:=hb9.symm.trans hb
      simp only[Option.some.injEq,Obj.cells.injEq]at this
      exact this.1
     subst ec
     obtain⟨a,ha,hb2⟩:=hwr.at_
     refine⟨g,c,a,rfl,hg9,hb2,hn9,hm9,?_,?_⟩
     ·rw[←Array.length_toList,ha,←hcl,List.length_append,List.length_append,List.length_take,List.length_drop];omega
     ·rw[ha,←ht9,List.append_assoc,List.take_append_of_le_length (by rw[List.length_take];omega),List.take_take,Nat.min_self]
   ·rw[e];exact Nat.le_trans (Nat.mul_le_mul_right _ (by omega)) hsm
end
end
section
open Go.Proofs Go.RowKit
def Zj (s:PtC)(x:PR):HP:=ProjO s.b x.1 x.2
def yx (v:Value)(L:List PR):HP:=ZipW Zj 92 v L
def PtA (s:PtV)(L:List PR):HP:=yx s.v L
def xg (v:Value)(P:List (List PR)):HP:=ZipW PtA 77 v P
def BaseO (b:Nat)(d:Dcl)(every:Nat)(evs:List Ev):HP:=WC (1≤every∧every≤9223372036854775807) (Ex1 fun vt=>Ex1 fun vp=>Ex1 fun ve=>Ex1 fun(yP:Nat)=>Ex1 fun vr=>Ex1 fun vpts=>Star [Blk b #[vt,vp,.int .i64 ((every:Nat):Int),ve,.pointer (some ⟨yP,0,none⟩),vr,vpts] 80,RowE (α:=Typ) own 83 vt d.types,RowE (α:=Prj) own 73 vp d.projs,RowE (α:=Ev) own 55 ve evs,ViewO yP d (zk d evs) (zk d evs),yx vr (prs d evs),xg vpts (yK d every evs)])
section
variable {G:Nat→Prop}{W w:World}{As:List HP}{b every:Nat}{d:Dcl}{evs:List Ev}
theorem Sep.evOk {T:TypeId}{v:Value}(h:Sep G W As w){i:Nat}(hi:As[i]? =some (RowE (α:=Ev) own T v evs)): ∀x∈evs,x.Ok:=fun x hx=>by
 obtain⟨j,hj,rfl⟩:=List.getElem_of_mem hx
 obtain⟨cs,f,_,hr⟩:=h.rowAt hi hj
 obtain⟨_,_,_,ho⟩:=hr
 exact ho
theorem BaseO.open (h:Sep G W (BaseO b d every evs::As) w):(1≤every∧every≤9223372036854775807)∧ ∃vt vp ve yP vr vpts,Sep G W (Blk b #[vt,vp,.int .i64 ((every:Nat):Int),ve,.pointer (some ⟨yP,0,none⟩),vr,vpts] 80::RowE (α:=Typ) own 83 vt d.types::RowE (α:=Prj) own 73 vp d.projs::RowE (α:=Ev) own 55 ve evs::ViewO yP d (zk d evs) (zk d evs)::yx vr (prs d evs)::xg vpts (yK d every evs)::As) w:=by
 obtain⟨h0,h⟩:=h.openAnd
 obtain⟨vt,h⟩:=h.openEx
 obtain⟨vp,h⟩:=h.openEx
 obtain⟨ve,h⟩:=h.openEx
 obtain⟨yP,h⟩:=h.openEx
 obtain⟨vr,h⟩:=h.openEx
 obtain⟨vpts,h⟩:=h.openEx
 exact⟨h0,vt,vp,ve,yP,vr,vpts,h.openStar⟩
theorem BaseO.close {vt vp ve vr vpts:Value}{yP:Nat}(h0:1≤every∧every≤9223372036854775807)(h:Sep G W (Blk b #[vt,vp,.int .i64 ((every:Nat):Int),ve,.pointer (some ⟨yP,0,none⟩),vr,vpts] 80::RowE (α:=Typ) own 83 vt d.types::RowE (α:=Prj) own 73 vp d.projs::RowE (α:=Ev) own 55 ve evs::ViewO yP d (zk d evs) (zk d evs)::yx vr (prs d evs)::xg vpts (yK d every evs)::As) w):Sep G W (BaseO b d every evs::As) w:=by
 have h:=Sep.closeStar (Bs:=[Blk b #[vt,vp,.int .i64 ((every:Nat):Int),ve,.pointer (some ⟨yP,0,none⟩),vr,vpts] 80,RowE (α:=Typ) own 83 vt d.types,RowE (α:=Prj) own 73 vp d.projs,RowE (α:=Ev) own 55 ve evs,ViewO yP d (zk d evs) (zk d evs),yx vr (prs d evs),xg vpts (yK d every evs)]) h
 exact Sep.closeAnd h0 (Sep.closeEx (A:=fun vt=>Ex1 fun vp=>Ex1 fun ve=>Ex1 fun(yP:Nat)=>Ex1 fun vr=>Ex1 fun vpts=>Star [Blk b #[vt,vp,.int .i64 ((every:Nat):Int),ve,.pointer (some ⟨yP,0,none⟩),vr,vpts] 80,RowE (α:=Typ) own 83 vt d.types,RowE (α:=Prj) own 73 vp d.projs,RowE (α:=Ev) own 55 ve evs,ViewO yP d (zk d evs) (zk d evs),yx vr (prs d evs),xg vpts (yK d every evs)]) vt (Sep.closeEx (A:=fun vp=>Ex1 fun ve=>Ex1 fun(yP:Nat)=>Ex1 fun vr=>Ex1 fun vpts=>Star [Blk b #[vt,vp,.int .i64 ((every:Nat):Int),ve,.pointer (some ⟨yP,0,none⟩),vr,vpts] 80,RowE (α:=Typ) own 83 vt d.types,RowE (α:=Prj) own 73 vp d.projs,RowE (α:=Ev) own 55 ve evs,ViewO yP d (zk d evs) (zk d evs),yx vr (prs d evs),xg vpts (yK d every evs)]) vp (Sep.closeEx (A:=fun ve=>Ex1 fun(yP:Nat)=>Ex1 fun vr=>Ex1 fun vpts=>Star [Blk b #[vt,vp,.int .i64 ((every:Nat):Int),ve,.pointer (some ⟨yP,0,none⟩),vr,vpts] 80,RowE (α:=Typ) own 83 vt d.types,RowE (α:=Prj) own 73 vp d.projs,RowE (α:=Ev) own 55 ve evs,ViewO yP d (zk d evs) (zk d evs),yx vr (prs d evs),xg vpts (yK d every evs)]) ve (Sep.closeEx (A:=fun(yP:Nat)=>Ex1 fun vr=>Ex1 fun vpts=>Star [Blk b #[vt,vp,.int .i64 ((every:Nat):Int),ve,.pointer (some ⟨yP,0,none⟩),vr,vpts] 80,RowE (α:=Typ) own 83 vt d.types,RowE (α:=Prj) own 73 vp d.projs,RowE (α:=Ev) own 55 ve evs,ViewO yP d (zk d evs) (zk d evs),yx vr (prs d evs),xg vpts (yK d every evs)]) yP (Sep.closeEx (A:=fun vr=>Ex1 fun vpts=>Star [Blk b #[vt,vp,.int .i64 ((every:Nat):Int),ve,.pointer (some ⟨yP,0,none⟩),vr,vpts] 80,RowE (α:=Typ) own 83 vt d.types,RowE (α:=Prj) own 73 vp d.projs,RowE (α:=Ev) own 55 ve evs,ViewO yP d (zk d evs) (zk d evs),yx vr (prs d evs),xg vpts (yK d every evs)]) vr (Sep.closeEx (A:=fun vpts=>Star [Blk b #[vt,vp,.int .i64 ((every:Nat):Int),ve,.pointer (some ⟨yP,0,none⟩),vr,vpts] 80,RowE (α:=Typ) own 83 vt d.types,RowE (α:=Prj) own 73 vp d.projs,RowE (α:=Ev) own 55 ve evs,ViewO yP d (zk d evs) (zk d evs),yx vr (prs d evs),xg vpts (yK d every evs)]) vpts h))))))
end
theorem zaH {e:Ev}{de0:Value}(hde0:RdS W G de0 e.deps)(oe:e.Ok)(hS0:Sep G W Rs w):Ret Tryz.prog 65 [.agg (e.cells de0).toArray] w (fun r w'=> ∃(v:Value),r=(.agg (e.cells v).toArray:Value)∧Sep G W ((RowE (α:=Int) own 3 v e.deps)::Rs) w'):=by
 have hde0s:_*8≤_:=hde0.small
 refine zn (args:=[.agg (e.cells de0).toArray]) Tryz.func65 rfl rfl ?_
 refine za (R0 fun _=>st (zX (v:=.agg (e.cells de0).toArray) rfl ?_))
 intro w3 b2 n
 refine st (zG Tryz.zeroValue55 ?_)
 intro w7 p o
 have i:=(hS0.new n).new o
 refine zb (za (R0 fun _=>st (xW rfl (st (lD de0 Tryz.isAgg53 rfl (zd (i.b1) rfl) (st (cL Tryz.call85 (Yj (l:=e.deps) (vl:=de0) hde0 i) ?_)))))))
 rintro g w10 ⟨_,rfl,a⟩
 have d:=a.r0
 have hr12s:_*8≤_:=d.2
 refine st (xW rfl (stn (ym (v:=g) (c:=[Iv (e.origin),Iv (e.seq),Iv (e.lam),de0,Iv (e.typ),Iv (e.agg),Iv (e.field),Iv (e.op),Iv (e.arg),Iv (e.key)]) (c':=[Iv (e.origin),Iv (e.seq),Iv (e.lam),g,Iv (e.typ),Iv (e.agg),Iv (e.field),Iv (e.op),Iv (e.arg),Iv (e.key)]) Tryz.sizeOf53 rfl rfl (a.b2) d.1.one rfl rfl ?_)))
 intro w13 j
 have ok15:Ev.Ok e:=⟨(show InR (e.origin)from oe.origin),(show InR (e.seq)from oe.seq),(show InR (e.lam)from oe.lam),(show InR (e.typ)from oe.typ),(show InR (e.agg)from oe.agg),(show InR (e.field)from oe.field),(show InR (e.op)from oe.op),(show InR (e.arg)from oe.arg),(show InR (e.key)from oe.key)⟩
 have f:=a.pt2 j
 refine zb (za (R0 fun _=>st (zh (k:=10) vT nT rfl rfl (zo (f.b2)) (stn (zy (v:=.agg (e.cells g).toArray) (c':=(e.cells g).toArray) nT rfl rfl (f.b1) (yo ⟨rfl,rfl,rfl,d.1.one,rfl,rfl,rfl,rfl,rfl,rfl,zl⟩) yqc rfl ?_)))))
 intro w17 m
 have h:=f.pt1 m
 refine zb (zq (Yd (b:=p) Tryz.results65 vT nT rfl rfl (zo (h.b1)) ?_))
 refine⟨g,rfl,(h.s3_a)⟩
end
section
open Go.Proofs Go.RowKit
theorem el75:Elem Tryz.prog 75 92 1 8:=⟨pT,_,_,rfl,rfl,rfl,rfl,rfl⟩
theorem zbq {b every yP:Nat}{d:Dcl}{evs:List Ev}{vt vp ve vr vpts:Value}{pv:Nat}{vq:Value}{LL:List PR}(hKN:RdS W G (.slice (some ⟨0,0,none⟩) 6 6) kindsL)(hS0:Sep G W ((Blk b #[vt,vp,.int .i64 ((every:Nat):Int),ve,.pointer (some ⟨yP,0,none⟩),vr,vpts] 80)::(RowE (α:=Typ) own 83 vt d.types)::(RowE (α:=Prj) own 73 vp d.projs)::(RowE (α:=Ev) own 55 ve evs)::(yx vq LL)::Rs) w)(hd:DclOk d)(hfew:evs.length≤1000000):Ret Tryz.prog 60 [.pointer (some ⟨b,0,none⟩),.agg #[.pointer (some ⟨pv,0,none⟩),vq]] w (fun r w'=> ∃(nv:Nat) (v2:Value),r=(.agg #[.pointer (some ⟨nv,0,none⟩),v2]:Value)∧Sep G W ((Blk b #[vt,vp,.int .i64 ((every:Nat):Int),ve,.pointer (some ⟨yP,0,none⟩),vr,vpts] 80)::(RowE (α:=Typ) own 83 vt d.types)::(RowE (α:=Prj) own 73 vp d.projs)::(RowE (α:=Ev) own 55 ve evs)::(yx vq LL)::(ViewO nv d (zk d evs) (zk d evs))::(yx v2 LL)::Rs) w'):=by
 let cz:=Blk b #[vt,vp,Iw every,ve,Ix yP 0,vr,vpts] 80
 have hKNs:_*8≤_:=hKN.small
 refine zn (args:=[Ix b 0,.agg #[Ix pv 0,vq]]) Tryz.func60 rfl rfl ?_
 have cu:=hS0.r1
 have hr1s:_*24≤_:=cu.2
 have cv:=hS0.r2
 have hr2s:_*40≤_:=cv.2
 have cw:=hS0.r3
 have hr3s:_*96≤_:=cw.2
 refine za (R0 fun _=>st (zX (v:=.agg #[Ix pv 0,vq]) rfl ?_))
 intro w6 J cx
 let cC:=Blk J #[Ix pv 0,vq] 77
 refine st (zG qT ?_)
 intro ae I cy
 let cA:=Blk I #[.pointer none,(Iz)] 77
 refine zb (za ?_)
 obtain⟨G13,ca,aL,cb,cc⟩:=(((hS0.new cx).new cy).mv3).lend
 have U:=RowE.rd ca
 have hrd19s:_*24≤_:=U.small
 obtain⟨G21,cd,V,ce,cf⟩:=(cb.mv3).lend
 have X:=RowE.rd cd
 have hrd27s:_*40≤_:=X.small
 obtain⟨af,cg,K,ch,ci⟩:=(ce.mv3).lend
 have Y:=RowE.rd cg
 have hrd35s:_*96≤_:=Y.small
 refine WD6 ((fun TT F=>WF [fun vals E=>Sep af ae (F::TT) E,fun vals E=> ∃(e:Nat),(vals 8=(Ix e 0:Value))∧Sep af ae ((ViewO e d (zk d evs) (zk d evs))::F::TT) E,fun vals E=> ∃(p:Nat),(vals 10=(Ix p 0:Value))∧Sep af ae ((Blk p #[.pointer none,(Iz)] 77)::F::TT) E,fun vals E=> ∃(e:Nat) (p:Nat),(vals 8=(Ix e 0:Value))∧(vals 10=(Ix p 0:Value))∧Sep af ae ((Blk p #[.pointer none,(Iz)] 77)::(ViewO e d (zk d evs) (zk d evs))::F::TT) E,fun _ _=>True,fun _ _=>True,fun _ _=>True,fun vals E=> ∃(e:Nat) (p:Nat),(vals 8=(Ix e 0:Value))∧(vals 10=(Ix p 0:Value))∧Sep af ae ((Blk p #[Ix e 0,(Iz)] 77)::(ViewO e d (zk d evs) (zk d evs))::F::TT) E]) (cC::cz::(yx vq LL)::Rs) cA) (AF [Vl 0 (Ix b 0),Vl 1 (Ix b 0),Vl 2 (Ix b 0),Vl 3 (.agg (d.cells vt vp).toArray),Vl 4 (Ix b 0),Vl 5 (Ix b 0),Vl 6 (Ix b 3),Vl 7 ve,fun _=>True,fun vals=> ∀(e:Nat),vals 8=(Ix e 0:Value)→vals 9=(.agg #[Ix e 0,(Iz)]:Value),fun _=>True,fun _=>True]) [[],[0],[0,1],[0,1,2],[],[4],[4,5],[4,5,6],(rg 8),(rg 9),[],(rg 11)] [8,10,11] [[0,2],[0,2],[0,2],[0,2],[0,2],[0,2],[0,2],[0,2],[0,2],[1,3],[0,1],[3]] ch ⟨fun _ _ _ _ _ _=>obl rfl (mV (Ix b 0) dR),fun _ _ _ _ _ aQ=>obl rfl (zm (b:=b) (o:=0) (aQ 0 dc) dR),fun _ _ _ _ _ aR=>obl rfl (XU (aR 1 dc) dR),?_,fun _ _ _ _ _ _=>obl rfl (mV (Ix b 0) dR),fun _ _ _ _ _ aT=>obl rfl (zm (b:=b) (o:=0) (aT 4 dc) dR),fun _ _ _ _ _ aU=>obl rfl (ZS (aU 5 dc) dR),?_,?_,?_,?_,?_,zl⟩ ?_ (hlocA:=xi ⟨dA,dA,dA,dA,dA,dA,dA,dA,dT,fun vals u D h=>fun e P=>(D 9 (.inl rfl)).trans (h e ((D 8 (.inr dc)).symm.trans P)),dT,dT,zl⟩)
 intro cj vals w147 aV ax ay
 have ag:cj∈[0,2]:=aV
 simp only[yA]at ag
 rcases ag with rfl|rfl
 have aW:Sep _ _ _ _:=ax
 refine obl rfl ?_
 have ok153:Dcl.Ok d:=⟨⟩
 exact zh (k:=2) (cs:=[vt,vp]) vR wR rfl (ay 2 dc) (CellsAt.sub (zo (aW.b2)) 0 (cs2:=[vt,vp]) rfl) dR
 obtain⟨p,z,aX⟩:=ax
 refine obl rfl ?_
 have ok156:Dcl.Ok d:=⟨⟩
 exact zh (k:=2) (cs:=[vt,vp]) vR wR rfl (ay 2 dc) (CellsAt.sub (zo (aX.b3)) 0 (cs2:=[vt,vp]) rfl) dR
 intro ck vals w175 aY az aA
 have ah:ck∈[0,2]:=aY
 simp only[yA]at ah
 rcases ah with rfl|rfl
 have aZ:Sep _ _ _ _:=az
 exact obl rfl (lD ve lR (aA 6 dc) (zd (aZ.b2) rfl) dR)
 obtain⟨p,z,ba⟩:=az
 exact obl rfl (lD ve lR (aA 6 dc) (zd (ba.b3) rfl) dR)
 intro cl vals w184 bb aB L
 have ai:cl∈[0,2]:=bb
 simp only[yA]at ai
 rcases ai with rfl|rfl
 have bc:Sep _ _ _ _:=aB
 refine obl rfl ((zW (f:=80) (vals:=[.agg (d.cells vt vp).toArray,ve]) (cap:=[]) rfl (yM ⟨(L 3 dc),(L 7 dc),zl⟩) kY (zcE (d:=d) (l:=evs) (vl:=ve) (zv (zv U V) K) (zv X K) (⟨⟩:Dcl.Ok d) Y (zv (zv (zv hKN aL) V) K) bc hd hfew) ?_))
 rintro _ w192 ⟨e,rfl,bd⟩
 exact fun u D t=>⟨(exiA e (zA D bd)),zl⟩
 obtain⟨p,z,be⟩:=aB
 refine obl rfl ((zW (f:=80) (vals:=[.agg (d.cells vt vp).toArray,ve]) (cap:=[]) rfl (yM ⟨(L 3 dc),(L 7 dc),zl⟩) kY (zcE (d:=d) (l:=evs) (vl:=ve) (zv (zv U V) K) (zv X K) (⟨⟩:Dcl.Ok d) Y (zv (zv (zv hKN aL) V) K) be hd hfew) ?_))
 rintro _ w198 ⟨e,rfl,bf⟩
 exact fun u D t=>⟨(exiA e (exiA p (zA D (zA ((t 10 dc).trans z) (bf.mv1))))),zl⟩
 intro cm vals w202 bg aC hA203
 have aj:cm∈[1,3]:=bg
 simp only[yA]at aj
 rcases aj with rfl|rfl
 obtain⟨e,C,hS206⟩:=aC
 refine obl rfl (zV (parts':=[(0,Ix e 0)]) (v:=.agg #[Ix e 0,(Iz)]) (Za ⟨rfl,C,zl⟩) (by simp+zetaDelta [Instr.build,Instr.fill,go_sem,xA]) (fun u D t=>⟨rfl,?_⟩))
 intro cn P
 rw[t 8 (by decide)]at P;cases C.symm.trans P
 exact D
 obtain⟨e,p,C,z,hS207⟩:=aC
 refine obl rfl (zV (parts':=[(0,Ix e 0)]) (v:=.agg #[Ix e 0,(Iz)]) (Za ⟨rfl,C,zl⟩) (by simp+zetaDelta [Instr.build,Instr.fill,go_sem,xA]) (fun u D t=>⟨rfl,?_⟩))
 intro cn P
 rw[t 8 (by decide)]at P;cases C.symm.trans P
 exact D
 intro co vals w209 bh aD hA210
 have ak:co∈[0,1]:=bh
 simp only[yA]at ak
 rcases ak with rfl|rfl
 have bi:Sep _ _ _ _:=aD
 refine obl rfl ((zG qT ?_))
 intro w216 p bj
 exact fun u D t=>⟨(exiA p (zA D (bi.new bj))),zl⟩
 obtain⟨e,C,bk⟩:=aD
 refine obl rfl ((zG qT ?_))
 intro w221 p bl
 exact fun u D t=>⟨(exiA e (exiA p (zA ((t 8 dc).trans C) (zA D (bk.new bl))))),zl⟩
 intro cp vals w224 bm bn bp
 have al:cp∈[3]:=bm
 simp only[yA]at al
 subst al
 obtain⟨e,p,C,z,aE⟩:=bn
 refine obl rfl ?_
 have cq:vals 9=(.agg #[Ix e 0,(Iz)]:Value):=bp 9 dc e C
 refine(zy (v:=.agg #[Ix e 0,(Iz)]) (c':=#[Ix e 0,(Iz)]) mT z cq (aE.b0) (yo ⟨rfl,rfl,zl⟩) yqc rfl ?_)
 intro w230 bq
 exact fun u D t=>⟨(exiA e (exiA p (zA ((t 8 dc).trans C) (zA ((t 10 dc).trans z) (aE.pt0 bq))))),zl⟩
 intro vals aM br hA235
 obtain⟨e,p,C,z,bs⟩:=br
 let cB:=ViewO e d (zk d evs) (zk d evs)
 refine yg (kv:=[(0,Ix b 0),(1,.agg #[Ix pv 0,vq]),(3,Ix J 0),(4,Ix I 0),(5,Ix p 0)]) ⟨rfl,rfl,rfl,rfl,(by exact z),zl⟩ (fun ρw233=>(zb (za (za ?_))))
 have bt:=ci _ _ bs
 have bu:=cf _ _ bt
 have bv:=cc _ _ bu
 obtain⟨g,Q,bw⟩:=ZipW.open (bv.mv8)
 have R:Sep G W ((RowE (α:=PtC) own 92 vq g)::(Star (Zip Zj g LL))::(RowE (α:=Typ) own 83 vt d.types)::(RowE (α:=Prj) own 73 vp d.projs)::(RowE (α:=Ev) own 55 ve evs)::(Blk p #[Ix e 0,(Iz)] 77)::cB::cA::cC::cz::Rs) aM:=bw
 have Z:=R.r0
 have hr244s:_*8≤_:=Z.2
 refine R0 fun _=>st (YM rfl (st (lD vq rT rfl (zd (R.b8) rfl) (st (zC (n:=g.length) pT rfl Z.1 (st (mV (Iv 0) (zb (zt ?_)))))))))
 have bx:Sep G W ((yx Iz ([]:List PR))::(RowE (α:=PtC) own 92 vq g)::(Star (Zip Zj g LL))::(RowE (α:=Typ) own 83 vt d.types)::(RowE (α:=Prj) own 73 vp d.projs)::(RowE (α:=Ev) own 55 ve evs)::(Blk p #[Ix e 0,(Iz)] 77)::cB::cA::cC::cz::Rs) aM:=ZipW.nil Zj 92 R
 refine zZ (fun mq σ E=> ∃(k:Nat) (vo:Value) (ρ:Env),mq=LL.length-k∧σ=yf ρ [(0,Ix b 0),(3,Ix J 0),(4,Ix I 0),(5,Ix p 0),(19,vq),(20,Iw g.length),(21,Iw k)]∧(k≤LL.length)∧Sep G W ((yx vo (LL.take k))::(RowE (α:=PtC) own 92 vq g)::(Star (Zip Zj g LL))::(RowE (α:=Typ) own 83 vt d.types)::(RowE (α:=Prj) own 73 vp d.projs)::(RowE (α:=Ev) own 55 ve evs)::(Blk p #[Ix e 0,vo] 77)::(ViewO e d (zk d evs) (zk d evs))::(Blk I #[.pointer none,(Iz)] 77)::(Blk J #[Ix pv 0,vq] 77)::(Blk b #[vt,vp,Iw every,ve,Ix yP 0,vr,vpts] 80)::Rs) E) ⟨0,(Iz),_,rfl,sSf,zY _,bx⟩ ?_
 rintro m247 σ248 aw ⟨k,vo,ρl1,rfl,rfl,hkk,M⟩
 let cD:=Ix ((g.getD k default).b) 0
 refine za (R0 fun _=>st (zK (k:=.i64) (a:=((k:Nat):Int)) (b:=((g.length:Nat):Int)) rfl rfl (zb (za ?_))))
 cases N:decide (((k:Nat):Int)<((g.length:Nat):Int))
 have N:=fD N
 have hkn:k=LL.length:=by omega
 rw[hkn,List.take_of_length_le (Nat.le_refl LL.length)]at M
 have O:Sep G W ((yx vq LL)::(yx vo LL)::(RowE (α:=Typ) own 83 vt d.types)::(RowE (α:=Prj) own 73 vp d.projs)::(RowE (α:=Ev) own 55 ve evs)::(Blk p #[Ix e 0,vo] 77)::cB::cA::cC::cz::Rs) aw:=ZipW.mk Q (M.s11_bcadefghijk)
 refine ze rfl (ya (zR (za (R0 fun _=>st (zh (k:=2) mR mT rfl rfl (zo (O.b5)) (stn (zy (v:=.agg #[Ix e 0,vo]) (c':=#[Ix e 0,vo]) mT rfl rfl (O.b7) (yo ⟨rfl,(O.zipSl (A:=Zj) (i:=1) rfl).one,zl⟩) yqc rfl ?_)))))))
 intro w253 bz
 have aF:=O.pt7 bz
 refine zb (zq (Yd (b:=I) Tryz.results60 mR mT rfl rfl (zo (aF.b7)) ?_))
 refine⟨e,vo,rfl,(aF.s10_jcdeagb)⟩
 have N:=tD N
 refine zg rfl (zp (za (zt (za (R0 fun _=>?_)))))
 have bA:k<g.length:=bo
 refine st (zf (k:=1) (i:=k) pT lY rfl Z.1 rfl bA ?_)
 have bB:k<g.length:=bo
 obtain⟨_,_,S,rfl,hpke258⟩:=M.rowAtD (i:=1) (j:=k) rfl bB
 have S:CellsAt _ _ _ [Ix ((g.getD k default).b) 0]:=S
 refine st (lD cD Tryz.isAgg92 rfl (S.get (j:=0) rfl) (st (aS cD (zb ?_))))
 obtain⟨x,am,bC⟩:=ZipW.open M
 have an:Sep G W ((RowE (α:=PtC) own 92 vo x)::(Star (Zip Zj x (LL.take k)))::(RowE (α:=PtC) own 92 vq g)::(Star (Zip Zj g LL))::(RowE (α:=Typ) own 83 vt d.types)::(RowE (α:=Prj) own 73 vp d.projs)::(RowE (α:=Ev) own 55 ve evs)::(Blk p #[Ix e 0,vo] 77)::cB::cA::cC::cz::Rs) aw:=bC
 have bD:=an.r0
 have hr263s:_*8≤_:=bD.2
 have hsn9:x.length=k:=by rw[am,List.length_take];omega
 have bE:Sep G W ((ProjO ((g.getD k default).b) ((LL.getD k default).1) ((LL.getD k default).2))::(Star ((Zip Zj g LL).set k Emp))::(RowE (α:=PtC) own 92 vo x)::(Star (Zip Zj x (LL.take k)))::(RowE (α:=PtC) own 92 vq g)::(RowE (α:=Typ) own 83 vt d.types)::(RowE (α:=Prj) own 73 vp d.projs)::(RowE (α:=Ev) own 55 ve evs)::(Blk p #[Ix e 0,vo] 77)::(ViewO e d (zk d evs) (zk d evs))::(Blk I #[.pointer none,(Iz)] 77)::(Blk J #[Ix pv 0,vq] 77)::(Blk b #[vt,vp,Iw every,ve,Ix yP 0,vr,vpts] 80)::Rs) aw:=ZipW.take Q om (an.mv3)
 refine WD4 ((fun TT F ao aN ap aq ar au av aG=>WF [fun vals E=>Sep G W (F::ao::aN::ap::aq::ar::au::av::aG::TT) E,fun vals E=> ∃(m:Nat),(vals 3=(Ix m 0:Value))∧Sep G W (F::(ProjO m ((LL.getD k default).1) ((LL.getD k default).2))::ao::aN::ap::aq::ar::au::av::aG::TT) E,fun vals E=> ∃(m:Nat) (y:Nat),(vals 3=(Ix m 0:Value))∧(vals 4=((Iy y 1 1):Value))∧Sep G W ((Blk y #[Ix m 0] 92)::F::(ProjO m ((LL.getD k default).1) ((LL.getD k default).2))::ao::aN::ap::aq::ar::au::av::aG::TT) E,fun vals E=> ∃(m:Nat) (y:Nat) (q:Value),(vals 3=(Ix m 0:Value))∧(vals 4=((Iy y 1 1):Value))∧(vals 5=(q:Value))∧Sep G W ((RowE (α:=PtC) own 92 q (x++[(⟨m⟩:PtC)]))::F::(ProjO m ((LL.getD k default).1) ((LL.getD k default).2))::ao::ap::aq::ar::au::av::aG::TT) E,fun vals E=> ∃(m:Nat) (y:Nat) (q:Value),(vals 3=(Ix m 0:Value))∧(vals 4=((Iy y 1 1):Value))∧(vals 5=(q:Value))∧Sep G W ((RowE (α:=PtC) own 92 q (x++[(⟨m⟩:PtC)]))::F::(ProjO m ((LL.getD k default).1) ((LL.getD k default).2))::ao::ap::aq::ar::au::av::(Blk p #[Ix e 0,q] 77)::TT) E]) (cB::cA::cC::cz::Rs) (ProjO ((g.getD k default).b) ((LL.getD k default).1) ((LL.getD k default).2)) (Star ((Zip Zj g LL).set k Emp)) (RowE (α:=PtC) own 92 vo x) (Star (Zip Zj x (LL.take k))) (RowE (α:=PtC) own 92 vq g) (RowE (α:=Typ) own 83 vt d.types) (RowE (α:=Prj) own 73 vp d.projs) (RowE (α:=Ev) own 55 ve evs) (Blk p #[Ix e 0,vo] 77)) (AF [Vl 0 (Ix p 1),Vl 1 vo,Vl 2 cD,fun _=>True,fun _=>True,fun _=>True,Vl 6 (Ix p 1),fun _=>True]) [[],[0],[],[2],[2,3],(rg 5),(rg 6),(rg 7)] [3,4,5,7] [(0,2),(0,2),(0,0),(0,0),(1,1),(2,2),(3,3),(3,3)] bE ⟨fun _ _ _ _ _ _ _=>obl rfl (YM rfl dR),?_,fun _ _ _ _ _ _ _=>obl rfl (mV cD dR),?_,?_,?_,fun _ _ _ _ _ _ _=>obl rfl (YM rfl dR),?_,zl⟩ ?_
 refine fun T _ _ cr ct aa ab=>?_
 have hkk:=UT cr ct
 rcases hkk with rfl|rfl|rfl
 have bF:Sep _ _ _ _:=aa
 exact obl rfl (lD vo rT (ab 0 dc) (zd (bF.b8) rfl) dR)
 obtain⟨m,B,bG⟩:=aa
 exact obl rfl (lD vo rT (ab 0 dc) (zd (bG.b9) rfl) dR)
 obtain⟨m,y,B,H,bH⟩:=aa
 exact obl rfl (lD vo rT (ab 0 dc) (zd (bH.b10) rfl) dR)
 refine ob1 0 fun vals _ (bI:Sep _ _ _ _) bJ=>(obl rfl ((zW (f:=81) (vals:=[Ix ((g.getD k default).b) 0]) (cap:=[]) rfl (yM ⟨(bJ 2 dc),zl⟩) Tryz.call81 (zcr bI) ?_)))
 rintro _ w295 ⟨m,rfl,bK⟩
 exact fun u D t=>⟨(exiA m (zA D bK)),zl⟩
 refine ob1 1 fun _ _ bL _=>?_
 obtain⟨m,B,bM⟩:=bL
 refine obl rfl ((zH (k:=1) (parts':=[(0,Ix m 0)]) (c:=#[Ix m 0]) pT lY Tryz.zeroValue92 dc (Za ⟨rfl,B,zl⟩) kr ?_))
 intro w307 y bN
 exact fun u D t=>⟨(exiA m (exiA y (zA ((t 3 dc).trans B) (zA D (bM.new bN))))),zl⟩
 refine ob1 2 fun _ _ bO bP=>?_
 obtain⟨m,y,B,H,aH⟩:=bO
 refine obl rfl ?_
 have aO:=aH.b0
 refine(yq (src:=own) (bytes:=8) (x1:=(⟨m⟩:PtC)) ((aH.s15_ebcdfghijklmno).emp1) el75 (bP 1 (by decide)) H aO (fun _ _ _=>(show _ from⟨rfl,⟨⟩⟩)) yqb rfl ?_)
 intro q w318 aI
 have bQ:=aI.r0
 have hr324s:_*8≤_:=bQ.2
 exact fun u D t=>⟨(exiA m (exiA y (exiA q (zA ((t 3 dc).trans B) (zA ((t 4 dc).trans H) (zA D aI)))))),zl⟩
 refine ob1 3 fun _ _ bR bS=>?_
 obtain⟨m,y,q,B,H,ac,ad⟩:=bR
 refine obl rfl ?_
 have aJ:=ad.r0
 have hr342s:_*8≤_:=aJ.2
 refine(ym (v:=q) (c:=[Ix e 0,vo]) (c':=[Ix e 0,q]) Tryz.sizeOf75 (bS 6 dc) ac (ad.b9) aJ.1.one rfl rfl ?_)
 intro w340 bT
 exact fun u D t=>⟨(exiA m (exiA y (exiA q (zA ((t 3 dc).trans B) (zA ((t 4 dc).trans H) (zA ((t 5 dc).trans ac) (ad.pt9 bT))))))),zl⟩
 intro vals aP bU hA376
 obtain⟨m,y,q,B,H,ac,bV⟩:=bU
 refine yg (kv:=[(0,Ix b 0),(3,Ix J 0),(4,Ix I 0),(5,Ix p 0),(19,vq),(20,Iw g.length),(21,Iw k),(22,.bool true),(23,Ix (sb vq) (so vq+k*1)),(24,Ix ((g.getD k default).b) 0),(7,Ix ((g.getD k default).b) 0)]) sEv (fun ρw374=>(zb ?_))
 have bW:Sep G W ((Star (Zip Zj g LL))::(RowE (α:=PtC) own 92 q (x++[(⟨m⟩:PtC)]))::(ProjO m ((LL.getD k default).1) ((LL.getD k default).2))::(Star (Zip Zj x (LL.take k)))::(RowE (α:=PtC) own 92 vq g)::(RowE (α:=Typ) own 83 vt d.types)::(RowE (α:=Prj) own 73 vp d.projs)::(RowE (α:=Ev) own 55 ve evs)::(Blk p #[Ix e 0,q] 77)::(ViewO e d (zk d evs) (zk d evs))::(Blk I #[.pointer none,(Iz)] 77)::(Blk J #[Ix pv 0,vq] 77)::(Blk b #[vt,vp,Iw every,ve,Ix yP 0,vr,vpts] 80)::Rs) aP:=ZipW.back (i:=k) Q om (bV.s14_bdacefghijklmn)
 have bX:Sep G W ((yx q ((LL.take k)++[(LL.getD k default)]))::(Star (Zip Zj g LL))::(RowE (α:=PtC) own 92 vq g)::(RowE (α:=Typ) own 83 vt d.types)::(RowE (α:=Prj) own 73 vp d.projs)::(RowE (α:=Ev) own 55 ve evs)::(Blk p #[Ix e 0,q] 77)::cB::cA::cC::cz::Rs) aP:=ZipW.snoc (s:=(⟨m⟩:PtC)) (c:=(LL.getD k default)) am (bW.s13_bdcaefghijklm)
 refine R0 fun _=>?_
 have bY:InR ((k+1:Nat):Int):=bo
 refine st (zO (r:=((k+1:Nat):Int)) (k:=.i64) (a:=((k:Nat):Int)) (b:=1) rfl rfl (by rw[show(((k:Nat):Int)+1:Int)=((k+1:Nat):Int)from bo];exact zw bY) (st (mV (Iw (k+1)) (zb ?_))))
 have aK:=bX.s11_acbdefghijk
 have bZ:LL.take (k+1)=((LL.take k)++[(LL.getD k default)]):=(List.take_getD om)
 rw[←bZ]at aK
 exact⟨_,by omega,k+1,q,_,rfl,sSf,by omega,aK⟩
theorem el78:Elem Tryz.prog 78 77 2 32:=⟨nR,_,_,rfl,rfl,rfl,rfl,rfl⟩
theorem zaG {b every yP:Nat}{d:Dcl}{evs:List Ev}{vt vp ve vr vpts:Value}{LL:List PR}{PL:List (List PR)}(hKN:RdS W G (.slice (some ⟨0,0,none⟩) 6 6) kindsL)(hS0:Sep G W ((Blk b #[vt,vp,.int .i64 ((every:Nat):Int),ve,.pointer (some ⟨yP,0,none⟩),vr,vpts] 80)::(RowE (α:=Typ) own 83 vt d.types)::(RowE (α:=Prj) own 73 vp d.projs)::(RowE (α:=Ev) own 55 ve evs)::(yx vr LL)::(xg vpts PL)::Rs) w)(hd:DclOk d)(hfew:evs.length≤1000000)(hpe:PL.length*every≤9223372036854775807)(hev1:1≤every):Ret Tryz.prog 38 [.pointer (some ⟨b,0,none⟩)] w (fun r w'=> ∃(vpts2:Value),r=(.tuple #[]:Value)∧Sep G W ((Blk b #[vt,vp,.int .i64 ((every:Nat):Int),ve,.pointer (some ⟨yP,0,none⟩),vr,vpts2] 80)::(RowE (α:=Typ) own 83 vt d.types)::(RowE (α:=Prj) own 73 vp d.projs)::(RowE (α:=Ev) own 55 ve evs)::(yx vr LL)::(xg vpts2 (YH (evs).length every PL LL))::Rs) w'):=by
 let aS:=Blk b #[vt,vp,Iw every,ve,Ix yP 0,vr,vpts] 80
 have hKNs:_*8≤_:=hKN.small
 refine zn (args:=[Ix b 0]) Tryz.func38 rfl rfl ?_
 have bd:=hS0.r1
 have hr1s:_*24≤_:=bd.2
 have be:=hS0.r2
 have hr2s:_*40≤_:=be.2
 have aW:=hS0.r3
 have hr3s:_*96≤_:=aW.2
 refine za ?_
 obtain⟨h,x,bf⟩:=ZipW.open (hS0.mv5)
 have Z:Sep G W ((RowE (α:=PtV) own 77 vpts h)::(Star (Zip PtA h PL))::aS::(RowE (α:=Typ) own 83 vt d.types)::(RowE (α:=Prj) own 73 vp d.projs)::(RowE (α:=Ev) own 55 ve evs)::(yx vr LL)::Rs) w:=bf
 have aX:=Z.r0
 have hr8s:_*32≤_:=aX.2
 have hpe9:h.length*every≤9223372036854775807:=by rw[x];exact hpe
 refine WD4 (WF [fun vals y=>Sep G W ((RowE (α:=PtV) own 77 vpts h)::(Star (Zip PtA h PL))::aS::(RowE (α:=Typ) own 83 vt d.types)::(RowE (α:=Prj) own 73 vp d.projs)::(RowE (α:=Ev) own 55 ve evs)::(yx vr LL)::Rs) y]) (AF [Vl 0 (Ix b 0),Vl 1 (Ix b 0),Vl 2 (Ix b 3),Vl 3 ve,Vl 4 (Iw evs.length),Vl 5 (Ix b 0),Vl 6 (Ix b 0),Vl 7 (Ix b 6),Vl 8 vpts,Vl 9 (Iw h.length),Vl 10 (Ix b 0),Vl 11 (Ix b 0),Vl 12 (Ix b 2),Vl 13 (Iw every),Vl 14 (Iw (h.length*every)),Vl 15 (.bool (decide (((evs.length:Nat):Int)=((h.length*every:Nat):Int))))]) [[],[0],[0,1],[0,1,2],(rg 4),[],[5],[5,6],[5,6,7],[5,6,7,8],[],[10],[10,11],[10,11,12],[5,6,7,8,9,10,11,12,13],(rg 15)] [] [(0,0),(0,0),(0,0),(0,0),(0,0),(0,0),(0,0),(0,0),(0,0),(0,0),(0,0),(0,0),(0,0),(0,0),(0,0),(0,0)] Z ⟨fun _ _ _ _ _ _ _=>obl rfl (mV (Ix b 0) dR),fun _ _ _ _ _ _ ac=>obl rfl (zm (b:=b) (o:=0) (ac 0 dc) dR),fun _ _ _ _ _ _ ad=>obl rfl (ZS (ad 1 dc) dR),ob1 0 fun _ _ (ae:Sep _ _ _ _) af=>obl rfl (lD ve lR (af 2 dc) (zd (ae.b2) rfl) dR),ob1 0 fun _ _ _ ag=>obl rfl (zC (n:=evs.length) Tryz.underlying26 (ag 3 dc) aW.1 dR),fun _ _ _ _ _ _ _=>obl rfl (mV (Ix b 0) dR),fun _ _ _ _ _ _ ah=>obl rfl (zm (b:=b) (o:=0) (ah 5 dc) dR),fun _ _ _ _ _ _ ai=>obl rfl (Xw (ai 6 dc) dR),ob1 0 fun _ _ (aj:Sep _ _ _ _) ak=>obl rfl (lD vpts sT (ak 7 dc) (zd (aj.b2) rfl) dR),ob1 0 fun _ _ _ al=>obl rfl (zC (n:=h.length) nR (al 8 dc) aX.1 dR),fun _ _ _ _ _ _ _=>obl rfl (mV (Ix b 0) dR),fun _ _ _ _ _ _ am=>obl rfl (zm (b:=b) (o:=0) (am 10 dc) dR),fun _ _ _ _ _ _ an=>obl rfl (Kx (an 11 dc) dR),ob1 0 fun _ _ (ao:Sep _ _ _ _) ap=>obl rfl (lD (Iw every) lT (ap 12 dc) (zd (ao.b2) rfl) dR),?_,ob1 0 fun _ _ _ O=>obl rfl (zS (k:=.i64) (a:=((evs.length:Nat):Int)) (b:=((h.length*every:Nat):Int)) (O 4 dc) (O 14 dc) dR),zl⟩ ?_
 refine ob1 0 fun _ _ _ P=>(obl rfl ?_)
 have aq:InR ((h.length*every:Nat):Int):=bo
 exact Uw (r:=((h.length*every:Nat):Int)) (k:=.i64) (a:=((h.length:Nat):Int)) (b:=((every:Nat):Int)) (P 9 (by decide)) (P 13 (by decide)) (by rw[show(((h.length:Nat):Int)*((every:Nat):Int):Int)=((h.length*every:Nat):Int)from bo];exact zw aq) dR
 intro vals aY ar au
 have Q:Sep _ _ _ _:=ar
 have aZ:=au 15 dc
 refine yg (kv:=[(0,Ix b 0),(17,.bool (decide (((evs.length:Nat):Int)=((h.length*every:Nat):Int))))]) ⟨rfl,(by exact aZ),zl⟩ (fun ρw247=>(zb ?_))
 cases q:decide (((evs.length:Nat):Int)=((h.length*every:Nat):Int))
 have hc252r:=q
 have q:=fD q
 refine ze rfl (zp (Xe mY ?_))
 have R:Sep G W ((xg vpts PL)::aS::(RowE (α:=Typ) own 83 vt d.types)::(RowE (α:=Prj) own 73 vp d.projs)::(RowE (α:=Ev) own 55 ve evs)::(yx vr LL)::Rs) aY:=ZipW.mk x Q
 have N:PL=(YH evs.length every PL LL):=by unfold YH;rw[ifnC (by rw[←x];omega)]
 rw[show xg vpts PL=xg vpts (YH evs.length every PL LL)from congrArg _ N]at R
 refine⟨vpts,rfl,(R.s6_bcdefa)⟩
 have q:=tD q
 have hpl9:h.length≤1000000:=by have h9:=Nat.le_mul_of_pos_right h.length (show 0<every by omega);omega
 refine zg rfl ?_
 refine WD4 ((fun aa I S J K L M=>WF [fun vals y=>Sep G W (aa::I::S::J::K::L::M::Rs) y,fun vals y=> ∃(e:Nat) (g:Value),(vals 10=(.agg #[Ix e 0,g]:Value))∧Sep G W (S::J::K::L::M::(ViewO e d (zk d evs) (zk d evs))::(yx g LL)::aa::I::Rs) y,fun vals y=> ∃(e:Nat) (g:Value) (l:Nat),(vals 10=(.agg #[Ix e 0,g]:Value))∧(vals 11=((Iy l 1 1):Value))∧Sep G W ((Blk l #[Ix e 0,g] 77)::S::J::K::L::M::(ViewO e d (zk d evs) (zk d evs))::(yx g LL)::aa::I::Rs) y,fun vals y=> ∃(e:Nat) (g:Value) (l:Nat) (j:Value),(vals 10=(.agg #[Ix e 0,g]:Value))∧(vals 11=((Iy l 1 1):Value))∧(vals 12=(j:Value))∧Sep G W ((RowE (α:=PtV) own 77 j (h++[(⟨e,g⟩:PtV)]))::S::J::K::L::M::(ViewO e d (zk d evs) (zk d evs))::(yx g LL)::I::Rs) y,fun vals y=> ∃(e:Nat) (g:Value) (l:Nat) (j:Value),(vals 10=(.agg #[Ix e 0,g]:Value))∧(vals 11=((Iy l 1 1):Value))∧(vals 12=(j:Value))∧Sep G W ((RowE (α:=PtV) own 77 j (h++[(⟨e,g⟩:PtV)]))::(Blk b #[vt,vp,Iw every,ve,Ix yP 0,vr,j] 80)::J::K::L::M::(ViewO e d (zk d evs) (zk d evs))::(yx g LL)::I::Rs) y]) (RowE (α:=PtV) own 77 vpts h) (Star (Zip PtA h PL)) aS (RowE (α:=Typ) own 83 vt d.types) (RowE (α:=Prj) own 73 vp d.projs) (RowE (α:=Ev) own 55 ve evs) (yx vr LL)) (AF [Vl 0 (Ix b 0),Vl 1 (Ix b 0),Vl 2 (Ix b 0),Vl 3 (Ix b 6),Vl 4 vpts,Vl 5 (Ix b 0),Vl 6 (Ix b 0),Vl 7 (Ix b 0),Vl 8 (Ix b 4),Vl 9 (.agg #[Ix yP 0,vr]),fun _=>True,fun _=>True,fun _=>True,Vl 13 (Ix b 0),Vl 14 (Ix b 6),fun _=>True]) [[],[],[1],[1,2],[1,2,3],[],[],[6],[6,7],[6,7,8],[5,6,7,8,9],[5,6,7,8,9,10],[1,2,3,4,5,6,7,8,9,10,11],(rg 13),(rg 14),(rg 15)] [10,11,12,15] [(0,3),(0,2),(0,2),(0,2),(0,2),(0,0),(0,0),(0,0),(0,0),(0,0),(0,0),(1,1),(2,2),(3,3),(3,3),(3,3)] Q ⟨fun _ _ _ _ _ _ _=>obl rfl (mV (Ix b 0) dR),fun _ _ _ _ _ _ _=>obl rfl (mV (Ix b 0) dR),fun _ _ _ _ _ _ av=>obl rfl (zm (b:=b) (o:=0) (av 1 dc) dR),fun _ _ _ _ _ _ aw=>obl rfl (Xw (aw 2 dc) dR),?_,fun _ _ _ _ _ _ _=>obl rfl (mV (Ix b 0) dR),fun _ _ _ _ _ _ _=>obl rfl (mV (Ix b 0) dR),fun _ _ _ _ _ _ ax=>obl rfl (zm (b:=b) (o:=0) (ax 6 dc) dR),fun _ _ _ _ _ _ ay=>obl rfl (Zw (ay 7 dc) dR),ob1 0 fun _ _ (az:Sep _ _ _ _) aA=>obl rfl (zh (k:=2) (cs:=[Ix yP 0,vr]) mR mT rfl (aA 8 dc) (CellsAt.sub (zo (az.b2)) 4 (cs2:=[Ix yP 0,vr]) rfl) dR),?_,?_,?_,fun _ _ _ _ _ _ aB=>obl rfl (zm (b:=b) (o:=0) (aB 0 dc) dR),fun _ _ _ _ _ _ aC=>obl rfl (Xw (aC 13 dc) dR),?_,zl⟩ ?_
 refine fun z _ _ ba bb B C=>?_
 have hkk:=UT ba bb
 rcases hkk with rfl|rfl|rfl
 have aD:Sep _ _ _ _:=B
 exact obl rfl (lD vpts sT (C 3 dc) (zd (aD.b2) rfl) dR)
 obtain⟨e,g,m,aE⟩:=B
 exact obl rfl (lD vpts sT (C 3 dc) (zd (aE.b0) rfl) dR)
 obtain⟨e,g,l,m,p,aF⟩:=B
 exact obl rfl (lD vpts sT (C 3 dc) (zd (aF.b1) rfl) dR)
 refine ob1 0 fun vals _ (aG:Sep _ _ _ _) T=>(obl rfl ((zW (f:=60) (vals:=[Ix b 0,.agg #[Ix yP 0,vr]]) (cap:=[]) rfl (yM ⟨(T 5 dc),(T 9 dc),zl⟩) Tryz.call60 (zbq hKN (aG.s7_cdefgab) hd hfew) ?_)))
 rintro _ w335 ⟨e,g,rfl,u⟩
 have aH:=u.r1
 have hr337s:_*24≤_:=aH.2
 have aI:=u.r2
 have hr338s:_*40≤_:=aI.2
 have aJ:=u.r3
 have hr339s:_*96≤_:=aJ.2
 exact fun D Y t=>⟨(exiA e (exiA g (zA Y u))),zl⟩
 refine ob1 1 fun _ _ aK _=>?_
 obtain⟨e,g,m,aL⟩:=aK
 refine obl rfl ((zH (k:=2) (parts':=[(0,.agg #[Ix e 0,g])]) (c:=#[Ix e 0,g]) nR mT qT dc (Za ⟨rfl,m,zl⟩) kr ?_))
 intro w350 l aM
 exact fun D Y t=>⟨(exiA e (exiA g (exiA l (zA ((t 10 dc).trans m) (zA Y (aL.new aM)))))),zl⟩
 refine ob1 2 fun _ _ aN aO=>?_
 obtain⟨e,g,l,m,p,E⟩:=aN
 refine obl rfl ?_
 have ab:=E.b0
 refine(yq (src:=own) (bytes:=32) (x1:=(⟨e,g⟩:PtV)) ((E.s10_ibcdefghj).emp1) el78 (aO 4 (by decide)) p ab (fun _ _ _=>(show _ from⟨rfl,⟨(E.zipSl (A:=Zj) (i:=7) rfl).one⟩⟩)) yqb rfl ?_)
 intro j w361 U
 have aP:=U.r0
 have hr367s:_*32≤_:=aP.2
 exact fun D Y t=>⟨(exiA e (exiA g (exiA l (exiA j (zA ((t 10 dc).trans m) (zA ((t 11 dc).trans p) (zA Y U))))))),zl⟩
 refine ob1 3 fun _ _ aQ aR=>?_
 obtain⟨e,g,l,j,m,p,F,H⟩:=aQ
 refine obl rfl ?_
 have V:=H.r0
 have hr393s:_*32≤_:=V.2
 refine(ym (v:=j) (c:=[vt,vp,Iw every,ve,Ix yP 0,vr,vpts]) (c':=[vt,vp,Iw every,ve,Ix yP 0,vr,j]) Tryz.sizeOf78 (aR 14 dc) F (H.b1) V.1.one rfl rfl ?_)
 intro w391 aT
 exact fun D Y t=>⟨(exiA e (exiA g (exiA l (exiA j (zA ((t 10 dc).trans m) (zA ((t 11 dc).trans p) (zA ((t 12 dc).trans F) (H.pt1 aT)))))))),zl⟩
 intro vals bc aU hA483
 obtain⟨e,g,l,j,m,p,F,aV⟩:=aU
 refine yg (kv:=[(0,Ix b 0),(17,.bool true)]) sEv (fun ρw481=>(zb (Xe mY ?_)))
 have X:Sep G W ((xg j (PL++[LL]))::(Blk b #[vt,vp,Iw every,ve,Ix yP 0,vr,j] 80)::(RowE (α:=Typ) own 83 vt d.types)::(RowE (α:=Prj) own 73 vp d.projs)::(RowE (α:=Ev) own 55 ve evs)::(yx vr LL)::(ViewO e d (zk d evs) (zk d evs))::Rs) bc:=ZipW.snoc (s:=(⟨e,g⟩:PtV)) (c:=LL) x (aV.s9_aihbcdefg)
 have N:(PL++[LL])=(YH evs.length every PL LL):=by unfold YH;rw[ifpC (by rw[←x];omega)]
 rw[N]at X
 refine⟨j,rfl,(X.s7_bcdefa)⟩
end
end Go.Proofs.YtpdolkiohjdodaaGreatDoor
