import Derived.Test.YtpdolkiohjdodaaGreatDoorM5
set_option maxRecDepth 8000
set_option maxHeartbeats 4000000
set_option linter.unusedSimpArgs false
set_option linter.unusedVariables false
set_option linter.unusedSectionVars false
set_option linter.deprecated false
open Go.Proofs.Tryz renaming isAgg3→kT,sizeOf55→lT,sizeOf83→mT,sizeOf52→nT,isAgg55→oT,isAgg52→pT,sizeOf193→qT,isAgg193→rT,isAgg46→sT,underlying22→tT,isAgg83→uT,underlying81→vT,sizeOf87→wT,sizeOf25→kR,isAgg22→lR,results116→mR,zeroValue48→nR,sizeOf48→oR,isAgg25→pR,zeroValue83→qR,underlying26→rR,sizeOf158→sR,isAgg115→tR,isAgg135→uR,sizeOf135→vR,results82→wR,isAgg53→kY,results117→lY,results96→mY,zeroValue55→nY,underlying23→oY,underlying42→pY,underlying46→qY,isAgg116→rY,isAgg158→sY,underlying115→tY,underlying53→uY,results140→vY,call127→wY,zeroValue193→kA,isAgg87→lA,call85→mA,sizeOf53→nA,results33→pA,results34→qA,results66→rA,sizeOf46→sA,isAgg48→tA,sizeOf105→uA,zeroValue25→vA,isAgg81→wA,zeroValue158→kB,underlying116→lB,zeroValue26→mB
namespace Go.Proofs.YtpdolkiohjdodaaGreatDoor
variable {G:Nat→Prop}{W w:World}{Rs:List HP}
section
open Go.Proofs Go.RowKit
theorem Qw (a b c d:Int):(decide (a=c∧b=d))=(a== c&&b== d):=by
 by_cases h1:a=c<;>by_cases h2:b=d<;>simp[h1,h2]
theorem ck3 (w:World)(e:Bool)(n:Nat)(a:Int):(Instr.checkKey e (n+1) 3 (.int .i64 a)).run Tryz.prog w=.ok () w:=MapKept.run_checkKey Tryz.underlying3 (show MapKept.IsKey (.int .i64) (.int .i64 a)from rfl) e n
def Zv (k:Int×Int):Value:=.agg #[.int .i64 k.1,.int .i64 k.2]
def Zr (k:Int×Int×Int):Value:=.agg #[.int .i64 k.1,.int .i64 k.2.1,.int .i64 k.2.2]
theorem K2:KLaw Tryz.prog 135 Zv where
 inj:=by
  rintro⟨a,b⟩ ⟨c,d⟩ h
  simp only[Zv,Value.agg.injEq,Array.mk.injEq,List.cons.injEq,Value.int.injEq,true_and,and_true]at h
  rw[h.1,h.2]
 desc:=⟨_,Tryz.underlying135,fun _ _=>rfl⟩
 check:=by
  intro w e k
  show(Instr.checkKey e 10000 135 (.agg #[.int .i64 k.1,.int .i64 k.2])).run Tryz.prog w=.ok () w
  rw[show(10000:Nat)=9998+1+1 from rfl,Instr.checkKey]
  simp[go_sem,ck3]
 eql:=by
  rintro w ⟨a,b⟩ ⟨c,d⟩
  rw[show decide ((a,b)=(c,d))=(a== c&&b== d) by rw[←Qw];simp]
  unfold Op.equal Op.maxDepth Zv
  simp[go_sem]
  by_cases h1:a=c<;>by_cases h2:b=d<;>simp[h1,h2]
 stays:=by intro k;simp[Instr.sameBits,Zv]
theorem K3:KLaw Tryz.prog 158 Zr where
 inj:=by
  rintro⟨a,b,c⟩ ⟨d,e,f⟩ h
  simp only[Zr,Value.agg.injEq,Array.mk.injEq,List.cons.injEq,Value.int.injEq,true_and,and_true]at h
  rw[h.1,h.2.1,h.2.2]
 desc:=⟨_,Tryz.underlying158,fun _ _=>rfl⟩
 check:=by
  intro w e k
  show(Instr.checkKey e 10000 158 (.agg #[.int .i64 k.1,.int .i64 k.2.1,.int .i64 k.2.2])).run Tryz.prog w=.ok () w
  rw[show(10000:Nat)=9997+1+1+1 from rfl,Instr.checkKey]
  simp[go_sem,ck3]
  rw[Instr.checkKey]
  simp[go_sem,ck3]
 eql:=by
  rintro w ⟨a,b,c⟩ ⟨d,e,f⟩
  rw[show decide ((a,b,c)=(d,e,f))=(a== d&&b== e&&c== f) by by_cases h1:a=d<;>by_cases h2:b=e<;>by_cases h3:c=f<;>simp[h1,h2,h3]]
  unfold Op.equal Op.maxDepth Zr
  simp[go_sem]
  by_cases h1:a=d<;>by_cases h2:b=e<;>by_cases h3:c=f<;>simp[h1,h2,h3]
 stays:=by intro k;simp[Instr.sameBits,Zr]
def E1 (v:Value)(x:Nat×List Cel):HP:=⟨fun w f=> ∃vc,v=.agg #[.int .i64 ((x.1:Nat):Int),vc]∧(RowE (α:=Cel) own 105 vc x.2).p w f,fun h hf=>by
 obtain⟨vc,h1,h2⟩:=h
 exact⟨vc,h1,HP.loc _ h2 hf⟩⟩
def E2 (v:Value)(l:List Ev):HP:=RowE (α:=Ev) own 55 v l
def QD:Value:=.agg #[.int .i64 0,.slice none 0 0]
def ViewO (b:Nat)(d:Dcl)(L M:List Ent):HP:=Ex1 fun vt=>Ex1 fun vp=>Ex1 fun ve=>Ex1 fun m1=>Ex1 fun m2=>Star [Blk b #[vt,vp,ve,.map (some m1),.map (some m2)] 118,RowE (α:=Typ) own 83 vt d.types,RowE (α:=Prj) own 73 vp d.projs,RowE (α:=Ent) own 57 ve L,xk Zv E1 m1 (zj d M),xk Zr E2 m2 (yN M)]
section
variable {G:Nat→Prop}{W w:World}{As:List HP}{b:Nat}{d:Dcl}{L M:List Ent}
theorem ViewO.open (h:Sep G W (ViewO b d L M::As) w): ∃vt vp ve m1 m2,Sep G W (Blk b #[vt,vp,ve,.map (some m1),.map (some m2)] 118::RowE (α:=Typ) own 83 vt d.types::RowE (α:=Prj) own 73 vp d.projs::RowE (α:=Ent) own 57 ve L::xk Zv E1 m1 (zj d M)::xk Zr E2 m2 (yN M)::As) w:=by
 obtain⟨vt,h⟩:=h.openEx
 obtain⟨vp,h⟩:=h.openEx
 obtain⟨ve,h⟩:=h.openEx
 obtain⟨m1,h⟩:=h.openEx
 obtain⟨m2,h⟩:=h.openEx
 exact⟨vt,vp,ve,m1,m2,h.openStar⟩
theorem ViewO.close {vt vp ve:Value}{m1 m2:Nat}(h:Sep G W (Blk b #[vt,vp,ve,.map (some m1),.map (some m2)] 118::RowE (α:=Typ) own 83 vt d.types::RowE (α:=Prj) own 73 vp d.projs::RowE (α:=Ent) own 57 ve L::xk Zv E1 m1 (zj d M)::xk Zr E2 m2 (yN M)::As) w):Sep G W (ViewO b d L M::As) w:=by
 have h:=Sep.closeStar (Bs:=[Blk b #[vt,vp,ve,.map (some m1),.map (some m2)] 118,RowE (α:=Typ) own 83 vt d.types,RowE (α:=Prj) own 73 vp d.projs,RowE (α:=Ent) own 57 ve L,xk Zv E1 m1 (zj d M),xk Zr E2 m2 (yN M)]) h
 exact Sep.closeEx (A:=fun vt=>Ex1 fun vp=>Ex1 fun ve=>Ex1 fun m1=>Ex1 fun m2=>Star [Blk b #[vt,vp,ve,.map (some m1),.map (some m2)] 118,RowE (α:=Typ) own 83 vt d.types,RowE (α:=Prj) own 73 vp d.projs,RowE (α:=Ent) own 57 ve L,xk Zv E1 m1 (zj d M),xk Zr E2 m2 (yN M)]) vt (Sep.closeEx (A:=fun vp=>Ex1 fun ve=>Ex1 fun m1=>Ex1 fun m2=>Star [Blk b #[vt,vp,ve,.map (some m1),.map (some m2)] 118,RowE (α:=Typ) own 83 vt d.types,RowE (α:=Prj) own 73 vp d.projs,RowE (α:=Ent) own 57 ve L,xk Zv E1 m1 (zj d M),xk Zr E2 m2 (yN M)]) vp (Sep.closeEx (A:=fun ve=>Ex1 fun m1=>Ex1 fun m2=>Star [Blk b #[vt,vp,ve,.map (some m1),.map (some m2)] 118,RowE (α:=Typ) own 83 vt d.types,RowE (α:=Prj) own 73 vp d.projs,RowE (α:=Ent) own 57 ve L,xk Zv E1 m1 (zj d M),xk Zr E2 m2 (yN M)]) ve (Sep.closeEx (A:=fun m1=>Ex1 fun m2=>Star [Blk b #[vt,vp,ve,.map (some m1),.map (some m2)] 118,RowE (α:=Typ) own 83 vt d.types,RowE (α:=Prj) own 73 vp d.projs,RowE (α:=Ent) own 57 ve L,xk Zv E1 m1 (zj d M),xk Zr E2 m2 (yN M)]) m1 (Sep.closeEx (A:=fun m2=>Star [Blk b #[vt,vp,ve,.map (some m1),.map (some m2)] 118,RowE (α:=Typ) own 83 vt d.types,RowE (α:=Prj) own 73 vp d.projs,RowE (α:=Ent) own 57 ve L,xk Zv E1 m1 (zj d M),xk Zr E2 m2 (yN M)]) m2 h))))
theorem zaB {v:Value}{k:Int×Int×Int}(h:Sep G W (Wc E2 v (yN M k)::As) w)(hv:yN M k=none→v=.slice none 0 0):Sep G W (RowE (α:=Ev) own 55 v (yB k M)::As) w:=by
 refine h.impl (i:=0) rfl (fun f hA=>?_)
 unfold yN at hA hv
 split at hA
 ·rename_i he
  rw[if_pos he]at hv
  rw[hv rfl,List.isEmpty_iff.1 he]
  exact RowE.nil _ _ _ _
 ·exact hA
theorem VV {v:Value}{k:Int×Int×Int}(h:Sep G W (RowE (α:=Ev) own 55 v (yB k M)::As) w):Sep G W (Wc E2 v (yN M k)::As) w:=by
 refine h.impl (i:=0) rfl (fun f hA=>?_)
 unfold yN
 split
 ·exact trivial
 ·exact hA
def stL (d:Dcl)(k:Int×Int)(M:List Ent):List Cel:=if yw k M=0 then[]else yu d k M
theorem Ug {v:Value}{k:Int×Int}(h:Sep G W (Wc E1 v (zj d M k)::As) w)(hv:zj d M k=none→v=QD): ∃vc,v=.agg #[.int .i64 ((yw k M:Nat):Int),vc]∧Sep G W (RowE (α:=Cel) own 105 vc (stL d k M)::As) w:=by
 unfold zj at h hv
 unfold stL
 by_cases he:yw k M=0
 ·rw[if_pos he]at hv h
  rw[if_pos he]
  refine⟨.slice none 0 0,by rw[hv rfl,he];rfl,h.impl (i:=0) rfl (fun f _=>RowE.nil _ _ _ _)⟩
 ·rw[if_neg he]at h
  rw[if_neg he]
  obtain⟨f,⟨vc,h1,h2⟩,_⟩:=h.get (i:=0) rfl
  refine⟨vc,h1,h.impl (i:=0) rfl (fun f hA=>?_)⟩
  obtain⟨vc',h3,h4⟩:=hA
  rw[h1]at h3
  simp only[Value.agg.injEq,Array.mk.injEq,List.cons.injEq,and_true,true_and]at h3
  rw[h3]
  exact h4
theorem Ko {vc:Value}{k:Int×Int}(h:Sep G W (RowE (α:=Cel) own 105 vc (stL d k M)::As) w):Sep G W (Wc E1 (.agg #[.int .i64 ((yw k M:Nat):Int),vc]) (zj d M k)::As) w:=by
 refine h.impl (i:=0) rfl (fun f hA=>?_)
 unfold zj
 unfold stL at hA
 by_cases he:yw k M=0
 ·rw[if_pos he];exact trivial
 ·rw[if_neg he]at hA⊢;exact⟨vc,rfl,hA⟩
theorem Jt {vc:Value}{n:Nat}{c:List Cel}(h:Sep G W (RowE (α:=Cel) own 105 vc c::As) w):Sep G W (E1 (.agg #[.int .i64 ((n:Nat):Int),vc]) (n,c)::As) w:=h.impl (i:=0) rfl (fun f hA=>⟨vc,rfl,hA⟩)
end
end
section
open Go.Proofs Go.RowKit
abbrev Yx:=And.intro (@Ev.cells.eq_1) (And.intro (@Mv.cells.eq_1) (And.intro (@Fld.cells.eq_1) (And.intro (@Typ.cells.eq_1) (And.intro (@Prj.cells.eq_1) (And.intro (@Dcl.cells.eq_1) (And.intro (@Cel.cells.eq_1) (And.intro (@AskR.cells.eq_1) (And.intro (@CelS.cells.eq_1) (And.intro (@Ent.cells.eq_1) (@Sta.cells.eq_1))))))))))
theorem zcW {vv:Value}{v:List Int}(hv:RdS W G vv v){o:Int}(ho:InR o)(hS0:Sep G W Rs w):Ret Tryz.prog 140 [vv,.int .i64 (o)] w (fun r w'=>r=(.int .i64 (Zm v o):Value)∧(InR (Zm v o))∧Sep G W Rs w'):=by
 refine zn Tryz.func140 rfl rfl ?_
 refine za (R0 fun _=>st (aS (Iv 0) (zb (za (za (zF kr (st (mV (Iv o) (st (zK rfl rfl (st (mV (.bool (decide (o<0))) (stc (V:=Iv o) rfl rfl (fun l=>?_) ?_)))))))))))))
 exact mV (Iv o) rflB
 refine stc (V:=vv) rfl rfl (fun m=>?_) ?_
 exact mV vv rflB
 refine stc (V:=Iw v.length) rfl rfl (fun g=>?_) ?_
 exact zC uY (ifpC g) hv.sl rflB
 refine stc (V:=.bool (decide (((v.length:Nat):Int)≤o))) rfl rfl (fun c=>?_) ?_
 exact xv (ifpC c) (ifpC c) rflB
 refine st (zI rfl (fun hbp=>(ifpC hbp)) (zb ?_))
 cases h:(decide (o<0))||(decide (((v.length:Nat):Int)≤o))
 try simp only[zi]at h
 refine ze rfl (zp (za (R0 fun _=>st (mV vv (st (mV (Iv o) ?_))))))
 refine st (zB uY Tryz.sizeOf3 rfl hv.sl rfl ⟨by omega,by omega⟩ ?_)
 have d:o.toNat<v.length:=bo
 obtain⟨e,hxe11⟩:=hv.intD d
 have f:=hS0.cells e (hv.foot (ne_of_lt d))
 refine st (lD (Iv ((v.getD o.toNat 0))) kT rfl (f.get (j:=0) rfl) (st (Ul (k:=.i64) (a:=(v.getD o.toNat 0)) (b:=0) rfl rfl (st (aS (Iv (max (v.getD o.toNat 0) 0)) (zb (zq (zU vY (show _=(Iv (max (v.getD o.toNat 0) 0):Value)from rfl) ?_))))))))
 refine⟨?_,?_,hS0⟩
 unfold Zm;rw[ifnC (by omega)]
 unfold Zm;rw[ifnC (by omega)];omega
 try simp only[zi]at h
 refine zg rfl (za (R0 fun _=>st (aS (Iv 0) (zb (zq (zU vY (show _=(Iv 0:Value)from rfl) ?_))))))
 refine⟨?_,?_,hS0⟩
 unfold Zm;rw[ifpC (by omega)]
 unfold Zm;rw[ifpC (by omega)];omega
theorem Ql {a:Ev}{da0:Value}(hda0:RdS W G da0 a.deps)(oa:a.Ok){b:Ev}{db0:Value}(hdb0:RdS W G db0 b.deps)(ob:b.Ok)(hS0:Sep G W Rs w):Ret Tryz.prog 127 [.agg (a.cells da0).toArray,.agg (b.cells db0).toArray] w (fun r w'=>r=(.bool ((ZQ a b)):Value)∧Sep G W Rs w'):=by
 refine zn Tryz.func127 rfl rfl ?_
 refine za (R0 fun _=>st (zX rfl ?_))
 intro w3 b2 L
 refine st (zX rfl ?_)
 intro w7 D M
 refine st (aS (.bool false) (zb (za ?_)))
 refine WD4 ((fun TT C=>WF [fun vals E=>Sep G W (C::TT) E,fun vals E=>(vals 5=(Iv (Zm b.deps a.origin):Value))∧(InR (Zm b.deps a.origin))∧Sep G W (C::TT) E]) ((Blk b2 (a.cells da0).toArray 55)::Rs) (Blk D (b.cells db0).toArray 55)) (AF [Vl 0 (Ix D 3),Vl 1 db0,Vl 2 (Ix b2 0),Vl 3 (Ix b2 0),Vl 4 (Iv (a.origin)),fun _=>True,Vl 6 (Ix b2 0),Vl 7 (Ix b2 1),Vl 8 (Iv (a.seq)),Vl 9 (.bool (decide (a.seq≤(Zm b.deps a.origin)))),Vl 10 (.bool (decide (a.seq≤(Zm b.deps a.origin))))]) [[],[0],[],[2],[2,3],(rg 5),[],[6],[6,7],(rg 9),(rg 10)] [5] [(0,0),(0,0),(0,0),(0,0),(0,0),(0,0),(0,1),(0,1),(0,1),(1,1),(1,1)] ((hS0.new L).new M) ⟨fun _ _ _ _ _ _ _=>obl rfl (xW rfl dR),ob1 0 fun _ _ (j:Sep _ _ _ _) l=>obl rfl (lD db0 kY (l 0 dc) (zd (j.b0) rfl) dR),fun _ _ _ _ _ _ _=>obl rfl (xe rfl dR),fun _ _ _ _ _ _ m=>obl rfl (Xv (m 2 dc) dR),ob1 0 fun _ _ (n:Sep _ _ _ _) p=>obl rfl (lD (Iv (a.origin)) kT (p 3 dc) (zd (n.b1) rfl) dR),?_,fun _ _ _ _ _ _ _=>obl rfl (xe rfl dR),fun _ _ _ _ _ _ q=>obl rfl (XW (q 6 dc) dR),?_,?_,fun _ _ _ _ _ _ s=>obl rfl (zM (s 9 dc) dR),zl⟩ ?_
 refine ob1 0 fun vals _ (F:Sep _ _ _ _) i=>(obl rfl ((zW (vals:=[db0,Iv (a.origin)]) rfl (yM ⟨(i 1 dc),(i 4 dc),zl⟩) Tryz.call140 (zcW hdb0 oa.origin F) ?_)))
 rintro _ w54 ⟨rfl,c,H⟩
 exact fun vals' N hv'=>⟨(zA N (zA c H)),zl⟩
 refine fun d _ _ I J g h=>?_
 have hkk:=xE I J
 rcases hkk with rfl|rfl
 have t:=g
 exact obl rfl (lD (Iv (a.seq)) kT (h 7 dc) (zd (t.b1) rfl) dR)
 obtain⟨e,c,u⟩:=g
 exact obl rfl (lD (Iv (a.seq)) kT (h 7 dc) (zd (u.b1) rfl) dR)
 refine ob1 1 fun _ _ x y=>?_
 obtain⟨e,c,hS157⟩:=x
 exact obl rfl (xv e (y 8 dc) dR)
 intro vals w166 z A
 obtain⟨e,c,B⟩:=z
 have K:=A 10 dc
 refine yg (kv:=[(0,.agg (a.cells da0).toArray),(1,.agg (b.cells db0).toArray),(2,Ix b2 0),(3,Ix D 0),(4,.bool (decide (a.seq≤(Zm b.deps a.origin))))]) ⟨rfl,rfl,rfl,rfl,(by exact K),zl⟩ (fun ρw166=>(zb (zq (zU Tryz.results127 rfl ?_))))
 refine⟨rfl,(B.s2_)⟩
theorem KP {x y:Operand}{a0 a1 b0 b1:Int}: ∀w,(do eqGuard .eql 52 x y (.agg #[.int .i64 a0,.int .i64 a1]) (.agg #[.int .i64 b0,.int .i64 b1]);binOp .eql 52 (.agg #[.int .i64 a0,.int .i64 a1]) (.agg #[.int .i64 b0,.int .i64 b1]):Sem Value).run Tryz.prog w=.ok (.bool (decide (a0=b0∧a1=b1))) w:=by
 intro w
 have h: ∀w,(Op.equal 52 (.agg #[.int .i64 a0,.int .i64 a1]) (.agg #[.int .i64 b0,.int .i64 b1])).run Tryz.prog w=.ok (decide (a0=b0∧a1=b1)) w:=by
  intro w
  unfold Op.equal Op.maxDepth;rw[Qw];simp[go_sem];(try(by_cases h1:a0=b0<;>by_cases h2:a1=b1<;>simp[h1,h2]))
 simp[eqGuard,binOp,h,go_sem]
theorem zaC {x y:Operand}{a0 a1 b0 b1:Int}: ∀w,(do eqGuard .neq 52 x y (.agg #[.int .i64 a0,.int .i64 a1]) (.agg #[.int .i64 b0,.int .i64 b1]);binOp .neq 52 (.agg #[.int .i64 a0,.int .i64 a1]) (.agg #[.int .i64 b0,.int .i64 b1]):Sem Value).run Tryz.prog w=.ok (.bool (!decide (a0=b0∧a1=b1))) w:=by
 intro w
 have h: ∀w,(Op.equal 52 (.agg #[.int .i64 a0,.int .i64 a1]) (.agg #[.int .i64 b0,.int .i64 b1])).run Tryz.prog w=.ok (decide (a0=b0∧a1=b1)) w:=by
  intro w
  unfold Op.equal Op.maxDepth;rw[Qw];simp[go_sem];(try(by_cases h1:a0=b0<;>by_cases h2:a1=b1<;>simp[h1,h2]))
 simp[eqGuard,binOp,h,go_sem]
theorem zbA {a:Ev}{da0:Value}(hda0:RdS W G da0 a.deps)(oa:a.Ok){b:Ev}{db0:Value}(hdb0:RdS W G db0 b.deps)(ob:b.Ok)(hS0:Sep G W Rs w):Ret Tryz.prog 117 [.agg (a.cells da0).toArray,.agg (b.cells db0).toArray] w (fun r w'=>r=(.bool ((xV a b)):Value)∧Sep G W Rs w'):=by
 refine zn Tryz.func117 rfl rfl ?_
 refine za (R0 fun _=>st (zX rfl ?_))
 intro w3 b2 q
 refine st (zX rfl ?_)
 intro w7 b6 s
 have f:=(hS0.new q).new s
 refine st (aS (.bool false) (zb (za (zF kr (st (xe rfl (st (zh pT nT rfl rfl (CellsAt.sub (zo (f.b1)) 0 rfl) (st (xe rfl (st (zh pT nT rfl rfl (CellsAt.sub (zo (f.b0)) 0 rfl) (st (XO (e:=decide (a.origin=b.origin∧a.seq=b.seq)) (xs:=#[Iv (a.origin),Iv (a.seq)]) (ys:=#[Iv (b.origin),Iv (b.seq)]) zaC rfl rfl (st (mV (.bool (!decide (a.origin=b.origin∧a.seq=b.seq))) (stc (V:=.agg (a.cells da0).toArray) rfl rfl (fun t=>?_) ?_)))))))))))))))))
 exact zh oT lT rfl rfl (zo (f.b1)) rflB
 refine stc (V:=.agg (b.cells db0).toArray) rfl rfl (fun j=>?_) ?_
 exact zh oT lT rfl rfl (zo (f.b0)) rflB
 cases c: !decide (a.origin=b.origin∧a.seq=b.seq)
 have d:=c
 have c:=zQ c
 refine stx rfl rfl (stx rfl rfl (st (yt rfl rfl (st (mV (.bool false) (stx rfl rfl (stx rfl rfl (stx rfl rfl (stx rfl rfl (st (yt rfl rfl (st (aS (.bool false) (zb (zq (zU lY (show _=(.bool false:Value)from rfl) ?_))))))))))))))))
 refine⟨?_,(f.s2_)⟩
 unfold xV
 first|rfl|simp only[d,Bool.not_true,Bool.not_false,Bool.false_and,Bool.true_and,Bool.and_false]
 have d:=c
 have c:=yn c
 refine sty rfl rfl (cL wY (Ql (a:=a) (b:=b) hda0 oa hdb0 ob f) ?_)
 rintro _ w15 ⟨rfl,g⟩
 refine sty rfl rfl (yD rfl (st (yC rfl rfl (st (mV (.bool (!(ZQ a b))) (stc (V:=.agg (b.cells db0).toArray) rfl rfl (fun l=>?_) ?_))))))
 have m:=l
 try simp only[zi]at m
 exact zh oT lT rfl rfl (zo (g.b0)) rflB
 refine stc (V:=.agg (a.cells da0).toArray) rfl rfl (fun n=>?_) ?_
 have o:=n
 try simp only[zi]at o
 exact zh oT lT rfl rfl (zo (g.b1)) rflB
 cases h: !(ZQ a b)
 have i:=h
 try simp only[zi]at h
 refine stx rfl rfl (stx rfl rfl (st (yt rfl rfl (st (aS (.bool false) (zb (zq (zU lY (show _=(.bool false:Value)from rfl) ?_))))))))
 refine⟨?_,(g.s2_)⟩
 unfold xV
 first|rfl|simp only[d,i,Bool.not_true,Bool.not_false,Bool.false_and,Bool.true_and,Bool.and_false]
 have i:=h
 try simp only[zi]at h
 refine sty rfl rfl (cL wY (Ql (a:=b) (b:=a) hdb0 ob hda0 oa g) ?_)
 rintro _ w23 ⟨rfl,p⟩
 refine sty rfl rfl (yD rfl (st (yC rfl rfl (st (aS (.bool (!(ZQ b a))) (zb (zq (zU lY (show _=(.bool (!(ZQ b a)):Value)from rfl) ?_))))))))
 refine⟨?_,(p.s2_)⟩
 unfold xV
 first|rfl|simp only[d,i,Bool.not_true,Bool.not_false,Bool.false_and,Bool.true_and,Bool.and_false]
theorem Uq {x y:Operand}{a0 a1 b0 b1:Int}: ∀w,(do eqGuard .eql 193 x y (.agg #[.int .i64 a0,.int .i64 a1]) (.agg #[.int .i64 b0,.int .i64 b1]);binOp .eql 193 (.agg #[.int .i64 a0,.int .i64 a1]) (.agg #[.int .i64 b0,.int .i64 b1]):Sem Value).run Tryz.prog w=.ok (.bool (decide (a0=b0∧a1=b1))) w:=by
 intro w
 have h: ∀w,(Op.equal 193 (.agg #[.int .i64 a0,.int .i64 a1]) (.agg #[.int .i64 b0,.int .i64 b1])).run Tryz.prog w=.ok (decide (a0=b0∧a1=b1)) w:=by
  intro w
  unfold Op.equal Op.maxDepth;rw[Qw];simp[go_sem];(try(by_cases h1:a0=b0<;>by_cases h2:a1=b1<;>simp[h1,h2]))
 simp[eqGuard,binOp,h,go_sem]
theorem Jb {x y:Operand}{a0 a1 b0 b1:Int}: ∀w,(do eqGuard .neq 193 x y (.agg #[.int .i64 a0,.int .i64 a1]) (.agg #[.int .i64 b0,.int .i64 b1]);binOp .neq 193 (.agg #[.int .i64 a0,.int .i64 a1]) (.agg #[.int .i64 b0,.int .i64 b1]):Sem Value).run Tryz.prog w=.ok (.bool (!decide (a0=b0∧a1=b1))) w:=by
 intro w
 have h: ∀w,(Op.equal 193 (.agg #[.int .i64 a0,.int .i64 a1]) (.agg #[.int .i64 b0,.int .i64 b1])).run Tryz.prog w=.ok (decide (a0=b0∧a1=b1)) w:=by
  intro w
  unfold Op.equal Op.maxDepth;rw[Qw];simp[go_sem];(try(by_cases h1:a0=b0<;>by_cases h2:a1=b1<;>simp[h1,h2]))
 simp[eqGuard,binOp,h,go_sem]
theorem JN {f:Fld}{df0:Value}(hdf0:RdS W G df0 f.moves)(of:f.Ok){oA:Int}(hoA:InR oA){aA:Int}(haA:InR aA){oB:Int}(hoB:InR oB){aB:Int}(haB:InR aB)(hS0:Sep G W Rs w):Ret Tryz.prog 116 [.agg (f.cells df0).toArray,.int .i64 (oA),.int .i64 (aA),.int .i64 (oB),.int .i64 (aB)] w (fun r w'=>r=(.bool ((YG f.kind oA aA oB aB)):Value)∧Sep G W Rs w'):=by
 refine zn Tryz.func116 rfl rfl ?_
 refine za (R0 fun _=>st (zX rfl ?_))
 intro w3 b2 ak
 refine st (aS (.bool false) (zb (za (zL (by kernel_rfl) (fun _=>(st (mV (Iv oA) (st (mV (Iv aA) (st (zV (parts':=[(0,Iv oA),(1,Iv aA)]) (v:=.agg #[Iv oA,Iv aA]) rfl (by simp+zetaDelta [Instr.build,Instr.fill,go_sem,Yx]) (st (mV (Iv oB) (st (mV (Iv aB) (st (zV (parts':=[(0,Iv oB),(1,Iv aB)]) (v:=.agg #[Iv oB,Iv aB]) rfl (by simp+zetaDelta [Instr.build,Instr.fill,go_sem,Yx]) (st (zG kA ?_)))))))))))))))))))
 intro w7 b6 al
 refine st (zG kA ?_)
 intro w11 E am
 have q:=((hS0.new ak).new al).new am
 refine stn (zy (v:=.agg #[Iv oA,Iv aA]) qT rfl rfl (q.b1) (yo ⟨rfl,rfl,zl⟩) yqc rfl ?_)
 intro w13 F
 have s:=q.pt1 F
 refine stn (zy (v:=.agg #[Iv oB,Iv aB]) qT rfl rfl (s.b0) (yo ⟨rfl,rfl,zl⟩) yqc rfl ?_)
 intro w16 H
 have c:=s.pt0 H
 refine zb (za (za (R0 fun _=>st (xG rfl (st (lD (Iv (f.kind)) kT rfl (zd (c.b2) rfl) (zb (zt (za (R0 fun _=>st (zS rfl rfl (st (aS (.bool (decide (f.kind=2))) (zb ?_))))))))))))))
 cases g:decide (f.kind=2)
 have g:=fD g
 refine ze rfl (za (R0 fun _=>st (zS rfl rfl (st (aS (.bool (decide (f.kind=4))) (zb ?_))))))
 cases h:decide (f.kind=4)
 have h:=fD h
 refine ze rfl (za (R0 fun _=>st (zS rfl rfl (st (aS (.bool (decide (f.kind=3))) (zb ?_))))))
 cases i:decide (f.kind=3)
 have i:=fD i
 refine ze rfl (zp (za (R0 fun _=>st (aS (.bool false) (zb (zq (zU mR (show _=(.bool false:Value)from rfl) ?_)))))))
 refine⟨?_,(c.s3_)⟩
 unfold YG
 (first|rw[ifpC (by omega)]|rw[ifnC (by omega),ifpC (by omega)]|rw[ifnC (by omega),ifnC (by omega),ifpC (by omega)]|rw[ifnC (by omega),ifnC (by omega),ifnC (by omega)])<;>(first|rfl|simp_all)
 have i:=tD i
 refine zg rfl (za (zF (by kernel_rfl) (st (zh rT qT rfl rfl (zo (c.b1)) (st (mV (Iv aB) (st (zV (parts':=[(0,Iv 3),(1,Iv aB)]) (v:=.agg #[Iv 3,Iv aB]) rfl (by simp+zetaDelta [Instr.build,Instr.fill,go_sem,Yx]) (st (ZP (e:=decide (oA=3∧aA=aB)) (xs:=#[Iv oA,Iv aA]) (ys:=#[Iv 3,Iv aB]) Uq rfl rfl (st (mV (.bool (decide (oA=3∧aA=aB))) (stc (V:=.agg #[Iv oB,Iv aB]) rfl rfl (fun I=>?_) ?_)))))))))))))
 exact zh rT qT rfl rfl (zo (c.b0)) rflB
 refine stc (V:=Iv aA) rfl rfl (fun J=>?_) ?_
 exact mV (Iv aA) rflB
 refine stc (V:=.agg #[Iv 4,Iv aA]) rfl rfl (fun t=>?_) ?_
 exact zV (parts':=[(0,Iv 4),(1,Iv aA)]) (v:=.agg #[Iv 4,Iv aA]) (Za ⟨rfl,rfl,rfl,(ifpC t),zl⟩) (by simp+zetaDelta [Instr.build,Instr.fill,go_sem,Yx]) rflB
 refine stc (V:=.bool (decide (oB=4∧aB=aA))) rfl rfl (fun l=>?_) ?_
 exact ZP (e:=decide (oB=4∧aB=aA)) (xs:=#[Iv oB,Iv aB]) (ys:=#[Iv 4,Iv aA]) Uq (ifpC l) (ifpC l) rflB
 refine st (zx rfl (fun hbp=>(ifpC hbp)) (st (mV (.bool ((decide (oA=3∧aA=aB))&&(decide (oB=4∧aB=aA)))) (stc (V:=.agg #[Iv oA,Iv aA]) rfl rfl (fun K=>?_) ?_))))
 have L:=K
 try simp only[zi]at L
 exact zh rT qT rfl rfl (zo (c.b1)) rflB
 refine stc (V:=Iv aB) rfl rfl (fun M=>?_) ?_
 have N:=M
 try simp only[zi]at N
 exact mV (Iv aB) rflB
 refine stc (V:=.agg #[Iv 4,Iv aB]) rfl rfl (fun u=>?_) ?_
 have O:=u
 try simp only[zi]at O
 exact zV (parts':=[(0,Iv 4),(1,Iv aB)]) (v:=.agg #[Iv 4,Iv aB]) (Za ⟨rfl,rfl,rfl,(ifpC u),zl⟩) (by simp+zetaDelta [Instr.build,Instr.fill,go_sem,Yx]) rflB
 refine stc (V:=.bool (decide (oA=4∧aA=aB))) rfl rfl (fun m=>?_) ?_
 have P:=m
 try simp only[zi]at P
 exact ZP (e:=decide (oA=4∧aA=aB)) (xs:=#[Iv oA,Iv aA]) (ys:=#[Iv 4,Iv aB]) Uq (ifpC m) (ifpC m) rflB
 refine stc (V:=.bool (decide (oA=4∧aA=aB))) rfl rfl (fun x=>?_) ?_
 have Q:=x
 try simp only[zi]at Q
 exact zP (ifpC x) rflB
 refine yZ (V:=.agg #[Iv oB,Iv aB]) rfl rfl (fun y=>?_) ?_
 have R:=y.1
 try simp only[zi]at R
 exact zh rT qT rfl rfl (zo (c.b0)) rflB
 refine yZ (V:=Iv aA) rfl rfl (fun z=>?_) ?_
 have S:=z.1
 try simp only[zi]at S
 exact mV (Iv aA) rflB
 refine yZ (V:=.agg #[Iv 3,Iv aA]) rfl rfl (fun j=>?_) ?_
 have T:=j.1
 try simp only[zi]at T
 exact zV (parts':=[(0,Iv 3),(1,Iv aA)]) (v:=.agg #[Iv 3,Iv aA]) (Za ⟨rfl,rfl,rfl,(ifpC ⟨j.1,j.2⟩),zl⟩) (by simp+zetaDelta [Instr.build,Instr.fill,go_sem,Yx]) rflB
 refine yZ (V:=.bool (decide (oB=3∧aB=aA))) rfl rfl (fun d=>?_) ?_
 have U:=d.1
 try simp only[zi]at U
 exact ZP (e:=decide (oB=3∧aB=aA)) (xs:=#[Iv oB,Iv aB]) (ys:=#[Iv 3,Iv aA]) Uq (ifpC ⟨d.1,d.2⟩) (ifpC ⟨d.1,d.2⟩) rflB
 refine stc (V:=.bool ((decide (oA=4∧aA=aB))&&(decide (oB=3∧aB=aA)))) rfl rfl (fun n=>?_) ?_
 have X:=n
 try simp only[zi]at X
 exact zx (ifpC n) (fun hbp=>(ifpC ⟨n,hbp⟩)) rflB
 refine st (zI rfl (fun hbp=>(ifpC hbp)) (st (aS (.bool (((decide (oA=3∧aA=aB))&&(decide (oB=4∧aB=aA)))||((decide (oA=4∧aA=aB))&&(decide (oB=3∧aB=aA))))) (zb (zq (zU mR (show _=(.bool (((decide (oA=3∧aA=aB))&&(decide (oB=4∧aB=aA)))||((decide (oA=4∧aA=aB))&&(decide (oB=3∧aB=aA)))):Value)from rfl) ?_))))))
 refine⟨?_,(c.s3_)⟩
 unfold YG
 (first|rw[ifpC (by omega)]|rw[ifnC (by omega),ifpC (by omega)]|rw[ifnC (by omega),ifnC (by omega),ifpC (by omega)]|rw[ifnC (by omega),ifnC (by omega),ifnC (by omega)])<;>(first|rfl|simp_all)
 have h:=tD h
 refine zg rfl (za (zF kr (st (WM rfl (st (lD (Iv oA) kT rfl (zd (c.b1) rfl) (st (zS rfl rfl (st (mV (.bool (decide (oA=5))) (stc (V:=Ix E 0) rfl rfl (fun Y=>?_) ?_)))))))))))
 exact WM rfl rflB
 refine stc (V:=Iv oB) rfl rfl (fun A=>?_) ?_
 exact lD (Iv oB) kT (ifpC A) (zd (c.b0) rfl) rflB
 refine stc (V:=.bool (decide (oB=5))) rfl rfl (fun B=>?_) ?_
 exact zS (ifpC B) rfl rflB
 refine st (zx rfl (fun hbp=>(ifpC hbp)) (st (mV (.bool ((decide (oA=5))&&(decide (oB=5)))) (stc (V:=.agg #[Iv oA,Iv aA]) rfl rfl (fun Z=>?_) ?_))))
 have aa:=Z
 try simp only[zi]at aa
 exact zh rT qT rfl rfl (zo (c.b1)) rflB
 refine stc (V:=.agg #[Iv oB,Iv aB]) rfl rfl (fun ab=>?_) ?_
 have ac:=ab
 try simp only[zi]at ac
 exact zh rT qT rfl rfl (zo (c.b0)) rflB
 refine stc (V:=.bool (!decide (oA=oB∧aA=aB))) rfl rfl (fun o=>?_) ?_
 have ad:=o
 try simp only[zi]at ad
 exact XO (e:=decide (oA=oB∧aA=aB)) (xs:=#[Iv oA,Iv aA]) (ys:=#[Iv oB,Iv aB]) Jb (ifpC o) (ifpC o) rflB
 refine st (zx rfl (fun hbp=>(ifpC hbp)) (st (aS (.bool (((decide (oA=5))&&(decide (oB=5)))&&(!decide (oA=oB∧aA=aB)))) (zb (zq (zU mR (show _=(.bool (((decide (oA=5))&&(decide (oB=5)))&&(!decide (oA=oB∧aA=aB))):Value)from rfl) ?_))))))
 refine⟨?_,(c.s3_)⟩
 unfold YG
 (first|rw[ifpC (by omega)]|rw[ifnC (by omega),ifpC (by omega)]|rw[ifnC (by omega),ifnC (by omega),ifpC (by omega)]|rw[ifnC (by omega),ifnC (by omega),ifnC (by omega)])<;>(first|rfl|simp_all)
 have g:=tD g
 refine zg rfl (za (zF kr (st (WM rfl (st (lD (Iv oA) kT rfl (zd (c.b1) rfl) (st (zS rfl rfl (st (mV (.bool (decide (oA=2))) (stc (V:=Ix E 0) rfl rfl (fun ae=>?_) ?_)))))))))))
 exact WM rfl rflB
 refine stc (V:=Iv oB) rfl rfl (fun C=>?_) ?_
 exact lD (Iv oB) kT (ifpC C) (zd (c.b0) rfl) rflB
 refine stc (V:=.bool (decide (oB=2))) rfl rfl (fun D=>?_) ?_
 exact zS (ifpC D) rfl rflB
 refine st (zx rfl (fun hbp=>(ifpC hbp)) (st (mV (.bool ((decide (oA=2))&&(decide (oB=2)))) (stc (V:=.agg #[Iv oA,Iv aA]) rfl rfl (fun af=>?_) ?_))))
 have ag:=af
 try simp only[zi]at ag
 exact zh rT qT rfl rfl (zo (c.b1)) rflB
 refine stc (V:=.agg #[Iv oB,Iv aB]) rfl rfl (fun ah=>?_) ?_
 have ai:=ah
 try simp only[zi]at ai
 exact zh rT qT rfl rfl (zo (c.b0)) rflB
 refine stc (V:=.bool (!decide (oA=oB∧aA=aB))) rfl rfl (fun p=>?_) ?_
 have aj:=p
 try simp only[zi]at aj
 exact XO (e:=decide (oA=oB∧aA=aB)) (xs:=#[Iv oA,Iv aA]) (ys:=#[Iv oB,Iv aB]) Jb (ifpC p) (ifpC p) rflB
 refine st (zx rfl (fun hbp=>(ifpC hbp)) (st (aS (.bool (((decide (oA=2))&&(decide (oB=2)))&&(!decide (oA=oB∧aA=aB)))) (zb (zq (zU mR (show _=(.bool (((decide (oA=2))&&(decide (oB=2)))&&(!decide (oA=oB∧aA=aB))):Value)from rfl) ?_))))))
 refine⟨?_,(c.s3_)⟩
 unfold YG
 (first|rw[ifpC (by omega)]|rw[ifnC (by omega),ifpC (by omega)]|rw[ifnC (by omega),ifnC (by omega),ifpC (by omega)]|rw[ifnC (by omega),ifnC (by omega),ifnC (by omega)])<;>(first|rfl|simp_all)
theorem zcj {f:Fld}{df0:Value}(hdf0:RdS W G df0 f.moves)(of:f.Ok){x:Ev}{dx0:Value}(hdx0:RdS W G dx0 x.deps)(ox:x.Ok){e:Ev}{de0:Value}(hde0:RdS W G de0 e.deps)(oe:e.Ok)(hS0:Sep G W Rs w):Ret Tryz.prog 96 [.agg (f.cells df0).toArray,.agg (x.cells dx0).toArray,.agg (e.cells de0).toArray] w (fun r w'=>r=(.bool ((xl f x e)):Value)∧Sep G W Rs w'):=by
 refine zn Tryz.func96 rfl rfl ?_
 refine za (R0 fun _=>st (zX rfl ?_))
 intro w3 b2 X
 refine st (zX rfl ?_)
 intro w7 D Y
 refine st (zX rfl ?_)
 intro w11 o Z
 have c:=((hS0.new X).new Y).new Z
 refine st (aS (.bool false) (zb (za (zF kr (st (Xs rfl (st (lD (Iv (f.policy)) kT rfl (zd (c.b2) rfl) (st (zS rfl rfl (st (mV (.bool (decide (f.policy=2))) (stc (V:=Ix b2 1) rfl rfl (fun E=>?_) ?_)))))))))))))
 exact Xs rfl rflB
 refine stc (V:=Iv (f.policy)) rfl rfl (fun p=>?_) ?_
 exact lD (Iv (f.policy)) kT (ifpC p) (zd (c.b2) rfl) rflB
 refine stc (V:=.bool (decide (f.policy=3))) rfl rfl (fun q=>?_) ?_
 exact zS (ifpC q) rfl rflB
 refine stc (V:=.bool (decide (f.policy=3))) rfl rfl (fun s=>?_) ?_
 exact zP (ifpC s) rflB
 refine yZ (V:=Ix D 8) rfl rfl (fun t=>?_) ?_
 exact xy rfl rflB
 refine yZ (V:=Iv (x.arg)) rfl rfl (fun h=>?_) ?_
 exact lD (Iv (x.arg)) kT (ifpC ⟨h.1,h.2⟩) (zd (c.b1) rfl) rflB
 refine yZ (V:=Ix o 8) rfl rfl (fun u=>?_) ?_
 exact xy rfl rflB
 refine yZ (V:=Iv (e.arg)) rfl rfl (fun i=>?_) ?_
 exact lD (Iv (e.arg)) kT (ifpC ⟨i.1,i.2⟩) (zd (c.b0) rfl) rflB
 refine yZ (V:=.bool (decide (e.arg<x.arg))) rfl rfl (fun d=>?_) ?_
 exact xh (k:=.i64) (a:=x.arg) (b:=e.arg) (ifpC ⟨d.1,d.2⟩) (ifpC ⟨d.1,d.2⟩) rflB
 refine stc (V:=.bool ((decide (f.policy=3))&&(decide (e.arg<x.arg)))) rfl rfl (fun n=>?_) ?_
 exact zx (ifpC n) (fun hbp=>(ifpC ⟨n,hbp⟩)) rflB
 refine st (zI rfl (fun hbp=>(ifpC hbp)) (st (aS (.bool ((decide (f.policy=2))||((decide (f.policy=3))&&(decide (e.arg<x.arg))))) (zb (za (zF kr (st (mV (.bool ((decide (f.policy=2))||((decide (f.policy=3))&&(decide (e.arg<x.arg))))) (st (mV (.bool ((decide (f.policy=2))||((decide (f.policy=3))&&(decide (e.arg<x.arg))))) (stc (V:=.agg (f.cells df0).toArray) rfl rfl (fun F=>?_) ?_)))))))))))
 have H:=F
 try simp only[zi]at H
 exact zh lA wT rfl rfl (zo (c.b2)) rflB
 refine stc (V:=Ix D 7) rfl rfl (fun I=>?_) ?_
 have J:=I
 try simp only[zi]at J
 exact Ze rfl rflB
 refine stc (V:=Iv (x.op)) rfl rfl (fun y=>?_) ?_
 have K:=y
 try simp only[zi]at K
 exact lD (Iv (x.op)) kT (ifpC y) (zd (c.b1) rfl) rflB
 refine stc (V:=Ix D 8) rfl rfl (fun L=>?_) ?_
 have M:=L
 try simp only[zi]at M
 exact xy rfl rflB
 refine stc (V:=Iv (x.arg)) rfl rfl (fun z=>?_) ?_
 have N:=z
 try simp only[zi]at N
 exact lD (Iv (x.arg)) kT (ifpC z) (zd (c.b1) rfl) rflB
 refine stc (V:=Ix o 7) rfl rfl (fun O=>?_) ?_
 have P:=O
 try simp only[zi]at P
 exact Ze rfl rflB
 refine stc (V:=Iv (e.op)) rfl rfl (fun A=>?_) ?_
 have Q:=A
 try simp only[zi]at Q
 exact lD (Iv (e.op)) kT (ifpC A) (zd (c.b0) rfl) rflB
 refine stc (V:=Ix o 8) rfl rfl (fun R=>?_) ?_
 have S:=R
 try simp only[zi]at S
 exact xy rfl rflB
 refine stc (V:=Iv (e.arg)) rfl rfl (fun B=>?_) ?_
 have T:=B
 try simp only[zi]at T
 exact lD (Iv (e.arg)) kT (ifpC B) (zd (c.b0) rfl) rflB
 cases j:(decide (f.policy=2))||((decide (f.policy=3))&&(decide (e.arg<x.arg)))
 have g:=j
 try simp only[zi]at j
 refine stx rfl rfl (st (yt rfl rfl (st (mV (.bool false) (stx rfl rfl (stx rfl rfl (stx rfl rfl (st (yt rfl rfl (st (aS (.bool false) (zb (zq (zU mY (show _=(.bool false:Value)from rfl) ?_))))))))))))))
 refine⟨?_,(c.s3_)⟩
 unfold xl
 first|rfl|simp only[g,Bool.false_and,Bool.true_and,Bool.and_false,Bool.and_true,Bool.true_or,Bool.or_true]
 have g:=j
 try simp only[zi]at j
 refine sty rfl rfl (cL Tryz.call116 (JN (f:=f) (oA:=x.op) (aA:=x.arg) (oB:=e.op) (aB:=e.arg) hdf0 of ox.op ox.arg oe.op oe.arg c) ?_)
 rintro _ w58 ⟨rfl,l⟩
 refine st (yC rfl rfl (st (mV (.bool ((YG f.kind x.op x.arg e.op e.arg))) (stc (V:=.agg (x.cells dx0).toArray) rfl rfl (fun hb60=>?_) ?_))))
 exact zh oT lT rfl rfl (zo (l.b1)) rflB
 refine stc (V:=.agg (e.cells de0).toArray) rfl rfl (fun hb62=>?_) ?_
 exact zh oT lT rfl rfl (zo (l.b0)) rflB
 cases C:(YG f.kind x.op x.arg e.op e.arg)
 have m:=C
 refine stx rfl rfl (st (yt rfl rfl (st (aS (.bool false) (zb (zq (zU mY (show _=(.bool false:Value)from rfl) ?_)))))))
 refine⟨?_,(l.s3_)⟩
 unfold xl
 first|rfl|simp only[g,m,Bool.false_and,Bool.true_and,Bool.and_false,Bool.and_true,Bool.true_or,Bool.or_true]
 have m:=C
 refine sty rfl rfl (cL Tryz.call117 (zbA (a:=x) (b:=e) hdx0 ox hde0 oe l) ?_)
 rintro _ w66 ⟨rfl,U⟩
 refine st (yC rfl rfl (st (aS (.bool ((xV x e))) (zb (zq (zU mY (show _=(.bool ((xV x e)):Value)from rfl) ?_))))))
 refine⟨?_,(U.s3_)⟩
 unfold xl
 first|rfl|simp only[g,m,Bool.false_and,Bool.true_and,Bool.and_false,Bool.and_true,Bool.true_or,Bool.or_true]
theorem WH {e:Ev}{de0:Value}(hde0:RdS W G de0 e.deps)(oe:e.Ok)(hS0:Sep G W Rs w):Ret Tryz.prog 67 [.agg (e.cells de0).toArray] w (fun r w'=> ∃(v:Value),r=(.agg (e.cells v).toArray:Value)∧Sep G W ((RowE (α:=Int) own 3 v e.deps)::Rs) w'):=by
 refine zn Tryz.func67 rfl rfl ?_
 refine za (R0 fun _=>st (zX rfl ?_))
 intro w3 b2 n
 refine st (zG nY ?_)
 intro w7 p o
 have i:=(hS0.new n).new o
 refine zb (za (R0 fun _=>st (xW rfl (st (lD de0 kY rfl (zd (i.b1) rfl) (st (cL mA (Yj hde0 i) ?_)))))))
 rintro g w10 ⟨_,rfl,a⟩
 have d:=a.r0
 refine st (xW rfl (stn (ym nA rfl rfl (a.b2) d.1.one rfl rfl ?_)))
 intro w13 j
 have f:=a.pt2 j
 refine zb (za (R0 fun _=>st (zh oT lT rfl rfl (zo (f.b2)) (stn (zy (v:=.agg (e.cells g).toArray) lT rfl rfl (f.b1) (yo ⟨rfl,rfl,rfl,d.1.one,rfl,rfl,rfl,rfl,rfl,rfl,zl⟩) yqc rfl ?_)))))
 intro w17 m
 have h:=f.pt1 m
 refine zb (zq (Yd Tryz.results67 oT lT rfl rfl (zo (h.b1)) ?_))
 refine⟨g,rfl,(h.s3_a)⟩
instance:Flat Prj:=⟨fun h=>h⟩
theorem el23:Elem Tryz.prog 23 73 5 40:=⟨oY,_,_,rfl,rfl,rfl,rfl,rfl⟩
theorem Vm {vl:Value}{l:List Prj}(hl:RdS W G vl l)(hS0:Sep G W Rs w):Ret Tryz.prog 33 [vl] w (fun r w'=> ∃(v:Value),r=(v:Value)∧Sep G W ((RowE (α:=Prj) own 73 v l)::Rs) w'):=by
 have hls:_*40≤_:=hl.small
 refine zn Tryz.func33 rfl rfl ?_
 refine za (R0 fun _=>st (aS Iz (zb (za (za (R0 fun _=>st (mV vl (st (ZG (v:=vl) oY rfl hl.sl (zb ?_))))))))))
 cases i:ZA vl
 refine ze rfl (zp (za (R0 fun _=>st (zH (c:=#[]) oY Tryz.sizeOf73 Tryz.zeroValue73 dc rfl kr ?_))))
 intro o p j
 refine st (mV vl ?_)
 have d:Sep G W ((RowE (α:=Prj) own 73 (Iy p 0 0) [])::Rs) o:=Sep.blkRow (css:=[]) (hS0.new j) rfl trivial yqa
 have e:=d.r0
 refine st (xO (src:=own) (bytes:=40) d el23 rfl rfl hl yqb rfl (hq':=fun _ _ h _ _=>WY h) ?_)
 intro b q a
 have a:Sep G W ((RowE (α:=Prj) own 73 b l)::Rs) q:=a
 have f:=a.r0
 refine st (aS b (zb (zq (zU pA rfl ?_))))
 refine⟨b,rfl,a⟩
 have m:=YX hl.sl i
 refine zg rfl (za (R0 fun _=>st (aS Iz (zb (zq (zU pA rfl ?_))))))
 have g:Sep G W ((RowE (α:=Prj) own 73 Iz [])::Rs) w:=hS0.rowNil own 73
 have n:=List.length_eq_zero_iff.1 m
 subst n
 refine⟨(Iz),rfl,g⟩
theorem el81:Elem Tryz.prog 81 87 4 48:=⟨vT,_,_,rfl,rfl,rfl,rfl,rfl⟩
theorem WR {vl:Value}{l:List Fld}(hl:RdS W G vl l)(hS0:Sep G W Rs w):Ret Tryz.prog 34 [vl] w (fun r w'=> ∃(v:Value),r=(v:Value)∧Sep G W ((RowE (α:=Fld) (shr G W) 87 v l)::Rs) w'):=by
 have hls:_*48≤_:=hl.small
 refine zn Tryz.func34 rfl rfl ?_
 refine za (R0 fun _=>st (aS Iz (zb (za (za (R0 fun _=>st (mV vl (st (ZG (v:=vl) vT rfl hl.sl (zb ?_))))))))))
 cases i:ZA vl
 refine ze rfl (zp (za (R0 fun _=>st (zH (c:=#[]) vT wT Tryz.zeroValue87 dc rfl kr ?_))))
 intro o p j
 refine st (mV vl ?_)
 have d:Sep G W ((RowE (α:=Fld) (shr G W) 87 (Iy p 0 0) [])::Rs) o:=Sep.blkRow (css:=[]) (hS0.new j) rfl trivial yqa
 have e:=d.r0
 refine st (xO (src:=(shr G W)) (bytes:=48) d el81 rfl rfl hl yqb rfl (hq':=fun _ _ h _ _=>h) ?_)
 intro b q a
 have a:Sep G W ((RowE (α:=Fld) (shr G W) 87 b l)::Rs) q:=a
 have f:=a.r0
 refine st (aS b (zb (zq (zU qA rfl ?_))))
 refine⟨b,rfl,a⟩
 have m:=YX hl.sl i
 refine zg rfl (za (R0 fun _=>st (aS Iz (zb (zq (zU qA rfl ?_))))))
 have g:Sep G W ((RowE (α:=Fld) (shr G W) 87 Iz [])::Rs) w:=hS0.rowNil (shr G W) 87
 have n:=List.length_eq_zero_iff.1 m
 subst n
 refine⟨(Iz),rfl,g⟩
theorem zbD:Elem Tryz.prog 42 57 13 120:=⟨pY,_,_,rfl,rfl,rfl,rfl,rfl⟩
theorem QR {vl:Value}{l:List Ent}(hl:RdS W G vl l)(hS0:Sep G W Rs w):Ret Tryz.prog 66 [vl] w (fun r w'=> ∃(v:Value),r=(v:Value)∧Sep G W ((RowE (α:=Ent) (shr G W) 57 v l)::Rs) w'):=by
 have hls:_*120≤_:=hl.small
 refine zn (args:=[vl]) Tryz.func66 rfl rfl ?_
 refine za (R0 fun _=>st (aS Iz (zb (za (za (R0 fun _=>st (mV vl (st (ZG (v:=vl) pY rfl hl.sl (zb ?_))))))))))
 cases i:ZA vl
 refine ze rfl (zp (za (R0 fun _=>st (zH (k:=13) (parts':=[]) (c:=#[]) pY Tryz.sizeOf57 Tryz.zeroValue57 dc rfl kr ?_))))
 intro o p j
 refine st (mV vl ?_)
 have d:Sep G W ((RowE (α:=Ent) (shr G W) 57 (Iy p 0 0) [])::Rs) o:=Sep.blkRow (css:=[]) (hS0.new j) rfl trivial yqa
 have e:=d.r0
 refine st (xO (src:=(shr G W)) (bytes:=120) d zbD rfl rfl hl yqb rfl (hq':=fun _ _ h _ _=>h) ?_)
 intro b q a
 have a:Sep G W ((RowE (α:=Ent) (shr G W) 57 b l)::Rs) q:=a
 have f:=a.r0
 refine st (aS b (zb (zq (zU rA (show _=(b:Value)from rfl) ?_))))
 refine⟨b,rfl,a⟩
 have m:=YX hl.sl i
 refine zg rfl (za (R0 fun _=>st (aS Iz (zb (zq (zU rA (show _=((Iz):Value)from rfl) ?_))))))
 have g:Sep G W ((RowE (α:=Ent) (shr G W) 57 Iz [])::Rs) w:=hS0.rowNil (shr G W) 57
 have n:=List.length_eq_zero_iff.1 m
 subst n
 refine⟨(Iz),rfl,g⟩
theorem zbs {x:Sta}{dx0:Value}(hdx0:RdS W G dx0 x.cls)(ox:x.Ok)(hS0:Sep G W Rs w):Ret Tryz.prog 75 [.agg (x.cells dx0).toArray] w (fun r w'=> ∃(v:Value),r=(.agg (x.cells v).toArray:Value)∧Sep G W ((RowE (α:=Cel) own 105 v x.cls)::Rs) w'):=by
 have hdx0s:_*32≤_:=hdx0.small
 refine zn Tryz.func75 rfl rfl ?_
 refine za (R0 fun _=>st (zX rfl ?_))
 intro w3 b2 aD
 refine st (zG nR ?_)
 intro w7 R aE
 have aw:=(hS0.new aD).new aE
 refine zb (za (R0 fun _=>st (xo rfl (st (lD dx0 sT rfl (zd (aw.b1) rfl) (st (cL Tryz.call88 (Vk hdx0 aw) ?_)))))))
 rintro m w10 ⟨_,rfl,F⟩
 have H:=F.r0
 have hr12s:_*32≤_:=H.2
 refine st (xo rfl (stn (ym sA rfl rfl (F.b2) H.1.one rfl rfl ?_)))
 intro w13 ax
 have ok15:Sta.Ok x:=⟨(show InR (x.ver)from ox.ver)⟩
 have S:=F.pt2 ax
 refine zb (za (za (R0 fun _=>st (xo rfl (st (lD m sT rfl (zd (S.b2) rfl) (st (zC qY rfl H.1 (st (mV (Iv 0) (zb (zt ?_))))))))))))
 have ay:=S.toMix
 refine zZ (fun mq σ y=> ∃k ρ,mq=x.cls.length-k∧σ=yf ρ [(1,Ix b2 0),(2,Ix R 0),(10,Iw x.cls.length),(11,Iw k)]∧(k≤x.cls.length)∧Sep G W ((RowE (mix G W) 105 m (ZE k x.cls))::(Blk R #[Iv 0,(Iz)] 48)::(Blk b2 (x.cells m).toArray 48)::Rs) y) ⟨0,_,rfl,sSf,zY _,ay⟩ ?_
 rintro m19 σ20 aF ⟨k,ρl1,rfl,rfl,hkk,I⟩
 have J:=I.r0
 rw[xY]at J
 refine za (R0 fun _=>st (zK rfl rfl (zb (za ?_))))
 cases z:decide (((k:Nat):Int)<((x.cls.length:Nat):Int))
 have z:=fD z
 have A:Sep G W ((RowE (α:=Cel) own 105 m x.cls)::(Blk R #[Iv 0,(Iz)] 48)::(Blk b2 (x.cells m).toArray 48)::Rs) aF:=I.ofMix om
 have T:=A.r0
 have hr25s:_*32≤_:=T.2
 refine ze rfl (ya (zR (za (R0 fun _=>st (zh tA oR rfl rfl (zo (A.b2)) (stn (zy (v:=.agg (x.cells m).toArray) oR rfl rfl (A.b1) (yo ⟨rfl,T.1.one,zl⟩) yqc rfl ?_)))))))
 intro w26 az
 have U:=A.pt1 az
 refine zb (zq (Yd Tryz.results75 tA oR rfl rfl (zo (U.b1)) ?_))
 refine⟨m,rfl,(U.s3_a)⟩
 have z:=tD z
 refine zg rfl (zp (za (zt (za (R0 fun _=>st (mV (Iw k) (st (aS (Iw k) (zb ?_)))))))))
 refine WD4 ((fun TT V=>WF [fun vals y=>Sep G W (V::TT) y,fun vals y=> ∃e,(vals 8=e)∧(RdS W G e (x.cls.gd k).set)∧(Cel.Ok (x.cls.gd k))∧Sep G W (V::TT) y,fun vals y=> ∃e p,(vals 8=e)∧(vals 9=p)∧(RdS W G e (x.cls.gd k).set)∧(Cel.Ok (x.cls.gd k))∧Sep G W ((RowE own 3 p ((x.cls.gd k).set))::V::TT) y,fun vals y=> ∃e p,(vals 8=e)∧(vals 9=p)∧(RdS W G e (x.cls.gd k).set)∧(Cel.Ok (x.cls.gd k))∧Sep G W ((RowE (mix G W) 105 m (ZE (k+1) x.cls))::TT) y]) ((Blk R #[Iv 0,(Iz)] 48)::(Blk b2 (x.cells m).toArray 48)::Rs) (RowE (mix G W) 105 m (ZE k x.cls))) (AF [Vl 0 (Ix b2 1),Vl 1 m,Vl 2 (Iw k),Vl 3 (Ix b2 1),Vl 4 m,Vl 5 (Iw k),Vl 6 (Ix (sb m) (so m+k*2)),Vl 7 (Ix (sb m) (so m+k*2+1)),fun _=>True,fun _=>True,Vl 10 (Ix (sb m) (so m+k*2)),Vl 11 (Ix (sb m) (so m+k*2+1)),fun _=>True]) [[],[0],[],[],[3],[],[3,4,5],[3,4,5,6],[3,4,5,6,7],[3,4,5,6,7,8],(rg 10),(rg 11),(rg 12)] [8,9,12] [(0,2),(0,2),(0,2),(0,0),(0,0),(0,0),(0,0),(0,0),(0,0),(1,1),(2,2),(2,2),(2,2)] I ⟨fun _ _ _ _ _ _ _=>obl rfl (xo rfl dR),?_,fun _ _ _ _ _ _ _=>obl rfl (mV (Iw k) dR),fun _ _ _ _ _ _ _=>obl rfl (xo rfl dR),ob1 0 fun _ _ (Z:Sep _ _ _ _) aa=>obl rfl (lD m sT (aa 3 dc) (zd (Z.b2) rfl) dR),fun _ _ _ _ _ _ _=>obl rfl (mV (Iw k) dR),?_,fun _ _ _ _ _ _ ab=>obl rfl (yY (ab 6 dc) dR),?_,?_,?_,fun _ _ _ _ _ _ ac=>obl rfl (yY (ac 10 dc) dR),?_,zl⟩ ?_
 refine fun t _ _ aA aB B C=>?_
 have hkk:=UT aA aB
 rcases hkk with rfl|rfl|rfl
 have ad:=B
 exact obl rfl (lD m sT (C 0 dc) (zd (ad.b2) rfl) dR)
 obtain⟨e,q,g,h,ae⟩:=B
 exact obl rfl (lD m sT (C 0 dc) (zd (ae.b2) rfl) dR)
 obtain⟨e,p,q,s,g,h,af⟩:=B
 exact obl rfl (lD m sT (C 0 dc) (zd (af.b3) rfl) dR)
 refine ob1 0 fun _ _ _ K=>(obl rfl ?_)
 have ag:k<x.cls.length:=bo
 exact zf qY uA (K 4 dc) J.1 (K 5 dc) ag dR
 refine ob1 0 fun _ _ (X:Sep _ _ _ _) aC=>(obl rfl ?_)
 have Y:k<x.cls.length:=bo
 obtain⟨_,L,e,rfl,g,h⟩:=X.mixAt (i:=0) (j:=k) rfl (Nat.le_refl _) Y
 rw[←zJ default Y]at L g h
 exact(lD e kY (aC 7 dc) (L.get (j:=1) rfl) (fun M hv E=>⟨(exiA e (zA hv (zA g (zA h X)))),zl⟩))
 refine ob1 1 fun vals _ ai _=>?_
 obtain⟨e,q,g,h,aj⟩:=ai
 refine obl rfl ((zW (vals:=[e]) rfl (yM ⟨q,zl⟩) mA (Yj g aj) ?_))
 rintro p w106 ⟨_,rfl,N⟩
 have ak:=N.r0
 have hr108s:_*8≤_:=ak.2
 exact fun M hv E=>⟨(exiA e (exiA p (zA ((E 8 dc).trans q) (zA hv (zA g (zA h N)))))),zl⟩
 refine ob1 2 fun _ _ al O=>?_
 obtain⟨e,p,q,s,g,h,hS208⟩:=al
 refine obl rfl ?_
 have am:k<x.cls.length:=bo
 exact zf qY uA (O 1 dc) J.1 (O 2 dc) am dR
 refine ob1 2 fun _ _ an ao=>?_
 obtain⟨e,p,q,s,g,h,ap⟩:=an
 refine obl rfl ?_
 have P:=ap.mv1
 have Q:k<x.cls.length:=bo
 have D:=P.r1
 have hr139s:_*8≤_:=D.2
 refine(YW (α:=Cel) (j:=k) (o:=1) (u:=p) (us:=[p]) P nA Q (ao 11 (by decide)) s (congrArg Array.toList (xw D.1.one)) (yQ rfl) (yo ⟨D.1.one,zl⟩) (fun w f cs0 hr hN=>(by obtain⟨d,rfl,hd,hok⟩:=hr;exact⟨_,rfl,(by rw[←zJ default Q];exact RowE.soft hN),hok⟩)) ?_)
 intro w135 aq
 exact fun M hv E=>⟨(exiA e (exiA p (zA ((E 8 dc).trans q) (zA ((E 9 dc).trans s) (zA g (zA h aq)))))),zl⟩
 intro vals w219 ar hA221
 obtain⟨e,p,q,s,g,h,au⟩:=ar
 refine yg (kv:=[(1,Ix b2 0),(2,Ix R 0),(10,Iw x.cls.length),(11,Iw k),(12,.bool true),(13,Iw k),(3,Iw k)]) sEv (fun ρw219=>(zb (R0 fun _=>?_)))
 have av:InR ((k+1:Nat):Int):=bo
 refine st (zO (r:=((k+1:Nat):Int)) rfl rfl (by rw[show(((k:Nat):Int)+1:Int)=((k+1:Nat):Int)from bo];exact zw av) (st (mV (Iw (k+1)) (zb ?_))))
 exact⟨_,by omega,k+1,_,rfl,sSf,by omega,au⟩
theorem yqe {p:Prop}(h:p:=by simp[Instr.build,Instr.fill,go_sem,Dcl.cells]):p:=h
theorem zdf:Elem Tryz.prog 22 83 1 24:=⟨tT,_,_,rfl,rfl,rfl,rfl,rfl⟩
theorem Kk {d:Dcl}{dd0:Value}(hdd0:RdS W G dd0 d.types){dd1:Value}(hdd1:RdS W G dd1 d.projs)(od:d.Ok)(hS0:Sep G W Rs w):Ret Tryz.prog 59 [.agg (d.cells dd0 dd1).toArray] w (fun r w'=> ∃(v1:Value) (v2:Value),r=(.agg (d.cells v1 v2).toArray:Value)∧Sep G W ((RowE (α:=Typ) own 83 v1 d.types)::(RowE (α:=Prj) own 73 v2 d.projs)::Rs) w'):=by
 have hdd0s:_*24≤_:=hdd0.small
 have hdd1s:_*40≤_:=hdd1.small
 refine zn Tryz.func59 rfl rfl ?_
 refine za (R0 fun _=>st (zX rfl ?_))
 intro w3 b2 aH
 refine st (zG vA ?_)
 intro w7 H aI
 have ag:=(hS0.new aH).new aI
 refine zb (za (R0 fun _=>st (xJ rfl (st (lD dd1 Tryz.isAgg23 rfl (zd (ag.b1) rfl) (st (cL Tryz.call33 (Vm hdd1 ag) ?_)))))))
 rintro g w10 ⟨_,rfl,I⟩
 have s:=I.r0
 have hr12s:_*40≤_:=s.2
 have ok13:Dcl.Ok (⟨[],d.projs⟩:Dcl):=⟨⟩
 refine st (zV (parts':=[(1,g)]) (v:=.agg ((⟨[],d.projs⟩:Dcl).cells Iz g).toArray) rfl (by obtain⟨_,_,ai,_⟩:=s.1;rw[show g=Value.slice _ _ _ from ai];simp[Instr.build,Instr.fill,go_sem,Yx]) (st (zG vA ?_)))
 intro w17 z aj
 have J:=I.new aj
 refine stn (zy (v:=.agg ((⟨[],d.projs⟩:Dcl).cells Iz g).toArray) kR rfl rfl (J.b0) (yo ⟨rfl,s.1.one,zl⟩) yqc rfl ?_)
 intro w19 ak
 have K:=J.pt0 ak
 refine zb (za (za (R0 fun _=>st (yH rfl (st (lD dd0 lR rfl (zd (K.b3) rfl) (st (zC tT rfl hdd0.sl (st (mV (Iv 0) (zb (zt ?_))))))))))))
 have al:Sep _ _ ((RowE (α:=Typ) own 83 Iz [])::_) _:=K.rowNil own 83
 refine zZ (fun mq σ wq=> ∃k vo ρ,mq=d.types.length-k∧σ=yf ρ [(1,Ix b2 0),(2,Ix H 0),(3,Ix z 0),(13,dd0),(14,Iw d.types.length),(15,Iw k)]∧(k≤d.types.length)∧Sep G W ((RowE own 83 vo (d.types.take k))::(Blk z #[vo,g] 25)::(RowE own 73 g d.projs)::(Blk H #[(Iz),(Iz)] 25)::(Blk b2 (d.cells dd0 dd1).toArray 25)::Rs) wq) ⟨0,(Iz),_,rfl,sSf,zY _,al⟩ ?_
 rintro m24 σ25 w23 ⟨k,vo,ρl1,rfl,rfl,hkk,h⟩
 have an:=h.r0
 have hr27s:_*24≤_:=an.2
 refine za (R0 fun _=>st (zK rfl rfl (zb (za ?_))))
 cases t:decide (((k:Nat):Int)<((d.types.length:Nat):Int))
 have t:=fD t
 have hkn:k=d.types.length:=by omega
 rw[hkn,List.take_of_length_le (Nat.le_refl d.types.length)]at h
 have L:=h.r0
 have hr29s:_*24≤_:=L.2
 refine ze rfl (ya (zR (za (R0 fun _=>?_))))
 have ok30:Dcl.Ok d:=⟨⟩
 refine st (zh pR kR rfl rfl (zo (h.b1)) (stn (zy (v:=.agg (d.cells vo g).toArray) kR rfl rfl (h.b3) (yo ⟨L.1.one,s.1.one,zl⟩) yqc rfl ?_)))
 intro aJ ao
 have M:=h.pt3 ao
 refine zb (zq (Yd Tryz.results59 pR kR rfl rfl (zo (M.b3)) ?_))
 have ap:Sep G W ((RowE (α:=Typ) own 83 vo d.types)::(RowE own 73 g d.projs)::Rs) aJ:=M.sel 5 [0,2] (xq _ _) rfl rfl
 refine⟨vo,g,rfl,ap⟩
 have t:=tD t
 refine zg rfl (zp (za (zt (za (R0 fun _=>?_)))))
 have aq:k<d.types.length:=bo
 refine st (zf tT mT rfl hdd0.sl rfl aq ?_)
 have N:k<d.types.length:=bo
 obtain⟨ad,m,hoke36⟩:=hdd0.typD N
 have hsm38:((d.types.getD k default).fields).length*48≤140737488355328:=m.small
 have ae:=h.cells ad (hdd0.foot (ne_of_lt N))
 refine st (zh uT mT rfl rfl ae (st (zG qR ?_)))
 intro w42 O ar
 have P:=h.new ar
 refine stn (zy (v:=.agg ((d.types.getD k default).cells (zT W (sb dd0) (so dd0+k*1+0))).toArray) mT rfl rfl (P.b0) (yo ⟨m.sl.one,zl⟩) yqc rfl ?_)
 intro w44 au
 have Q:=P.pt0 au
 refine zb (za (R0 fun _=>st (yU rfl (st (lD (zT W (sb dd0) (so dd0+k*1+0)) wA rfl (zd (Q.b0) rfl) (st (cL Tryz.call34 (WR m Q) ?_)))))))
 rintro e w48 ⟨_,rfl,R⟩
 have S:=R.r0
 have hr50s:_*48≤_:=S.2
 refine st (aS e (zb (za (za (R0 fun _=>st (mV e (st (zC vT rfl S.1 (st (mV (Iv 0) (zb (zt ?_))))))))))))
 have av:=R.toMix
 refine zZ (fun mq σ wq=> ∃q ρ,mq=((d.types.getD k default).fields).length-q∧σ=yf ρ [(1,Ix b2 0),(2,Ix H 0),(3,Ix z 0),(5,Ix O 0),(6,e),(13,dd0),(14,Iw d.types.length),(15,Iw k),(23,Iw (((d.types.getD k default).fields).length)),(24,Iw q)]∧(q≤((d.types.getD k default).fields).length)∧Sep G W ((RowE (mix G W) 87 e (ZE q ((d.types.getD k default).fields)))::(Blk O ((d.types.getD k default).cells (zT W (sb dd0) (so dd0+k*1+0))).toArray 83)::(RowE own 83 vo (d.types.take k))::(Blk z #[vo,g] 25)::(RowE own 73 g d.projs)::(Blk H #[(Iz),(Iz)] 25)::(Blk b2 (d.cells dd0 dd1).toArray 25)::Rs) wq) ⟨0,_,rfl,sSf,zY _,av⟩ ?_
 rintro m53 σ54 aK ⟨q,ρl2,rfl,rfl,hkq,x⟩
 have B:=x.r0
 rw[xY]at B
 refine za (R0 fun _=>st (zK rfl rfl (zb (za ?_))))
 cases y:decide (((q:Nat):Int)<((((d.types.getD k default).fields).length:Nat):Int))
 have y:=fD y
 have C:Sep G W ((RowE (α:=Fld) own 87 e ((d.types.getD k default).fields))::(Blk O ((d.types.getD k default).cells (zT W (sb dd0) (so dd0+k*1+0))).toArray 83)::(RowE own 83 vo (d.types.take k))::(Blk z #[vo,g] 25)::(RowE own 73 g d.projs)::(Blk H #[(Iz),(Iz)] 25)::(Blk b2 (d.cells dd0 dd1).toArray 25)::Rs) aK:=x.ofMix om
 have T:=C.r0
 have hr59s:_*48≤_:=T.2
 refine ze rfl (ya (zR (R0 fun _=>st (yH rfl (st (lD vo lR rfl (zd (C.b3) rfl) (st (mV e ?_))))))))
 have aw:Typ.Ok (d.types.getD k default):=⟨⟩
 refine st (zV (parts':=[(0,e)]) (v:=.agg ((d.types.getD k default).cells e).toArray) rfl (by obtain⟨_,_,ax,_⟩:=T.1;rw[show e=Value.slice _ _ _ from ax];simp[Instr.build,Instr.fill,go_sem,Yx]) (st (zH (c:=((d.types.getD k default).cells e).toArray) tT mT qR (by decide) rfl (by kernel_rfl) ?_)))
 intro w64 b63 ay
 have U:=C.new ay
 have af:=U.b0
 refine st (yq (src:=own) (bytes:=24) (x1:=(d.types.getD k default)) (U.s8_dbcefgh) zdf rfl rfl af (fun _ _ hN=>⟨_,rfl,RowE.soft hN,aw⟩) yqb rfl ?_)
 intro V w66 D
 have X:=D.r0
 refine st (yH rfl (stn (ym Tryz.sizeOf22 rfl rfl (D.b2) X.1.one rfl rfl ?_)))
 intro w72 aA
 refine zb (R0 fun _=>?_)
 have aB:InR ((k+1:Nat):Int):=bo
 refine st (zO (r:=((k+1:Nat):Int)) rfl rfl (by rw[show(((k:Nat):Int)+1:Int)=((k+1:Nat):Int)from bo];exact zw aB) (st (mV (Iw (k+1)) (zb ?_))))
 have Y:=(D.pt2 aA).s6_acdef
 have aC:(d.types.take (k+1))=(d.types.take k)++[(d.types.getD k default)]:=(List.take_getD om)
 rw[←aC]at Y
 exact⟨_,by omega,k+1,V,_,rfl,sSf,by omega,Y⟩
 have y:=tD y
 refine zg rfl (zp (za (zt (za (R0 fun _=>st (mV (Iw q) (st (aS (Iw q) (zb (R0 fun _=>st (mV e (st (mV (Iw q) (st (mV e (st (mV (Iw q) ?_)))))))))))))))))
 have aD:q<((d.types.getD k default).fields).length:=bo
 refine st (zf vT wT rfl B.1 rfl aD (st (yT rfl ?_)))
 have Z:q<((d.types.getD k default).fields).length:=bo
 obtain⟨_,F,A,rfl,p,aa⟩:=x.mixAt (i:=0) (j:=q) rfl (Nat.le_refl _) Z
 rw[←zJ default Z]at F p aa
 refine st (lD A Tryz.isAgg85 rfl (F.get (j:=3) rfl) (st (cL Tryz.call35 (Wi p x) ?_)))
 rintro ah w83 ⟨_,rfl,ab⟩
 have E:=ab.r0
 have aE:q<((d.types.getD k default).fields).length:=bo
 refine st (zf vT wT rfl B.1 rfl aE (st (yT rfl ?_)))
 have ac:q<((d.types.getD k default).fields).length:=bo
 refine stn (YW (α:=Fld) (j:=q) (o:=3) (u:=ah) (us:=[ah]) (ab.mv1) Tryz.sizeOf85 ac rfl rfl (congrArg Array.toList (xw E.1.one)) (yQ rfl) (yo ⟨E.1.one,zl⟩) (fun w f cs0 hr hN=>(by obtain⟨d,rfl,hd,hok⟩:=hr;exact⟨_,rfl,(by rw[←zJ default ac];exact RowE.soft hN),hok⟩)) ?_)
 intro w87 aF
 refine zb (R0 fun _=>?_)
 have aG:InR ((q+1:Nat):Int):=bo
 refine st (zO (r:=((q+1:Nat):Int)) rfl rfl (by rw[show(((q:Nat):Int)+1:Int)=((q+1:Nat):Int)from bo];exact zw aG) (st (mV (Iw (q+1)) (zb ?_))))
 exact⟨_,by omega,q+1,_,rfl,sSf,by omega,aF⟩
theorem JX {d:Dcl}{dd0:Value}(hdd0:RdS W G dd0 d.types){dd1:Value}(hdd1:RdS W G dd1 d.projs)(od:d.Ok)(hS0:Sep G W Rs w):Ret Tryz.prog 36 [.agg (d.cells dd0 dd1).toArray] w (fun r w'=> ∃(b:Nat),r=(.pointer (some ⟨b,0,none⟩):Value)∧Sep G W ((ViewO b d [] [])::Rs) w'):=by
 refine zn Tryz.func36 rfl rfl ?_
 refine za (R0 fun _=>st (zX rfl ?_))
 intro w3 b2 y
 have l:=hS0.new y
 refine st (aS (.pointer none) (zb (za (R0 fun _=>st (zh pR kR rfl rfl (zo (l.b0)) (st (cL Tryz.call59 (Kk hdd0 hdd1 od l) ?_)))))))
 rintro _ C ⟨a,c,rfl,h⟩
 have A:=h.r0
 have n:=h.r1
 refine st (Yq ?_)
 intro m o
 obtain⟨e,i⟩: ∃z,z=C.heap.size:=⟨_,rfl⟩;rw[←i]
 have p:Sep G W ((xk Zv E1 e (fun _=>none))::(RowE (α:=Typ) own 83 a d.types)::(RowE own 73 c d.projs)::(Blk b2 (d.cells dd0 dd1).toArray 25)::Rs) m:=(by rw[i];exact h.mapoNew o)
 refine st (Yq ?_)
 intro B q
 obtain⟨f,j⟩: ∃z,z=m.heap.size:=⟨_,rfl⟩;rw[←j]
 have s:Sep G W ((xk Zr E2 f (fun _=>none))::(xk Zv E1 e (fun _=>none))::(RowE (α:=Typ) own 83 a d.types)::(RowE own 73 c d.projs)::(Blk b2 (d.cells dd0 dd1).toArray 25)::Rs) B:=(by rw[j];exact p.mapoNew q)
 refine st (zV (parts':=[(0,.agg (d.cells a c).toArray),(2,.map (some e)),(3,.map (some f))]) (v:=.agg #[a,c,(Iz),.map (some e),.map (some f)]) rfl yqe (st (zX rfl ?_)))
 intro w21 g t
 refine st (aS (Ix g 0) (zb (zq (zU Tryz.results36 rfl ?_))))
 have u:Sep _ _ ((RowE (α:=Ent) own 57 Iz [])::_) _:=(s.new t).rowNil own 57
 have x:Sep _ _ ((ViewO g d [] [])::_) _:=ViewO.close (u.s7_befadcg)
 refine⟨g,rfl,(x.s2_a)⟩
theorem Yu {P:Program}{n:Nat}{c:Code}{Q:Xz}{σ:Env}{w:World}(J:Env→World→Prop)(h:WP P n c (fun e σ w=>e=.normal∧J σ w) σ w)(hq: ∀σ w,J σ w→Q .normal σ w):WP P n c Q σ w:=fun a hs=>
 wp_mono (h a hs) (by rintro e a' w' ⟨σ'',hs'',rfl,hj⟩;exact⟨σ'',hs'',hq _ _ hj⟩)
abbrev RwV (v:Value)(l:List Ev):HP:=RowE (α:=Ev) own 55 v l
abbrev RwN (v:Value)(l:List Ent):HP:=RowE (α:=Ent) own 57 v l
abbrev RwT (v:Value)(l:List Typ):HP:=RowE (α:=Typ) own 83 v l
abbrev RwP (v:Value)(l:List Prj):HP:=RowE (α:=Prj) own 73 v l
abbrev RwI (v:Value)(l:List Int):HP:=RowE (α:=Int) own 3 v l
abbrev RwC (v:Value)(l:List Cel):HP:=RowE (α:=Cel) own 105 v l
abbrev Ms1 (m:Nat)(d:Dcl)(M:List Ent)(k:Int×Int)(vc:Value):HP:=Yb Zv E1 QD m (zj d M) k (.agg #[.int .i64 ((yw k M:Nat):Int),vc])
abbrev Md1 (m:Nat)(M:List Ent)(e:Ev)(v:Value):HP:=Yb Zr E2 (.slice none 0 0) m (yN M) (e.typ,e.agg,e.field) v
abbrev BkP (b:Nat)(e:Ev):HP:=Blk b #[.int .i64 e.typ,.int .i64 e.agg,.int .i64 e.field] 158
abbrev BkT (b:Nat)(d:Dcl)(e:Ev)(W:World)(v:Value):HP:=Blk b ((d.types.getD e.typ.toNat default).cells (zT W (sb v) (so v+e.typ.toNat*1+0))).toArray 83
abbrev BkV (b:Nat)(vt vp ve:Value)(m4 m5:Nat):HP:=Blk b #[vt,vp,ve,.map (some m4),.map (some m5)] 118
abbrev BkS (b:Nat)(M:List Ent)(k:Int×Int)(v:Value):HP:=Blk b #[.int .i64 ((yw k M:Nat):Int),v] 48
abbrev clL (d:Dcl)(M:List Ent)(e:Ev):List Cel:=yu d (e.typ,e.agg) M
theorem YP {P:Program}{σ:Env}{w:World}{fn:Func}{a u:Tmp}{t:TypeId}{R:Value→World→Prop}{b k:Nat}{cs:List Value}{v':Value}(hr:fn.results=#[.tmp u,.cell a t])(hA: ∀w,(isAgg t).run P w=.ok true w)(hS: ∀w,(sizeOf t).run P w=.ok k w)(hk:cs.length=k)
 (hv:σ a=.pointer (some ⟨b,0,none⟩)) (hc:CellsAt w b 0 cs) (hu:σ u=v') (h:R (.tuple #[v',.agg cs.toArray]) w):Wt P fn R .ret σ w:=by
 subst hk
 refine⟨_,fun tmps ht=>?_,h⟩
 have:=xt (P:=P) (w:=w) b 0 cs 0 #[] (fun j hj=>by simpa using hc j hj)
 have e:tmps[a]?.getD undef=.pointer (some ⟨b,0,none⟩):=by rw[←hv,←ht a];simp
 have e2:tmps[u]?.getD undef=v':=by rw[←hu,←ht u];simp
 simp[results,hr,e,e2,asAddr,loadVar,hA,hS,loadCells,this,go_sem]
theorem KX {p:Ev→Bool}: ∀{l:List Ev} {k:Nat},k<l.length→(∀i,i<k→p (l.getD i default)=false)→p (l.getD k default)=true→l.find? p=some (l.getD k default)
 |[],k,hk,_,_=>absurd hk (Nat.not_lt_zero k)
 |x::l,0,_,_,h1=>by have h1:p x=true:=h1;rw[List.find?_cons,h1];rfl
 |x::l,k+1,hk,h0,h1=>by
  have hx:p x=false:=h0 0 (Nat.succ_pos _)
  rw[List.find?_cons,hx]
  exact KX (by simpa using hk) (fun i hi=>h0 (i+1) (by omega)) h1
theorem zbF {p:Ev→Bool}{l:List Ev}(h: ∀i,i<l.length→p (l.getD i default)=false):l.find? p=none:=by
 rw[List.find?_eq_none]
 intro x hx
 obtain⟨i,hi,rfl⟩:=List.getElem_of_mem hx
 have:=h i hi
 rw[zJ _ hi]at this
 rw[this];decide
theorem zac (k:Int×Int×Int)(L:List Ent):(yB k L).length≤L.length:=by unfold yB;rw[List.length_map];exact List.length_filter_le _ _
section
variable {d:Dcl}{M:List Ent}{e:Ev}
theorem VA (h: ¬xp d e.typ e.field e.op e.arg=0):yh d M e=(true,0,0):=by unfold yh;rw[if_pos h]
theorem zcU {k:Nat}(h:xp d e.typ e.field e.op e.arg=0)(hk:k<(yB (e.typ,e.agg,e.field) M).length)(h0: ∀i,i<k→xl ((d.types.getD e.typ.toNat default).fields.getD e.field.toNat default) ((yB (e.typ,e.agg,e.field) M).getD i default) e=false)
 (h1:xl ((d.types.getD e.typ.toNat default).fields.getD e.field.toNat default) ((yB (e.typ,e.agg,e.field) M).getD k default) e=true):yh d M e=(true,((yB (e.typ,e.agg,e.field) M).getD k default).origin,((yB (e.typ,e.agg,e.field) M).getD k default).seq):=by
 unfold yh Yn
 rw[if_neg (by simpa using h),KX (p:=fun x=>xl ((d.types.getD e.typ.toNat default).fields.getD e.field.toNat default) x e) hk h0 h1]
theorem zaP (h:xp d e.typ e.field e.op e.arg=0)(h0: ∀i,i<(yB (e.typ,e.agg,e.field) M).length→xl ((d.types.getD e.typ.toNat default).fields.getD e.field.toNat default) ((yB (e.typ,e.agg,e.field) M).getD i default) e=false):
 yh d M e=if ¬xB (d.types.getD e.typ.toNat default) (yu d (e.typ,e.agg) M) e.field e.op e.arg=0 then(true,0,0)else(false,0,0):=by
 unfold yh Yn
 rw[if_neg (by simpa using h),zbF (p:=fun x=>xl ((d.types.getD e.typ.toNat default).fields.getD e.field.toNat default) x e) h0]
end
theorem QB {G:Nat→Prop}{W w:World}{As:List HP}{d:Dcl}{M:List Ent}{v2 vc:Value}{k:Int×Int}(h:Sep G W (RowE (α:=Cel) own 105 v2 (yu d k M)::As) w)(hv:v2=vc∨yw k M=0):Sep G W (Wc E1 (.agg #[.int .i64 ((yw k M:Nat):Int),vc]) (zj d M k)::As) w:=by
 refine h.impl (i:=0) rfl (fun f hA=>?_)
 unfold zj
 by_cases he:yw k M=0
 ·rw[if_pos he];exact trivial
 ·rw[if_neg he]
  obtain rfl:=hv.resolve_right he
  exact⟨v2,rfl,hA⟩
theorem Qe {d:Dcl}{M:List Ent}{k:Int×Int}(h:(zj d M k).isSome=false):yw k M=0:=by
 unfold zj at h
 by_cases h8:yw k M=0
 ·exact h8
 ·rw[if_neg h8]at h;cases h
theorem UY {d:Dcl}{M:List Ent}{k:Int×Int}(h:(zj d M k).isSome=true): ¬yw k M=0:=by
 intro h8
 unfold zj at h
 rw[if_pos h8]at h;cases h
theorem zae {t:Typ}{c:List Cel}{f:Int}(h:Right t c)(h0:0≤f)(h1:f<t.fields.length):(yE c f).set.length≤1000:=by
 have:=h.most f.toNat (by have:=h.len;omega)
 exact Nat.le_trans this (by omega)
theorem Us:Elem Tryz.prog 26 55 10 96:=⟨rR,_,_,rfl,rfl,rfl,rfl,rfl⟩
set_option maxHeartbeats 8000000 in
theorem D_try {b:Nat}{d:Dcl}{L:List Ent}{M:List Ent}{e:Ev}{ve0:Value}(oe:e.Ok)(hKN:RdS W G (.slice (some ⟨0,0,none⟩) 6 6) kindsL)(hS0:Sep G W ((ViewO b d L M)::(RowE (α:=Int) own 3 ve0 e.deps)::Rs) w)(hd:DclOk d)(hinv:Inv d M)(hml:M.length≤1000000):Ret Tryz.prog 82 [.pointer (some ⟨b,0,none⟩),.agg (e.cells ve0).toArray] w (fun r w'=>r=(.tuple #[.bool ((yh d M e).1),.agg #[.int .i64 ((yh d M e).2.1),.int .i64 ((yh d M e).2.2)]]:Value)∧(InR (yh d M e).2.1∧InR (yh d M e).2.2)∧Sep G W ((ViewO b d L (M++[ye d M e]))::Rs) w'):=by
 let jX:=ViewO b d L (M++[ye d M e])
 let bi:=(e.typ,e.agg,e.field)
 have hKNs:_*8≤_:=hKN.small
 refine zn (args:=[Ix b 0,.agg (e.cells ve0).toArray]) Tryz.func82 rfl rfl ?_
 obtain⟨l,O,T,P,R,jL⟩:=ViewO.open hS0
 let jV:=xk Zr E2 R (yN M)
 let jT:=xk Zv E1 P (zj d M)
 let hv:=xk Zv E1 P (Xx (zj d M) (e.typ,e.agg) (yw (e.typ,e.agg) M+1,(doL (d.types.gd e.typ.toNat) (clL d M e) e.field e.op e.arg)))
 have bb:Sep G W ((BkV b l O T P R)::(RwT l d.types)::(RwP O d.projs)::(RwN T L)::jT::jV::(RwI ve0 e.deps)::Rs) w:=jL
 have jM:=bb.r1
 have hr7s:_*24≤_:=jM.2
 have jN:=bb.r2
 have hr8s:_*40≤_:=jN.2
 have jO:=bb.r3
 have hr9s:_*120≤_:=jO.2
 have jl:=bb.r6
 have hr10s:_*8≤_:=jl.2
 refine za (R0 fun _=>st (zX (v:=.agg (e.cells ve0).toArray) rfl ?_))
 intro w13 s jm
 let bG:=Blk s (e.cells ve0).toArray 55
 refine st (aS (.bool false) (st (zG Tryz.zeroValue52 ?_)))
 intro w17 I jn
 let jS:=Blk I #[Iv 0,Iv 0] 52
 refine zb (za (za ?_))
 refine WD4 ((fun TT J ab ad=>WF [fun vals B=>Sep G W (J::ab::ad::(RwT l d.types)::(RwP O d.projs)::TT) B,fun vals B=>(vals 12=(Iv (xp d e.typ e.field e.op e.arg):Value))∧Sep G W ((RwT l d.types)::(RwP O d.projs)::J::ab::ad::TT) B]) ((RwN T L)::jT::jV::(RwI ve0 e.deps)::Rs) jS bG (BkV b l O T P R)) (AF [Vl 0 (Ix b 0),Vl 1 (Ix b 0),Vl 2 (Ix b 0),Vl 3 (.agg (d.cells l O).toArray),Vl 4 (Ix s 4),Vl 5 (Iv (e.typ)),Vl 6 (Ix s 6),Vl 7 (Iv (e.field)),Vl 8 (Ix s 7),Vl 9 (Iv (e.op)),Vl 10 (Ix s 8),Vl 11 (Iv (e.arg)),fun _=>True,Vl 13 (.bool (!decide ((xp d e.typ e.field e.op e.arg)=0)))]) [[],[0],[0,1],[0,1,2],[],[4],[],[6],[],[8],[],[10],(rg 12),(rg 13)] [12] [(0,0),(0,0),(0,0),(0,0),(0,0),(0,0),(0,0),(0,0),(0,0),(0,0),(0,0),(0,0),(0,0),(1,1)] ((bb.new jm).new jn) ⟨fun _ _ _ _ _ _ _=>obl rfl (mV (Ix b 0) dR),fun _ _ _ _ _ _ gs=>obl rfl (zm (b:=b) (o:=0) (gs 0 dc) dR),fun _ _ _ _ _ _ gt=>obl rfl (KQ (gt 1 dc) dR),?_,fun _ _ _ _ _ _ _=>obl rfl (xm rfl dR),ob1 0 fun _ _ (gu:Sep _ _ _ _) gv=>obl rfl (lD (Iv (e.typ)) kT (gv 4 dc) (zd (gu.b1) rfl) dR),fun _ _ _ _ _ _ _=>obl rfl (xM rfl dR),ob1 0 fun _ _ (gw:Sep _ _ _ _) gx=>obl rfl (lD (Iv (e.field)) kT (gx 6 dc) (zd (gw.b1) rfl) dR),fun _ _ _ _ _ _ _=>obl rfl (Ze rfl dR),ob1 0 fun _ _ (gy:Sep _ _ _ _) gz=>obl rfl (lD (Iv (e.op)) kT (gz 8 dc) (zd (gy.b1) rfl) dR),fun _ _ _ _ _ _ _=>obl rfl (xy rfl dR),ob1 0 fun _ _ (gA:Sep _ _ _ _) gB=>obl rfl (lD (Iv (e.arg)) kT (gB 10 dc) (zd (gA.b1) rfl) dR),?_,?_,zl⟩ ?_
 refine ob1 0 fun _ _ (gC:Sep _ _ _ _) gD=>(obl rfl ?_)
 have ok172:Dcl.Ok d:=⟨⟩
 exact zh (k:=2) pR kR rfl (gD 2 dc) (CellsAt.sub (zo (gC.b2)) 0 rfl) dR
 refine ob1 0 fun vals _ (gE:Sep _ _ _ _) aq=>(obl rfl ?_)
 obtain⟨G117,gF,gG,gH,gI⟩:=(gE.mv3).lend
 have bK:=RowE.rd gF
 have hrd123s:_*24≤_:=bK.small
 obtain⟨G125,gJ,cR,gK,gL⟩:=(gH.mv3).lend
 have bL:=RowE.rd gJ
 have hrd131s:_*40≤_:=bL.small
 refine(zW (f:=95) (vals:=[.agg (d.cells l O).toArray,Iv (e.typ),Iv (e.field),Iv (e.op),Iv (e.arg)]) (cap:=[]) rfl (yM ⟨(aq 3 dc),(aq 5 dc),(aq 7 dc),(aq 9 dc),(aq 11 dc),zl⟩) Tryz.call95 (zdG (d:=d) (ty:=e.typ) (f:=e.field) (op:=e.op) (arg:=e.arg) (zv bK cR) bL (⟨⟩:Dcl.Ok d) oe.typ oe.field oe.op oe.arg (zv (zv hKN gG) cR) gK) ?_)
 rintro _ w132 ⟨rfl,gM⟩
 have gN:=gL _ _ gM
 have gO:=gI _ _ gN
 exact fun C Q D=>⟨(zA Q gO),zl⟩
 refine ob1 1 fun _ _ gP _=>?_
 obtain⟨cS,hS235⟩:=gP
 exact obl rfl (yy (k:=.i64) (a:=xp d e.typ e.field e.op e.arg) (b:=0) cS rfl dR)
 intro vals p gQ gR
 let bF:=zT p (sb l) (so l+e.typ.toNat*1+0)
 let jP:=(d.types.gd e.typ.toNat).cells bF
 obtain⟨cS,cT⟩:=gQ
 have jo:=gR 13 dc
 refine yg (kv:=[(0,Ix b 0),(1,.agg (e.cells ve0).toArray),(3,Ix s 0),(4,.bool false),(5,Ix I 0),(25,.bool (!decide ((xp d e.typ e.field e.op e.arg)=0)))]) ⟨rfl,rfl,rfl,rfl,rfl,(by exact jo),zl⟩ (fun ρw236=>(zb ?_))
 cases ag: !decide ((xp d e.typ e.field e.op e.arg)=0)
 have ag:=zQ ag
 have hfo:=XR ag
 have hfz:=ag
 have dK:=hfo.1;have dL:=hfo.2.1;have hft:=hfo.2.2
 have hfl:=hft.lo;have hfh:=hft.hi
 refine ze rfl (zp (za ?_))
 have cU:=cT.s9_acdeghibf
 generalize bx:((RwP O d.projs)::(RwN T L)::Rs)=aj at cU
 obtain⟨N,gS,hB248,gT,bz⟩:=cU.lend
 have K:=RowE.rd gS
 have hrd251s:_*24≤_:=K.small
 refine WD6 ((fun TT J=>WF [fun vals B=>Sep N p (J::TT) B,fun vals B=> ∃(j:Nat),(vals 17=(Ix j 0:Value))∧Sep N p ((Blk j #[(Iz)] 83)::J::TT) B,fun vals B=> ∃(g:Nat),(vals 18=(Ix g 0:Value))∧Sep N p ((Blk g #[Iv 0,Iv 0,Iv 0] 158)::J::TT) B,fun vals B=> ∃(j:Nat) (g:Nat),(vals 17=(Ix j 0:Value))∧(vals 18=(Ix g 0:Value))∧Sep N p ((Blk g #[Iv 0,Iv 0,Iv 0] 158)::(Blk j #[(Iz)] 83)::J::TT) B,fun _ _=>True,fun _ _=>True,fun _ _=>True,fun vals B=> ∃(j:Nat) (g:Nat),(vals 17=(Ix j 0:Value))∧(vals 18=(Ix g 0:Value))∧Sep N p ((Blk g #[Iv 0,Iv 0,Iv 0] 158)::(BkT j d e p l)::J::TT) B,fun _ _=>True,fun _ _=>True,fun _ _=>True,fun _ _=>True,fun _ _=>True,fun _ _=>True,fun _ _=>True,fun vals B=> ∃(j:Nat) (g:Nat),(vals 17=(Ix j 0:Value))∧(vals 18=(Ix g 0:Value))∧Sep N p ((BkP g e)::(BkT j d e p l)::J::TT) B]) (bG::(BkV b l O T P R)::jT::jV::(RwI ve0 e.deps)::aj) jS) (AF [Vl 0 (Ix b 0),Vl 1 (Ix b 0),Vl 2 (Ix b 0),Vl 3 (Ix b 0),Vl 4 l,Vl 5 (Ix s 4),Vl 6 (Iv (e.typ)),Vl 7 (Ix (sb l) (so l+e.typ.toNat*1)),Vl 8 (.agg jP.toArray),Vl 9 (Ix s 4),Vl 10 (Iv (e.typ)),Vl 11 (Ix s 5),Vl 12 (Iv (e.agg)),Vl 13 (.agg #[Iv (e.typ),Iv (e.agg)]),Vl 14 (Ix s 6),Vl 15 (Iv (e.field)),Vl 16 (.agg #[Iv (e.typ),Iv (e.agg),Iv (e.field)]),fun _=>True,fun _=>True,fun _=>True,fun _=>True]) [[],[0],[0,1],[0,1,2],(rg 4),[],[5],(rg 7),(rg 8),[],[9],[],[11],[9,10,11,12],[],[14],[9,10,11,12,13,14,15],[],[],[0,1,2,3,4,5,6,7,8,17,18],(rg 20)] [17,18,19,20] [(rg 4),(rg 4),(rg 4),(rg 4),(rg 4),(rg 4),(rg 4),(rg 4),(rg 4),[0,1,2,3,7],[0,1,2,3,7],[0,1,2,3,7],[0,1,2,3,7],[0,1,2,3,7],[0,1,2,3,7],[0,1,2,3,7],[0,1,2,3,7],[0,2],[0,1],[3],[7]] gT ⟨fun _ _ _ _ _ _=>obl rfl (mV (Ix b 0) dR),fun _ _ _ _ _ gU=>obl rfl (zm (b:=b) (o:=0) (gU 0 (by decide)) dR),fun _ _ _ _ _ gV=>obl rfl (KQ (gV 1 (by decide)) dR),fun _ _ _ _ _ gW=>obl rfl (yH (gW 2 (by decide)) dR),?_,fun _ _ _ _ _ _=>obl rfl (xm rfl dR),?_,?_,?_,fun _ _ _ _ _ _=>obl rfl (xm rfl dR),?_,fun _ _ _ _ _ _=>obl rfl (Zc rfl dR),?_,fun _ _ _ _ _ cV=>obl rfl (zV (parts':=[(0,Iv (e.typ)),(1,Iv (e.agg))]) (v:=.agg #[Iv (e.typ),Iv (e.agg)]) (Za ⟨rfl,(cV 10 (by decide)),rfl,(cV 12 (by decide)),zl⟩) (by simp+zetaDelta [Instr.build,Instr.fill,go_sem,Yx]) dR),fun _ _ _ _ _ _=>obl rfl (xM rfl dR),?_,fun _ _ _ _ _ cW=>obl rfl (zV (parts':=[(0,.agg #[Iv (e.typ),Iv (e.agg)]),(1,Iv (e.field))]) (v:=.agg #[Iv (e.typ),Iv (e.agg),Iv (e.field)]) (Za ⟨rfl,(cW 13 (by decide)),rfl,(cW 15 (by decide)),zl⟩) (by simp+zetaDelta [Instr.build,Instr.fill,go_sem,Yx]) dR),?_,?_,?_,?_,zl⟩ ?_
 intro jp vals w439 gX aK aL
 have bM:jp∈[0,1,2,3]:=gX
 simp only[yA]at bM
 rcases bM with rfl|rfl|rfl|rfl
 have gY:Sep _ _ _ _:=aK
 exact obl rfl (lD l lR (aL 3 dc) (zd (gY.b2) rfl) dR)
 obtain⟨j,y,gZ⟩:=aK
 exact obl rfl (lD l lR (aL 3 dc) (zd (gZ.b3) rfl) dR)
 obtain⟨g,z,ha⟩:=aK
 exact obl rfl (lD l lR (aL 3 dc) (zd (ha.b3) rfl) dR)
 obtain⟨j,g,y,z,hb⟩:=aK
 exact obl rfl (lD l lR (aL 3 dc) (zd (hb.b4) rfl) dR)
 intro jq vals w457 hc aM aN
 have bN:jq∈[0,1,2,3]:=hc
 simp only[yA]at bN
 rcases bN with rfl|rfl|rfl|rfl
 have he:Sep _ _ _ _:=aM
 exact obl rfl (lD (Iv (e.typ)) kT (aN 5 dc) (zd (he.b1) rfl) dR)
 obtain⟨j,y,hf⟩:=aM
 exact obl rfl (lD (Iv (e.typ)) kT (aN 5 dc) (zd (hf.b2) rfl) dR)
 obtain⟨g,z,hg⟩:=aM
 exact obl rfl (lD (Iv (e.typ)) kT (aN 5 dc) (zd (hg.b2) rfl) dR)
 obtain⟨j,g,y,z,hh⟩:=aM
 exact obl rfl (lD (Iv (e.typ)) kT (aN 5 dc) (zd (hh.b3) rfl) dR)
 intro jr vals w470 hj aO ae
 have bO:jr∈[0,1,2,3]:=hj
 simp only[yA]at bO
 rcases bO with rfl|rfl|rfl|rfl
 have hS474:Sep _ _ _ _:=aO
 refine obl rfl ?_
 have hi477:e.typ.toNat<d.types.length:=bo
 exact zB (k:=1) (i:=e.typ) tT mT (ae 4 dc) K.sl (ae 6 dc) ⟨by omega,by omega⟩ dR
 obtain⟨j,y,hS478⟩:=aO
 refine obl rfl ?_
 have hi481:e.typ.toNat<d.types.length:=bo
 exact zB (k:=1) (i:=e.typ) tT mT (ae 4 dc) K.sl (ae 6 dc) ⟨by omega,by omega⟩ dR
 obtain⟨g,z,hS482⟩:=aO
 refine obl rfl ?_
 have hi485:e.typ.toNat<d.types.length:=bo
 exact zB (k:=1) (i:=e.typ) tT mT (ae 4 dc) K.sl (ae 6 dc) ⟨by omega,by omega⟩ dR
 obtain⟨j,g,y,z,hS486⟩:=aO
 refine obl rfl ?_
 have hi489:e.typ.toNat<d.types.length:=bo
 exact zB (k:=1) (i:=e.typ) tT mT (ae 4 dc) K.sl (ae 6 dc) ⟨by omega,by omega⟩ dR
 intro js vals w491 hk aP aQ
 have bP:js∈[0,1,2,3]:=hk
 simp only[yA]at bP
 rcases bP with rfl|rfl|rfl|rfl
 have hl:Sep _ _ _ _:=aP
 refine obl rfl ?_
 have cX:e.typ.toNat<d.types.length:=bo
 obtain⟨dM,cM,hoke497⟩:=K.typD cX
 have hsm499:((d.types.gd e.typ.toNat).fields).length*48≤140737488355328:=cM.small
 have dN:=hl.cells dM (K.foot (ne_of_lt cX))
 exact zh (k:=1) uT mT rfl (aQ 7 dc) dN dR
 obtain⟨j,y,hm⟩:=aP
 refine obl rfl ?_
 have cY:e.typ.toNat<d.types.length:=bo
 obtain⟨dO,cN,hoke503⟩:=K.typD cY
 have hsm505:((d.types.gd e.typ.toNat).fields).length*48≤140737488355328:=cN.small
 have dP:=hm.cells dO (K.foot (ne_of_lt cY))
 exact zh (k:=1) uT mT rfl (aQ 7 dc) dP dR
 obtain⟨g,z,hn⟩:=aP
 refine obl rfl ?_
 have cZ:e.typ.toNat<d.types.length:=bo
 obtain⟨dQ,cO,hoke509⟩:=K.typD cZ
 have hsm511:((d.types.gd e.typ.toNat).fields).length*48≤140737488355328:=cO.small
 have dS:=hn.cells dQ (K.foot (ne_of_lt cZ))
 exact zh (k:=1) uT mT rfl (aQ 7 dc) dS dR
 obtain⟨j,g,y,z,ho⟩:=aP
 refine obl rfl ?_
 have da:e.typ.toNat<d.types.length:=bo
 obtain⟨dU,cP,hoke515⟩:=K.typD da
 have hsm517:((d.types.gd e.typ.toNat).fields).length*48≤140737488355328:=cP.small
 have dV:=ho.cells dU (K.foot (ne_of_lt da))
 exact zh (k:=1) uT mT rfl (aQ 7 dc) dV dR
 intro jt vals w525 hp ar au
 have bQ:jt∈[0,1,2,3,7]:=hp
 simp only[yA]at bQ
 rcases bQ with rfl|rfl|rfl|rfl|rfl
 have hq:Sep _ _ _ _:=ar
 exact obl rfl (lD (Iv (e.typ)) kT (au 9 dc) (zd (hq.b1) rfl) dR)
 obtain⟨j,y,hr⟩:=ar
 exact obl rfl (lD (Iv (e.typ)) kT (au 9 dc) (zd (hr.b2) rfl) dR)
 obtain⟨g,z,hs⟩:=ar
 exact obl rfl (lD (Iv (e.typ)) kT (au 9 dc) (zd (hs.b2) rfl) dR)
 obtain⟨j,g,y,z,ht⟩:=ar
 exact obl rfl (lD (Iv (e.typ)) kT (au 9 dc) (zd (ht.b3) rfl) dR)
 obtain⟨j,g,y,z,hu⟩:=ar
 exact obl rfl (lD (Iv (e.typ)) kT (au 9 dc) (zd (hu.b3) rfl) dR)
 intro ju vals w545 hw av aw
 have bR:ju∈[0,1,2,3,7]:=hw
 simp only[yA]at bR
 rcases bR with rfl|rfl|rfl|rfl|rfl
 have hx:Sep _ _ _ _:=av
 exact obl rfl (lD (Iv (e.agg)) kT (aw 11 dc) (zd (hx.b1) rfl) dR)
 obtain⟨j,y,hy⟩:=av
 exact obl rfl (lD (Iv (e.agg)) kT (aw 11 dc) (zd (hy.b2) rfl) dR)
 obtain⟨g,z,hz⟩:=av
 exact obl rfl (lD (Iv (e.agg)) kT (aw 11 dc) (zd (hz.b2) rfl) dR)
 obtain⟨j,g,y,z,hA⟩:=av
 exact obl rfl (lD (Iv (e.agg)) kT (aw 11 dc) (zd (hA.b3) rfl) dR)
 obtain⟨j,g,y,z,hB⟩:=av
 exact obl rfl (lD (Iv (e.agg)) kT (aw 11 dc) (zd (hB.b3) rfl) dR)
 intro jv vals w572 hC ax ay
 have bS:jv∈[0,1,2,3,7]:=hC
 simp only[yA]at bS
 rcases bS with rfl|rfl|rfl|rfl|rfl
 have hD:Sep _ _ _ _:=ax
 exact obl rfl (lD (Iv (e.field)) kT (ay 14 dc) (zd (hD.b1) rfl) dR)
 obtain⟨j,y,hE⟩:=ax
 exact obl rfl (lD (Iv (e.field)) kT (ay 14 dc) (zd (hE.b2) rfl) dR)
 obtain⟨g,z,hF⟩:=ax
 exact obl rfl (lD (Iv (e.field)) kT (ay 14 dc) (zd (hF.b2) rfl) dR)
 obtain⟨j,g,y,z,hG⟩:=ax
 exact obl rfl (lD (Iv (e.field)) kT (ay 14 dc) (zd (hG.b3) rfl) dR)
 obtain⟨j,g,y,z,hH⟩:=ax
 exact obl rfl (lD (Iv (e.field)) kT (ay 14 dc) (zd (hH.b3) rfl) dR)
 intro jw vals w594 hI db hA595
 have bT:jw∈[0,2]:=hI
 simp only[yA]at bT
 rcases bT with rfl|rfl
 have hJ:Sep _ _ _ _:=db
 refine obl rfl ((zG qR ?_))
 intro w601 j hK
 exact fun C Q D=>⟨(exiA j (zA Q (hJ.new hK))),zl⟩
 obtain⟨g,z,hL⟩:=db
 refine obl rfl ((zG qR ?_))
 intro w606 j hM
 exact fun C Q D=>⟨(exiA j (exiA g (zA Q (zA ((D 18 dc).trans z) ((hL.new hM).mv1))))),zl⟩
 intro jx vals w610 hO dd hA611
 have bU:jx∈[0,1]:=hO
 simp only[yA]at bU
 rcases bU with rfl|rfl
 have hP:Sep _ _ _ _:=dd
 refine obl rfl ((zG kB ?_))
 intro w617 g hQ
 exact fun C Q D=>⟨(exiA g (zA Q (hP.new hQ))),zl⟩
 obtain⟨j,y,hR⟩:=dd
 refine obl rfl ((zG kB ?_))
 intro w622 g hS
 exact fun C Q D=>⟨(exiA j (exiA g (zA ((D 17 dc).trans y) (zA Q (hR.new hS))))),zl⟩
 intro jy vals w625 hU hV hW
 have bV:jy∈[3]:=hU
 simp only[yA]at bV
 subst bV
 obtain⟨j,g,y,z,bA⟩:=hV
 refine obl rfl ?_
 have de:e.typ.toNat<d.types.length:=bo
 obtain⟨dW,bc,hoke633⟩:=K.typD de
 have hsm635:((d.types.gd e.typ.toNat).fields).length*48≤140737488355328:=bc.small
 have hcw636:=bA.cells dW (K.foot (ne_of_lt de))
 refine(zy (v:=.agg jP.toArray) (c':=jP.toArray) mT y (hW 8 dc) (bA.b1) (yo ⟨bc.sl.one,zl⟩) yqc rfl ?_)
 intro w631 hX
 exact fun C Q D=>⟨(exiA j (exiA g (zA ((D 17 dc).trans y) (zA ((D 18 dc).trans z) (bA.pt1 hX))))),zl⟩
 intro jz vals w639 hY hZ ia
 have bW:jz∈[7]:=hY
 simp only[yA]at bW
 subst bW
 obtain⟨j,g,y,z,df⟩:=hZ
 refine obl rfl ((zy (v:=.agg #[Iv (e.typ),Iv (e.agg),Iv (e.field)]) (c':=#[Iv (e.typ),Iv (e.agg),Iv (e.field)]) sR z (ia 16 dc) (df.b0) (yo ⟨rfl,rfl,rfl,zl⟩) yqc rfl ?_))
 intro w645 ib
 exact fun C Q D=>⟨(exiA j (exiA g (zA ((D 17 dc).trans y) (zA ((D 18 dc).trans z) (df.pt0 ib))))),zl⟩
 intro vals w648 ic hA650
 obtain⟨j,g,y,z,dg⟩:=ic
 refine yg (kv:=[(0,Ix b 0),(1,.agg (e.cells ve0).toArray),(3,Ix s 0),(4,.bool false),(5,Ix I 0),(25,.bool false),(6,Ix j 0),(7,Ix g 0)]) ⟨rfl,rfl,rfl,rfl,rfl,rfl,(by exact y),(by exact z),zl⟩ (fun ρw648=>(zb (za (za ?_))))
 have dh:e.typ.toNat<d.types.length:=bo
 obtain⟨dX,V,aG⟩:=K.typD dh
 have hsm654:((d.types.gd e.typ.toNat).fields).length*48≤140737488355328:=V.small
 have hcw655:=dg.cells dX (K.foot (ne_of_lt dh))
 obtain⟨m,dY,id⟩:=(dg.mv6).mapoTake (Iz) bi
 let jY:=RwV m (yB bi M)
 have di:Sep _ _ (jY::_) _:=zaB (id.mv1) dY
 have dj:=di.r0
 have hr662s:_*96≤_:=dj.2
 have hdl9:=zac bi M
 refine WD4 (WF [fun vals B=>Sep N p (jY::(Md1 R M e m)::(BkP g e)::(BkT j d e p l)::jS::bG::(BkV b l O T P R)::jT::(RwI ve0 e.deps)::aj) B]) (AF [Vl 0 (Ix b 0),Vl 1 (Ix b 0),Vl 2 (Ix b 4),Vl 3 (.map (some R)),Vl 4 (.agg #[Iv (e.typ),Iv (e.agg),Iv (e.field)]),Vl 5 m,Vl 6 (Iw ((yB bi M).length)),Vl 7 (Iv 0)]) [[],[0],[0,1],[0,1,2],[],(rg 5),(rg 6),[]] [] [(0,0),(0,0),(0,0),(0,0),(0,0),(0,0),(0,0),(0,0)] di ⟨fun _ _ _ _ _ _ _=>obl rfl (mV (Ix b 0) dR),fun _ _ _ _ _ _ ie=>obl rfl (zm (b:=b) (o:=0) (ie 0 dc) dR),fun _ _ _ _ _ _ ig=>obl rfl (KY (ig 1 dc) dR),ob1 0 fun _ _ (ih:Sep _ _ _ _) ii=>obl rfl (lD (.map (some R)) rY (ii 2 dc) (zd (ih.b6) rfl) dR),ob1 0 fun _ _ (ij:Sep _ _ _ _) _=>obl rfl (zh (k:=3) sY sR rfl rfl (zo (ij.b2)) dR),ob1 0 fun _ _ (ik:Sep _ _ _ _) dk=>obl rfl (Ka ik (i:=1) rfl K3 lB mB (dk 3 dc) (dk 4 dc) dR),ob1 0 fun _ _ _ il=>obl rfl (zC (n:=(yB bi M).length) rR (il 5 dc) dj.1 dR),fun _ _ _ _ _ _ _=>obl rfl (mV (Iv 0) dR),zl⟩ ?_
 intro vals Y im bB
 have io:Sep _ _ _ _:=im
 have jA:=bB 5 dc
 have jB:=bB 6 dc
 have jC:=bB 7 dc
 refine yg (kv:=[(0,Ix b 0),(1,.agg (e.cells ve0).toArray),(3,Ix s 0),(4,.bool false),(5,Ix I 0),(25,.bool false),(6,Ix j 0),(7,Ix g 0),(49,m),(50,Iw ((yB bi M).length)),(51,Iv 0)]) ⟨rfl,rfl,rfl,rfl,rfl,rfl,rfl,rfl,(by exact jA),(by exact jB),(by exact jC),zl⟩ (fun ρw779=>(zb (zt ?_)))
 obtain⟨bd,ip,az,iq,dl⟩:=io.lend
 have aA:=RowE.rd ip
 have hrd792s:_*96≤_:=aA.small
 have dm:=iq.s8_bcdefhag
 generalize dp:((Md1 R M e m)::(xk Zv E1 P (zj d M))::aj)=bC at dm
 refine zZ (fun mq σ B=> ∃(k:Nat) (ρ:Env),mq=(yB (e.typ,e.agg,e.field) M).length-k∧σ=yf ρ [(0,Ix b 0),(3,Ix s 0),(5,Ix I 0),(6,Ix j 0),(7,Ix g 0),(49,m),(50,Iw ((yB (e.typ,e.agg,e.field) M).length)),(51,Iw k)]∧(k≤(yB (e.typ,e.agg,e.field) M).length)∧(∀i,i<k→xl ((d.types.gd e.typ.toNat).fields.gd e.field.toNat) ((yB (e.typ,e.agg,e.field) M).gd i) e=false)∧Sep bd Y ((BkP g e)::(BkT j d e p l)::(Blk I #[Iv 0,Iv 0] 52)::(Blk s (e.cells ve0).toArray 55)::(BkV b l O T P R)::(RwI ve0 e.deps)::bC) B) ⟨0,_,rfl,sSf,zY _,(fun i h=>absurd h (yO i)),dm⟩ ?_
 rintro m797 σ798 jD ⟨k,ρl1,rfl,rfl,hkk,hno,aB⟩
 let jQ:=zT Y (sb m) (so m+k*10+3)
 let jR:=((yB bi M).gd k).cells jQ
 refine za (R0 fun _=>st (zK (k:=.i64) (a:=((k:Nat):Int)) (b:=(((yB bi M).length:Nat):Int)) rfl rfl (zb (za ?_))))
 cases aR:decide (((k:Nat):Int)<(((yB (e.typ,e.agg,e.field) M).length:Nat):Int))
 have aR:=fD aR
 try simp+zetaDelta only at aB
 rw[←dp]at aB
 have ir:=dl _ _ aB
 have hfree:=zaP hfz (fun i hi=>hno i om)
 refine ze rfl (ya (zR (za ?_)))
 obtain⟨vs803,dZ,it⟩:=(ir.mv8).mapoTake QD (e.typ,e.agg)
 obtain⟨H,rfl,iu⟩:=Ug (it.mv1) dZ
 let jW:=Ms1 P d M (e.typ,e.agg) H
 have bX:Sep N p ((RwC H (stL d (e.typ,e.agg) M))::jW::jY::(BkP g e)::(BkT j d e p l)::jS::bG::(BkV b l O T P R)::(RwI ve0 e.deps)::(Md1 R M e m)::aj) jD:=iu
 have dq:=bX.r0
 have hr809s:_*32≤_:=dq.2
 have dr:=bX.s10_abdeghjcif
 generalize ds:((Md1 R M e m)::(RwV m (yB (e.typ,e.agg,e.field) M))::(RwI ve0 e.deps)::(Blk I #[Iv 0,Iv 0] 52)::aj)=bD at dr
 have hve9:=WJ (e.typ,e.agg) M
 refine WD4 ((fun TT J=>WF [fun vals B=>Sep N p (J::TT) B,fun vals B=> ∃(u:Nat),(vals 10=(Ix u 0:Value))∧Sep N p ((Blk u #[Iv 0,(Iz)] 48)::J::TT) B,fun vals B=> ∃(u:Nat),(vals 10=(Ix u 0:Value))∧Sep N p ((BkS u M (e.typ,e.agg) H)::J::TT) B]) (jW::(BkP g e)::(BkT j d e p l)::bG::(BkV b l O T P R)::bD) (RwC H (stL d (e.typ,e.agg) M))) (AF [Vl 0 (Ix b 0),Vl 1 (Ix b 0),Vl 2 (Ix b 3),Vl 3 (.map (some P)),Vl 4 (Ix g 0),Vl 5 (.agg #[Iv (e.typ),Iv (e.agg)]),Vl 6 (.tuple #[.agg #[Iw (yw (e.typ,e.agg) M),H],.bool (((zj d M) (e.typ,e.agg)).isSome)]),Vl 7 (.tuple #[.agg #[Iw (yw (e.typ,e.agg) M),H],.bool (((zj d M) (e.typ,e.agg)).isSome)]),Vl 8 (.agg #[Iw (yw (e.typ,e.agg) M),H]),Vl 9 (.bool (((zj d M) (e.typ,e.agg)).isSome)),fun _=>True,fun _=>True,Vl 12 (.bool (((zj d M) (e.typ,e.agg)).isSome))]) [[],[0],[0,1],[0,1,2],[],[4],(rg 6),(rg 7),(rg 8),(rg 8),[],[0,1,2,3,4,5,6,7,8,10],(rg 12)] [10,11] [(0,1),(0,1),(0,1),(0,1),(0,1),(0,1),(0,1),(0,1),(0,1),(0,2),(0,0),(1,1),(2,2)] dr ⟨fun _ _ _ _ _ _ _=>obl rfl (mV (Ix b 0) dR),fun _ _ _ _ _ _ iv=>obl rfl (zm (b:=b) (o:=0) (iv 0 dc) dR),fun _ _ _ _ _ _ iw=>obl rfl (UA (iw 1 dc) dR),?_,fun _ _ _ _ _ _ _=>obl rfl (KL rfl dR),?_,?_,fun _ _ _ _ _ _ ix=>obl rfl (zP (v:=.tuple #[.agg #[Iw (yw (e.typ,e.agg) M),H],.bool (((zj d M) (e.typ,e.agg)).isSome)]) (ix 6 dc) dR),fun _ _ _ _ _ _ iy=>obl rfl (zz (vs:=[.agg #[Iw (yw (e.typ,e.agg) M),H],.bool (((zj d M) (e.typ,e.agg)).isSome)]) (i:=0) (v:=.agg #[Iw (yw (e.typ,e.agg) M),H]) (iy 7 dc) rfl dR),fun _ _ _ _ _ _ iz=>obl rfl (zz (vs:=[.agg #[Iw (yw (e.typ,e.agg) M),H],.bool (((zj d M) (e.typ,e.agg)).isSome)]) (i:=1) (v:=.bool (((zj d M) (e.typ,e.agg)).isSome)) (iz 7 dc) rfl dR),?_,?_,fun _ _ _ _ _ _ iA=>obl rfl (zM (v:=.bool (((zj d M) (e.typ,e.agg)).isSome)) (iA 9 dc) dR),zl⟩ ?_
 refine fun bE _ _ jE jF dt du=>?_
 have hkk:=xE jE jF
 rcases hkk with rfl|rfl
 have iB:Sep _ _ _ _:=dt
 exact obl rfl (lD (.map (some P)) tR (du 2 dc) (zd (iB.b5) rfl) dR)
 obtain⟨u,ah,iC⟩:=dt
 exact obl rfl (lD (.map (some P)) tR (du 2 dc) (zd (iC.b6) rfl) dR)
 refine fun bH _ _ jG jH dv dw=>?_
 have hkk:=xE jG jH
 rcases hkk with rfl|rfl
 have iD:Sep _ _ _ _:=dv
 exact obl rfl (zh (k:=2) uR vR rfl (dw 4 dc) (CellsAt.sub (zo (iD.b2)) 0 rfl) dR)
 obtain⟨u,ah,iE⟩:=dv
 exact obl rfl (zh (k:=2) uR vR rfl (dw 4 dc) (CellsAt.sub (zo (iE.b3)) 0 rfl) dR)
 refine fun bI _ _ jI jJ dx aT=>?_
 have hkk:=xE jI jJ
 rcases hkk with rfl|rfl
 have iF:Sep _ _ _ _:=dx
 exact obl rfl (YA iF (i:=1) rfl K2 tY nR (aT 3 dc) (aT 5 dc) dR)
 obtain⟨u,ah,iG⟩:=dx
 exact obl rfl (YA iG (i:=2) rfl K2 tY nR (aT 3 dc) (aT 5 dc) dR)
 refine ob1 0 fun _ _ (iH:Sep _ _ _ _) _=>(obl rfl ((zG nR ?_)))
 intro w894 u iI
 exact fun C Q D=>⟨(exiA u (zA Q (iH.new iI))),zl⟩
 refine ob1 1 fun _ _ iJ iK=>?_
 obtain⟨u,ah,dy⟩:=iJ
 refine obl rfl ((zy (v:=.agg #[Iw (yw (e.typ,e.agg) M),H]) (c':=#[Iw (yw (e.typ,e.agg) M),H]) oR ah (iK 8 dc) (dy.b0) (yo ⟨rfl,dq.1.one,zl⟩) yqc rfl ?_))
 intro w905 iL
 exact fun C Q D=>⟨(exiA u (zA ((D 10 dc).trans ah) (dy.pt0 iL))),zl⟩
 intro vals w1001 ea eb
 obtain⟨u,ah,be⟩:=ea
 have iM:=eb 12 dc
 refine yg (kv:=[(0,Ix b 0),(3,Ix s 0),(5,Ix I 0),(6,Ix j 0),(7,Ix g 0),(49,m),(50,Iw ((yB bi M).length)),(51,Iw k),(52,.bool false),(10,Ix u 0),(11,.bool (((zj d M) (e.typ,e.agg)).isSome))]) ⟨rfl,rfl,rfl,rfl,rfl,rfl,rfl,rfl,rfl,(by exact ah),(by exact iM),zl⟩ (fun ρw1001=>(zb (za (za (R0 fun _=>st (mV (.bool (((zj d M) (e.typ,e.agg)).isSome)) (st (yD (a:=((zj d M) (e.typ,e.agg)).isSome) rfl (zb ?_)))))))))
 refine Yu (fun σ B=> ∃(U:Value) (ρ:Env),σ=yf ρ [(0,Ix b 0),(3,Ix s 0),(5,Ix I 0),(6,Ix j 0),(7,Ix g 0),(10,Ix u 0)]∧(U=H∨yw (e.typ,e.agg) M=0)∧Sep N p ((BkS u M (e.typ,e.agg) U)::(RwC U (clL d M e))::jW::(BkP g e)::(BkT j d e p l)::bG::(BkV b l O T P R)::bD) B) ?_ ?_
 cases aC: !(((zj d M) (e.typ,e.agg)).isSome)
 try simp only[zi]at aC
 refine ze rfl (zp ?_)
 have bf:=be.mv1
 try simp+zetaDelta only at bf
 rw[show stL d (e.typ,e.agg) M=(yu d (e.typ,e.agg) M)from ifnC (UY aC)]at bf
 exact⟨rfl,H,_,yG ⟨(show _=(Ix b 0:Value)from rfl),(show _=(Ix s 0:Value)from rfl),(show _=(Ix I 0:Value)from rfl),(show _=(Ix j 0:Value)from rfl),(show _=(Ix g 0:Value)from rfl),(show _=(Ix u 0:Value)from rfl),zl⟩,(.inl rfl),(bf.mv1)⟩
 try simp only[zi]at aC
 refine zg rfl (R0 fun _=>st (zh (k:=1) uT mT rfl rfl (zo (be.b4)) (st (cL Tryz.call97 (D_New (t:=(d.types.gd e.typ.toNat)) V aG be) ?_))))
 rintro bJ w1010 ⟨_,rfl,bg⟩
 have bY:=bg.r0
 have hr1012s:_*32≤_:=bY.2
 refine st (xo rfl (stn (ym (v:=bJ) (c:=[Iw (yw (e.typ,e.agg) M),H]) (c':=[Iw (yw (e.typ,e.agg) M),bJ]) sA rfl rfl (bg.b1) bY.1.one rfl rfl ?_)))
 intro w1013 ec
 have bh:=bg.pt1 ec
 refine zb ?_
 have jj:yw (e.typ,e.agg) M=0:=Qe aC
 try simp+zetaDelta only at bh
 rw[show(List.replicate (d.types.getD e.typ.toNat default).fields.length (⟨0,[]⟩:Cel))=(yu d (e.typ,e.agg) M)from(JQ (d:=d) jj).symm]at bh
 exact⟨rfl,bJ,_,yG ⟨(show _=(Ix b 0:Value)from rfl),(show _=(Ix s 0:Value)from rfl),(show _=(Ix I 0:Value)from rfl),(show _=(Ix j 0:Value)from rfl),(show _=(Ix g 0:Value)from rfl),(show _=(Ix u 0:Value)from rfl),zl⟩,(.inr jj),(bh.s8_badefgh)⟩
 rintro _ w1017 ⟨U,ρj1,rfl,jK,ac⟩
 let jZ:=RwC U (clL d M e)
 let jU:=BkS u M (e.typ,e.agg) U
 have ed:=ac.r1
 have hr1019s:_*32≤_:=ed.2
 refine za (za (R0 fun _=>st (zh (k:=1) uT mT rfl rfl (zo (ac.b4)) (st (xo rfl (st (lD U sT rfl (zd (ac.b0) rfl) (st (xM rfl (st (lD (Iv (e.field)) kT rfl (zd (ac.b5) rfl) (st (Ze rfl (st (lD (Iv (e.op)) kT rfl (zd (ac.b5) rfl) (st (xy rfl (st (lD (Iv (e.arg)) kT rfl (zd (ac.b5) rfl) ?_)))))))))))))))))))
 obtain⟨G1021,ee,ef,eg,eh⟩:=(ac.mv1).lend
 have bt:=RowE.rd ee
 have hrd1027s:_*32≤_:=bt.small
 refine st (cL Tryz.call98 (D_May (t:=(d.types.gd e.typ.toNat)) (c:=(yu d (e.typ,e.agg) M)) (vc:=U) (f:=e.field) (op:=e.op) (arg:=e.arg) (zv V ef) aG bt oe.field oe.op oe.arg eg ((hft.ask (hd.typ _ om) (hinv e.typ e.agg dK dL)))) ?_)
 rintro _ w1028 ⟨rfl,ei⟩
 have aD:=eh _ _ ei
 refine st (yy (k:=.i64) (a:=xB (d.types.gd e.typ.toNat) (yu d (e.typ,e.agg) M) e.field e.op e.arg) (b:=0) rfl rfl (zb ?_))
 cases af: !decide ((xB (d.types.gd e.typ.toNat) (yu d (e.typ,e.agg) M) e.field e.op e.arg)=0)
 have af:=zQ af
 have hT:yh d M e=(false,0,0):=hfree.trans (ifnC (not_not_intro af))
 refine ze rfl (zp (za ?_))
 refine WD4 ((fun TT J ab ad=>WF [fun vals B=>Sep N p (J::ab::ad::TT) B,fun vals B=> ∃(A:Value),(vals 18=(A:Value))∧Sep N p (J::(RwC A (doL (d.types.gd e.typ.toNat) (clL d M e) e.field e.op e.arg))::ab::ad::TT) B,fun vals B=> ∃(A:Value),(vals 18=(A:Value))∧Sep N p (hv::J::ab::TT) B]) ((BkP g e)::(BkT j d e p l)::bG::(BkV b l O T P R)::bD) jZ jU jW) (AF [Vl 0 (Ix b 0),Vl 1 (Ix b 0),Vl 2 (Ix b 3),Vl 3 (.map (some P)),Vl 4 (Ix g 0),Vl 5 (.agg #[Iv (e.typ),Iv (e.agg)]),Vl 6 (Ix u 0),Vl 7 (Iw (yw (e.typ,e.agg) M)),Vl 8 (Iw (yw (e.typ,e.agg) M+1)),Vl 9 (.agg jP.toArray),Vl 10 (Ix u 1),Vl 11 U,Vl 12 (Ix s 6),Vl 13 (Iv (e.field)),Vl 14 (Ix s 7),Vl 15 (Iv (e.op)),Vl 16 (Ix s 8),Vl 17 (Iv (e.arg)),fun _=>True,fun vals=> ∀(A:Value),vals 18=(A:Value)→vals 19=(.agg #[Iw (yw (e.typ,e.agg) M+1),A]:Value),fun _=>True]) [[],[0],[0,1],[0,1,2],[],[4],[],[6],[6,7],[],[],[10],[],[12],[],[14],[],[16],[9,10,11,12,13,14,15,16,17],[6,7,8,9,10,11,12,13,14,15,16,17,18],(rg 20)] [18,20] [(0,1),(0,1),(0,1),(0,1),(0,1),(0,1),(0,1),(0,1),(0,1),(0,0),(0,0),(0,0),(0,0),(0,0),(0,0),(0,0),(0,0),(0,0),(0,0),(1,1),(1,1)] aD ⟨fun _ _ _ _ _ _ _=>obl rfl (mV (Ix b 0) dR),fun _ _ _ _ _ _ ej=>obl rfl (zm (b:=b) (o:=0) (ej 0 dc) dR),fun _ _ _ _ _ _ ek=>obl rfl (UA (ek 1 dc) dR),?_,fun _ _ _ _ _ _ _=>obl rfl (KL rfl dR),?_,fun _ _ _ _ _ _ _=>obl rfl (XZ rfl dR),?_,?_,ob1 0 fun _ _ (el:Sep _ _ _ _) _=>obl rfl (zh (k:=1) uT mT rfl rfl (zo (el.b4)) dR),fun _ _ _ _ _ _ _=>obl rfl (xo rfl dR),ob1 0 fun _ _ (em:Sep _ _ _ _) en=>obl rfl (lD U sT (en 10 dc) (zd (em.b1) rfl) dR),fun _ _ _ _ _ _ _=>obl rfl (xM rfl dR),ob1 0 fun _ _ (eo:Sep _ _ _ _) er=>obl rfl (lD (Iv (e.field)) kT (er 12 dc) (zd (eo.b5) rfl) dR),fun _ _ _ _ _ _ _=>obl rfl (Ze rfl dR),ob1 0 fun _ _ (es:Sep _ _ _ _) et=>obl rfl (lD (Iv (e.op)) kT (et 14 dc) (zd (es.b5) rfl) dR),fun _ _ _ _ _ _ _=>obl rfl (xy rfl dR),ob1 0 fun _ _ (eu:Sep _ _ _ _) ew=>obl rfl (lD (Iv (e.arg)) kT (ew 16 dc) (zd (eu.b5) rfl) dR),?_,?_,?_,zl⟩ ?_ (hlocA:=xi ⟨dA,dA,dA,dA,dA,dA,dA,dA,dA,dA,dA,dA,dA,dA,dA,dA,dA,dA,dT,fun vals C Q h=>fun A ai=>(Q 19 (.inl rfl)).trans (h A ((Q 18 (.inr dc)).symm.trans ai)),dT,zl⟩)
 refine fun aU _ _ iN iO bZ ca=>?_
 have hkk:=xE iN iO
 rcases hkk with rfl|rfl
 have ex:Sep _ _ _ _:=bZ
 exact obl rfl (lD (.map (some P)) tR (ca 2 dc) (zd (ex.b6) rfl) dR)
 obtain⟨A,Z,ey⟩:=bZ
 exact obl rfl (lD (.map (some P)) tR (ca 2 dc) (zd (ey.b7) rfl) dR)
 refine fun aV _ _ iP iQ cb cc=>?_
 have hkk:=xE iP iQ
 rcases hkk with rfl|rfl
 have ez:Sep _ _ _ _:=cb
 exact obl rfl (zh (k:=2) uR vR rfl (cc 4 dc) (CellsAt.sub (zo (ez.b3)) 0 rfl) dR)
 obtain⟨A,Z,eA⟩:=cb
 exact obl rfl (zh (k:=2) uR vR rfl (cc 4 dc) (CellsAt.sub (zo (eA.b4)) 0 rfl) dR)
 refine fun aW _ _ iR iS cd ce=>?_
 have hkk:=xE iR iS
 rcases hkk with rfl|rfl
 have eB:Sep _ _ _ _:=cd
 exact obl rfl (lD (Iw (yw (e.typ,e.agg) M)) kT (ce 6 dc) (zd (eB.b1) rfl) dR)
 obtain⟨A,Z,eC⟩:=cd
 exact obl rfl (lD (Iw (yw (e.typ,e.agg) M)) kT (ce 6 dc) (zd (eC.b2) rfl) dR)
 refine fun aX _ _ iT iU cf cg=>?_
 have hkk:=xE iT iU
 rcases hkk with rfl|rfl
 have hS1278:Sep _ _ _ _:=cf
 refine obl rfl ?_
 have eD:InR ((yw (e.typ,e.agg) M+1:Nat):Int):=bo
 exact zO (r:=((yw (e.typ,e.agg) M+1:Nat):Int)) (k:=.i64) (a:=((yw (e.typ,e.agg) M:Nat):Int)) (b:=1) (cg 7 (by decide)) rfl (by rw[show(((yw (e.typ,e.agg) M:Nat):Int)+1:Int)=((yw (e.typ,e.agg) M+1:Nat):Int)from bo];exact zw eD) dR
 obtain⟨A,Z,hS1281⟩:=cf
 refine obl rfl ?_
 have eE:InR ((yw (e.typ,e.agg) M+1:Nat):Int):=bo
 exact zO (r:=((yw (e.typ,e.agg) M+1:Nat):Int)) (k:=.i64) (a:=((yw (e.typ,e.agg) M:Nat):Int)) (b:=1) (cg 7 (by decide)) rfl (by rw[show(((yw (e.typ,e.agg) M:Nat):Int)+1:Int)=((yw (e.typ,e.agg) M+1:Nat):Int)from bo];exact zw eE) dR
 refine ob1 0 fun vals _ (eF:Sep _ _ _ _) ak=>(obl rfl ?_)
 obtain⟨G1172,eG,eH,eI,eJ⟩:=eF.lend
 have bu:=RowE.rd eG
 have hrd1178s:_*32≤_:=bu.small
 refine(zW (f:=99) (vals:=[.agg ((d.types.gd e.typ.toNat).cells (zT p (sb l) (so l+e.typ.toNat*1+0))).toArray,U,Iv (e.field),Iv (e.op),Iv (e.arg)]) (cap:=[]) rfl (yM ⟨(ak 9 dc),(ak 11 dc),(ak 13 dc),(ak 15 dc),(ak 17 dc),zl⟩) Tryz.call99 (D_Do (t:=(d.types.gd e.typ.toNat)) (c:=(yu d (e.typ,e.agg) M)) (vc:=U) (f:=e.field) (op:=e.op) (arg:=e.arg) (zv V eH) aG bu oe.field oe.op oe.arg eI ((hft.ask (hd.typ _ om) (hinv e.typ e.agg dK dL))) ((fun _=>zae (hinv e.typ e.agg dK dL) hfl hfh))) ?_)
 rintro A w1180 ⟨_,rfl,ch⟩
 have eK:=ch.r0
 have hr1182s:_*32≤_:=eK.2
 have eL:=eJ _ _ ch
 exact fun C Q D=>⟨(exiA A (zA Q eL)),zl⟩
 refine ob1 1 fun _ _ eM eN=>?_
 obtain⟨A,Z,eO⟩:=eM
 refine obl rfl ?_
 have ci:=eO.r1
 have hr1356s:_*32≤_:=ci.2
 refine zV (parts':=[(0,Iw (yw (e.typ,e.agg) M+1)),(1,A)]) (v:=.agg #[Iw (yw (e.typ,e.agg) M+1),A]) (Za ⟨rfl,(eN 8 (by decide)),rfl,Z,zl⟩) (by obtain⟨_,_,eP,_⟩:=ci.1;rw[show A=Value.slice _ _ _ from eP];simp[Instr.build,Instr.fill,go_sem,Yx]) (fun C Q D=>⟨rfl,?_⟩)
 intro v1179q ai
 rw[D 18 (by decide)]at ai;cases Z.symm.trans ai
 exact Q
 refine ob1 1 fun vals _ eQ bj=>?_
 obtain⟨A,Z,eR⟩:=eQ
 have iV:vals 19=(.agg #[Iw (yw (e.typ,e.agg) M+1),A]:Value):=bj 19 dc A Z
 refine obl rfl ?_
 have eS:Sep _ _ ((E1 (.agg #[Iw (yw (e.typ,e.agg) M+1),A]) (yw (e.typ,e.agg) M+1,(doL (d.types.gd e.typ.toNat) (clL d M e) e.field e.op e.arg)))::_) _:=Jt (n:=yw (e.typ,e.agg) M+1) (eR.mv1)
 refine(VJ (eS.mv3) K2 tY (bj 3 dc) (bj 5 dc) iV ?_)
 intro iW eT
 have dB:Sep N p (hv::jZ::jU::(BkP g e)::(BkT j d e p l)::bG::(BkV b l O T P R)::bD) iW:=eT
 exact fun C Q D=>⟨(exiA A (zA ((D 18 dc).trans Z) dB)),zl⟩
 intro vals w1357 eU hA1359
 obtain⟨A,Z,bk⟩:=eU
 refine yg (kv:=[(0,Ix b 0),(3,Ix s 0),(5,Ix I 0),(6,Ix j 0),(7,Ix g 0),(10,Ix u 0),(82,.agg jP.toArray),(83,Ix u 1),(84,U),(85,Ix s 6),(86,Iv (e.field)),(87,Ix s 7),(88,Iv (e.op)),(89,Ix s 8),(90,Iv (e.arg)),(91,Iv (xB (d.types.gd e.typ.toNat) (yu d (e.typ,e.agg) M) e.field e.op e.arg)),(92,.bool false)]) sEv (fun ρw1357=>(zb (za ?_)))
 try simp+zetaDelta only at bk
 rw[←ds]at bk
 refine WD4 ((fun TT J ab ad aH aI cj ck jk eV eW=>WF [fun vals B=>Sep N p (J::ab::ad::aH::aI::cj::ck::jk::eV::eW::TT) B,fun vals B=> ∃(F:Nat),(vals 6=((Iy F 1 1):Value))∧Sep N p ((Blk F (e.cells ve0).toArray 55)::J::ab::ad::aH::aI::cj::ck::jk::eV::eW::TT) B,fun vals B=> ∃(F:Nat) (q:Int),(vals 6=((Iy F 1 1):Value))∧(vals 7=(.tuple #[m,Iv q]:Value))∧Sep N p ((VY Zr E2 R (yN M) bi q)::(Blk F (e.cells ve0).toArray 55)::J::ab::ad::aH::aI::cj::ck::eV::eW::TT) B,fun vals B=> ∃(F:Nat) (q:Int) (aa:Value),(vals 6=((Iy F 1 1):Value))∧(vals 7=(.tuple #[m,Iv q]:Value))∧(vals 9=(aa:Value))∧Sep N p ((RwV aa ((yB bi M)++[e]))::(VY Zr E2 R (yN M) bi q)::J::ab::ad::aH::aI::cj::ck::TT) B,fun vals B=> ∃(F:Nat) (q:Int) (aa:Value),(vals 6=((Iy F 1 1):Value))∧(vals 7=(.tuple #[m,Iv q]:Value))∧(vals 9=(aa:Value))∧Sep N p ((xk Zr E2 R (Xx (yN M) bi ((yB bi M)++[e])))::J::ab::ad::aH::aI::cj::ck::TT) B]) (jS::aj) hv jZ jU (BkP g e) (BkT j d e p l) bG (BkV b l O T P R) (Md1 R M e m) jY (RwI ve0 e.deps)) (AF [Vl 0 (Ix b 0),Vl 1 (Ix b 0),Vl 2 (Ix b 4),Vl 3 (.map (some R)),Vl 4 (.agg #[Iv (e.typ),Iv (e.agg),Iv (e.field)]),Vl 5 (.agg (e.cells ve0).toArray),fun _=>True,fun _=>True,Vl 8 m,fun _=>True,fun vals=> ∀(q:Int),vals 7=(.tuple #[m,Iv q]:Value)→vals 10=(Iv q:Value),fun _=>True]) [[],[0],[0,1],[0,1,2],[],[],[5],(rg 7),(rg 8),(rg 9),(rg 8),(rg 11)] [6,7,9,11] [(0,1),(0,1),(0,1),(0,1),(0,1),(0,0),(0,0),(1,1),(2,2),(2,2),(2,3),(3,3)] bk ⟨fun _ _ _ _ _ _ _=>obl rfl (mV (Ix b 0) dR),fun _ _ _ _ _ _ eX=>obl rfl (zm (b:=b) (o:=0) (eX 0 dc) dR),fun _ _ _ _ _ _ eY=>obl rfl (KY (eY 1 dc) dR),?_,?_,ob1 0 fun _ _ (eZ:Sep _ _ _ _) _=>obl rfl (zh (k:=10) oT lT rfl rfl (zo (eZ.b5)) dR),?_,?_,?_,?_,?_,?_,zl⟩ ?_ (hlocA:=xi ⟨dA,dA,dA,dA,dA,dA,dT,dT,dA,dT,fun vals C Q h=>fun q ai=>(Q 10 (.inl rfl)).trans (h q ((Q 7 (.inr dc)).symm.trans ai)),dT,zl⟩)
 refine fun aY _ _ iX iY cl cm=>?_
 have hkk:=xE iX iY
 rcases hkk with rfl|rfl
 have fa:Sep _ _ _ _:=cl
 exact obl rfl (lD (.map (some R)) rY (cm 2 dc) (zd (fa.b6) rfl) dR)
 obtain⟨F,X,fb⟩:=cl
 exact obl rfl (lD (.map (some R)) rY (cm 2 dc) (zd (fb.b7) rfl) dR)
 refine fun aZ _ _ iZ ja cn _=>?_
 have hkk:=xE iZ ja
 rcases hkk with rfl|rfl
 have fc:Sep _ _ _ _:=cn
 exact obl rfl (zh (k:=3) sY sR rfl rfl (zo (fc.b3)) dR)
 obtain⟨F,X,fd⟩:=cn
 exact obl rfl (zh (k:=3) sY sR rfl rfl (zo (fd.b4)) dR)
 refine ob1 0 fun _ _ (fe:Sep _ _ _ _) ff=>(obl rfl ((zH (k:=10) (parts':=[(0,.agg (e.cells ve0).toArray)]) (c:=(e.cells ve0).toArray) rR lT nY dc (Za ⟨rfl,(ff 5 dc),zl⟩) kr ?_)))
 intro w1413 F fg
 exact fun C Q D=>⟨(exiA F (zA Q (fe.new fg))),zl⟩
 refine ob1 1 fun _ _ fh co=>?_
 obtain⟨F,X,fi⟩:=fh
 refine obl rfl ((Uz (fi.mv8) K3 lB mB (co 3 dc) (co 4 dc) ?_))
 intro w1425 q fj
 exact fun C Q D=>⟨(exiA F (exiA q (zA ((D 6 dc).trans X) (zA Q fj)))),zl⟩
 refine ob1 2 fun _ _ fk _=>?_
 obtain⟨F,q,X,S,hS1522⟩:=fk
 exact obl rfl (zz (vs:=[m,Iv q]) (i:=0) (v:=m) S rfl dR)
 refine ob1 2 fun _ _ fl fm=>?_
 obtain⟨F,q,X,S,cp⟩:=fl
 refine obl rfl ?_
 have dD:=cp.b1
 refine(yq (src:=own) (bytes:=96) (x1:=e) (cp.s12_jkacdefghil) Us (fm 8 (by decide)) X dD (fun _ _ hN=>⟨_,rfl,RowE.soft hN,oe⟩) yqb rfl ?_)
 intro aa w1445 cq
 have fn:=cq.r0
 have hr1450s:_*96≤_:=fn.2
 exact fun C Q D=>⟨(exiA F (exiA q (exiA aa (zA ((D 6 dc).trans X) (zA ((D 7 dc).trans S) (zA Q cq)))))),zl⟩
 refine fun ba _ _ jb jc cr _=>?_
 have hkk:ba=2∨ba=3:=by have h1:2≤ba:=jb;have h2:ba≤3:=jc;omega
 rcases hkk with rfl|rfl
 obtain⟨F,q,X,S,hS1529⟩:=cr
 refine obl rfl (zz (vs:=[m,Iv q]) (i:=1) (v:=Iv q) S rfl (fun C Q D=>⟨rfl,?_⟩))
 intro dE ai
 rw[D 7 (by decide)]at ai;cases S.symm.trans ai
 exact Q
 obtain⟨F,q,aa,X,S,aE,hS1530⟩:=cr
 refine obl rfl (zz (vs:=[m,Iv q]) (i:=1) (v:=Iv q) S rfl (fun C Q D=>⟨rfl,?_⟩))
 intro dE ai
 rw[D 7 (by decide)]at ai;cases S.symm.trans ai
 exact Q
 refine ob1 3 fun vals _ fo ct=>?_
 obtain⟨F,q,aa,X,S,aE,fp⟩:=fo
 have jd:vals 10=(Iv q:Value):=ct 10 dc q S
 refine obl rfl ((WV (E:=E2) (v':=aa) (x':=(yB bi M)++[e]) (fp.mv1) (ct 3 dc) jd aE ?_))
 intro w1468 fq
 exact fun C Q D=>⟨(exiA F (exiA q (exiA aa (zA ((D 6 dc).trans X) (zA ((D 7 dc).trans S) (zA ((D 9 dc).trans aE) fq)))))),zl⟩
 intro vals w1531 fr hA1533
 obtain⟨F,q,aa,X,S,aE,fs⟩:=fr
 refine yg (kv:=[(0,Ix b 0),(3,Ix s 0),(5,Ix I 0),(6,Ix j 0),(7,Ix g 0),(10,Ix u 0),(82,.agg jP.toArray),(83,Ix u 1),(84,U),(85,Ix s 6),(86,Iv (e.field)),(87,Ix s 7),(88,Iv (e.op)),(89,Ix s 8),(90,Iv (e.arg)),(91,Iv (xB (d.types.gd e.typ.toNat) (yu d (e.typ,e.agg) M) e.field e.op e.arg)),(92,.bool false)]) sEv (fun ρw1531=>(zb (za ?_)))
 refine WD4 ((fun TT J=>WF [fun vals B=>Sep N p (J::TT) B,fun vals B=>Sep N p (J::TT) B]) (hv::jZ::jU::(BkP g e)::(BkT j d e p l)::bG::(BkV b l O T P R)::jS::aj) (xk Zr E2 R (Xx (yN M) bi ((yB bi M)++[e])))) (AF [Vl 0 (.agg #[Iv 0,Iv 0]),Vl 1 (.bool false),fun _=>True]) [[],[],[0,1]] [2] [(0,0),(0,0),(0,0)] fs ⟨ob1 0 fun _ _ (ft:Sep _ _ _ _) _=>obl rfl (zh (k:=2) pT nT rfl rfl (zo (ft.b8)) dR),fun _ _ _ _ _ _ _=>obl rfl (aS (.bool false) dR),?_,zl⟩ ?_
 refine ob1 0 fun _ _ (cu:Sep _ _ _ _) fu=>(obl rfl ((zy (v:=.agg #[Iv 0,Iv 0]) (c':=#[Iv 0,Iv 0]) nT rfl (fu 0 dc) (cu.b8) (yo ⟨rfl,rfl,zl⟩) yqc rfl ?_)))
 intro w1556 fv
 exact fun C Q D=>⟨(cu.pt8 fv),zl⟩
 intro vals w1572 fw fx
 have cv:Sep _ _ _ _:=fw
 have je:=fx 1 dc
 refine yg (kv:=[(0,Ix b 0),(3,Ix s 0),(5,Ix I 0),(6,Ix j 0),(7,Ix g 0),(10,Ix u 0),(82,.agg jP.toArray),(83,Ix u 1),(84,U),(85,Ix s 6),(86,Iv (e.field)),(87,Ix s 7),(88,Iv (e.op)),(89,Ix s 8),(90,Iv (e.arg)),(91,Iv (xB (d.types.gd e.typ.toNat) (yu d (e.typ,e.agg) M) e.field e.op e.arg)),(92,.bool false),(4,.bool false)]) ⟨rfl,rfl,rfl,rfl,rfl,rfl,rfl,rfl,rfl,rfl,rfl,rfl,rfl,rfl,rfl,rfl,rfl,(by exact je),zl⟩ (fun ρw1572=>(zb (zq (YP (b:=I) wR pT nT rfl rfl (zo (cv.b8)) (show _=(.bool false:Value)from rfl) ?_))))
 have al:=bz _ _ cv
 try simp+zetaDelta only at al
 rw[←bx]at al
 have am:(ye d M e).void=false:=by show(yh d M e).1=false;rw[hT]
 have bl:(zj d (M++[ye d M e]))=(Xx (zj d M) (e.typ,e.agg) (yw (e.typ,e.agg) M+1,(doL (d.types.gd e.typ.toNat) (yu d (e.typ,e.agg) M) e.field e.op e.arg))):=QF am
 have bm:(yN (M++[ye d M e]))=(Xx (yN M) bi ((yB bi M)++[e])):=Jl am
 try simp+zetaDelta only at al
 rw[←bl,←bm]at al
 have fy:Sep _ _ (jX::_) _:=ViewO.close (d:=d) (L:=L) (M:=(M++[ye d M e])) (al.s12_iaklcbdefghj)
 rw[hT]
 refine⟨rfl,?_,(fy.s7_a)⟩
 exact⟨by decide,by decide⟩
 have af:=yn af
 have hT:yh d M e=(true,0,0):=hfree.trans (ifpC af)
 refine zg rfl (za ?_)
 try simp+zetaDelta only at aD
 rw[←ds]at aD
 refine WD4 ((fun TT J=>WF [fun vals B=>Sep N p (J::TT) B,fun vals B=>Sep N p (J::TT) B]) (jU::jW::(BkP g e)::(BkT j d e p l)::bG::(BkV b l O T P R)::(Md1 R M e m)::jY::(RwI ve0 e.deps)::jS::aj) jZ) (AF [Vl 0 (.agg #[Iv 0,Iv 0]),Vl 1 (.bool true),fun _=>True]) [[],[],[0,1]] [2] [(0,0),(0,0),(0,0)] aD ⟨ob1 0 fun _ _ (fz:Sep _ _ _ _) _=>obl rfl (zh (k:=2) pT nT rfl rfl (zo (fz.b10)) dR),fun _ _ _ _ _ _ _=>obl rfl (aS (.bool true) dR),?_,zl⟩ ?_
 refine ob1 0 fun _ _ (cw:Sep _ _ _ _) fA=>(obl rfl ((zy (v:=.agg #[Iv 0,Iv 0]) (c':=#[Iv 0,Iv 0]) nT rfl (fA 0 dc) (cw.b10) (yo ⟨rfl,rfl,zl⟩) yqc rfl ?_)))
 intro w1602 fB
 exact fun C Q D=>⟨(cw.pt10 fB),zl⟩
 intro vals dz fC fE
 have cx:Sep _ _ _ _:=fC
 have jf:=fE 1 dc
 refine yg (kv:=[(0,Ix b 0),(3,Ix s 0),(5,Ix I 0),(6,Ix j 0),(7,Ix g 0),(10,Ix u 0),(82,.agg jP.toArray),(83,Ix u 1),(84,U),(85,Ix s 6),(86,Iv (e.field)),(87,Ix s 7),(88,Iv (e.op)),(89,Ix s 8),(90,Iv (e.arg)),(91,Iv (xB (d.types.gd e.typ.toNat) (yu d (e.typ,e.agg) M) e.field e.op e.arg)),(92,.bool true),(4,.bool true)]) ⟨rfl,rfl,rfl,rfl,rfl,rfl,rfl,rfl,rfl,rfl,rfl,rfl,rfl,rfl,rfl,rfl,rfl,(by exact jf),zl⟩ (fun ρw1618=>(zb (zq (YP (b:=I) wR pT nT rfl rfl (zo (cx.b10)) (show _=(.bool true:Value)from rfl) ?_))))
 have bn:=bz _ _ cx
 try simp+zetaDelta only at bn
 rw[←bx]at bn
 have fF:Sep _ _ ((Wc E1 (.agg #[Iw (yw (e.typ,e.agg) M),H]) ((zj d M) (e.typ,e.agg)))::_) _:=QB (bn.mv1) jK
 have fG:Sep G W (jT::(RwT l d.types)::jU::(BkP g e)::(BkT j d e p l)::bG::(BkV b l O T P R)::(Md1 R M e m)::jY::(RwI ve0 e.deps)::jS::(RwP O d.projs)::(RwN T L)::Rs) dz:=(fF.mv3).mapoPut
 have fH:Sep _ _ ((Wc E2 m ((yN M) bi))::_) _:=VV (fG.mv8)
 have bp:Sep G W (jV::jT::(RwT l d.types)::jU::(BkP g e)::(BkT j d e p l)::bG::(BkV b l O T P R)::(RwI ve0 e.deps)::jS::(RwP O d.projs)::(RwN T L)::Rs) dz:=(fH.mv8).mapoPut
 have am:(ye d M e).void=true:=by show(yh d M e).1=true;rw[hT]
 have bl:(zj d (M++[ye d M e]))=(zj d M):=(Zi am).1
 have bm:(yN (M++[ye d M e]))=(yN M):=(Zi (d:=d) am).2
 try simp+zetaDelta only at bp
 rw[←bl,←bm]at bp
 have fI:Sep _ _ (jX::_) _:=ViewO.close (d:=d) (L:=L) (M:=(M++[ye d M e])) (bp.s12_hcklbadefgij)
 rw[hT]
 refine⟨rfl,?_,(fI.s7_a)⟩
 exact⟨by decide,by decide⟩
 have aR:=tD aR
 refine zg rfl (zp (za (zt (za (R0 fun _=>?_)))))
 have fJ:k<(yB (e.typ,e.agg,e.field) M).length:=bo
 refine st (zf (k:=10) rR lT rfl aA.sl rfl fJ ?_)
 have cy:k<(yB (e.typ,e.agg,e.field) M).length:=bo
 obtain⟨dF,an,bq⟩:=aA.evD cy
 have hsm1638:(((yB (e.typ,e.agg,e.field) M).gd k).deps).length*8≤140737488355328:=an.small
 have dG:=aB.cells dF (aA.foot (ne_of_lt cy))
 refine st (zh (k:=10) oT lT rfl rfl dG (st (zG nY ?_)))
 intro w1642 ap fK
 have cz:=aB.new fK
 refine stn (zy (v:=.agg jR.toArray) (c':=jR.toArray) lT rfl rfl (cz.b0) (yo ⟨rfl,rfl,rfl,an.sl.one,rfl,rfl,rfl,rfl,rfl,rfl,zl⟩) yqc rfl ?_)
 intro w1644 fL
 refine zb (za ?_)
 refine WD4 ((fun J ab ad aH aI=>WF [fun vals B=>Sep bd Y (J::(BkP g e)::ab::ad::aH::aI::(RwI ve0 e.deps)::bC) B,fun vals B=>(vals 8=(.bool ((xl (((d.types.gd e.typ.toNat).fields).gd e.field.toNat) ((yB bi M).gd k) e)):Value))∧Sep bd Y ((RwI ve0 e.deps)::J::(BkP g e)::ab::ad::aH::aI::bC) B]) (Blk ap jR.toArray 55) (BkT j d e p l) jS bG (BkV b l O T P R)) (AF [Vl 0 (Ix j 0),Vl 1 bF,Vl 2 (Ix s 6),Vl 3 (Iv (e.field)),Vl 4 (Ix (sb bF) (so bF+e.field.toNat*4)),Vl 5 (.agg ((((d.types.gd e.typ.toNat).fields).gd e.field.toNat).cells (zT Y (sb bF) (so bF+e.field.toNat*4+3))).toArray),Vl 6 (.agg jR.toArray),Vl 7 (.agg (e.cells ve0).toArray),fun _=>True]) [[],[0],[],[2],(rg 4),(rg 5),[],[],(rg 8)] [8] [(0,0),(0,0),(0,0),(0,0),(0,0),(0,0),(0,0),(0,0),(0,0)] (cz.pt0 fL) ⟨fun _ _ _ _ _ _ _=>obl rfl (yU rfl dR),ob1 0 fun _ _ (fM:Sep _ _ _ _) fN=>obl rfl (lD bF wA (fN 0 dc) (zd (fM.b2) rfl) dR),fun _ _ _ _ _ _ _=>obl rfl (xM rfl dR),ob1 0 fun _ _ (fO:Sep _ _ _ _) fP=>obl rfl (lD (Iv (e.field)) kT (fP 2 dc) (zd (fO.b4) rfl) dR),?_,?_,ob1 0 fun _ _ (fQ:Sep _ _ _ _) _=>obl rfl (zh (k:=10) oT lT rfl rfl (zo (fQ.b0)) dR),ob1 0 fun _ _ (fR:Sep _ _ _ _) _=>obl rfl (zh (k:=10) oT lT rfl rfl (zo (fR.b4)) dR),?_,zl⟩ ?_
 refine ob1 0 fun _ _ _ cA=>(obl rfl ?_)
 have hi1774:e.field.toNat<((d.types.getD e.typ.toNat default).fields).length:=bo
 exact zB (k:=4) (i:=e.field) vT wT (cA 1 dc) (zv V az).sl (cA 3 dc) ⟨by omega,by omega⟩ dR
 refine ob1 0 fun _ _ (fS:Sep _ _ _ _) fT=>(obl rfl ?_)
 have cB:e.field.toNat<((d.types.getD e.typ.toNat default).fields).length:=bo
 obtain⟨dH,cC,hoke1783⟩:=(zv V az).fldD cB
 have hsm1785:((((d.types.gd e.typ.toNat).fields).gd e.field.toNat).moves).length*32≤140737488355328:=cC.small
 have dI:=fS.cells dH ((zv V az).foot (ne_of_lt cB))
 exact zh (k:=4) lA wT rfl (fT 4 dc) dI dR
 refine ob1 0 fun vals _ (cD:Sep _ _ _ _) br=>(obl rfl ?_)
 have cE:e.field.toNat<((d.types.getD e.typ.toNat default).fields).length:=bo
 obtain⟨dJ,aJ,cQ⟩:=(zv V az).fldD cE
 have hsm1723:((((d.types.gd e.typ.toNat).fields).gd e.field.toNat).moves).length*32≤140737488355328:=aJ.small
 have hcw1724:=cD.cells dJ ((zv V az).foot (ne_of_lt cE))
 obtain⟨G1726,fU,cF,fV,fW⟩:=(cD.mv6).lend
 have bv:=RowE.rd fU
 have hrd1732s:_*8≤_:=bv.small
 refine(zW (f:=96) (vals:=[.agg ((((d.types.gd e.typ.toNat).fields).gd e.field.toNat).cells (zT Y (sb bF) (so bF+e.field.toNat*4+3))).toArray,.agg jR.toArray,.agg (e.cells ve0).toArray]) (cap:=[]) rfl (yM ⟨(br 5 dc),(br 6 dc),(br 7 dc),zl⟩) Tryz.call96 (zcj (f:=(((d.types.gd e.typ.toNat).fields).gd e.field.toNat)) (x:=((yB bi M).gd k)) (e:=e) (zv aJ cF) cQ (zv an cF) bq bv oe fV) ?_)
 rintro _ w1733 ⟨rfl,fX⟩
 have fY:=fW _ _ fX
 exact fun C Q D=>⟨(zA Q fY),zl⟩
 intro vals w1801 fZ hA1803
 obtain⟨ga,cG⟩:=fZ
 refine yg (kv:=[(0,Ix b 0),(3,Ix s 0),(5,Ix I 0),(6,Ix j 0),(7,Ix g 0),(49,m),(50,Iw ((yB bi M).length)),(51,Iw k),(52,.bool true),(53,Ix (sb m) (so m+k*10)),(54,.agg jR.toArray),(9,Ix ap 0),(63,.bool ((xl (((d.types.gd e.typ.toNat).fields).gd e.field.toNat) ((yB bi M).gd k) e)))]) ⟨rfl,rfl,rfl,rfl,rfl,rfl,rfl,rfl,rfl,rfl,rfl,rfl,(by exact ga),zl⟩ (fun ρw1801=>(zb ?_))
 cases cH:(xl (((d.types.gd e.typ.toNat).fields).gd e.field.toNat) ((yB (e.typ,e.agg,e.field) M).gd k) e)
 refine ze rfl (zp (R0 fun _=>?_))
 have gc:InR ((k+1:Nat):Int):=bo
 refine st (zO (r:=((k+1:Nat):Int)) (k:=.i64) (a:=((k:Nat):Int)) (b:=1) rfl rfl (by rw[show(((k:Nat):Int)+1:Int)=((k+1:Nat):Int)from bo];exact zw gc) (st (mV (Iw (k+1)) (zb ?_))))
 exact⟨_,by omega,k+1,_,rfl,sSf,by omega,(xf hno cH),(cG.s7_cdefga)⟩
 have bw:=bq
 have hT:=zcU hfz om hno cH
 refine zg rfl (za ?_)
 refine WD4 ((fun TT J ab=>WF [fun vals B=>Sep bd Y ((RwI ve0 e.deps)::J::(BkP g e)::ab::jS::TT) B,fun vals B=>Sep bd Y ((RwI ve0 e.deps)::J::(BkP g e)::ab::(Blk I #[Iv (((yB bi M).gd k).origin),Iv (((yB bi M).gd k).seq)] 52)::TT) B]) (bG::(BkV b l O T P R)::bC) (Blk ap jR.toArray 55) (BkT j d e p l)) (AF [Vl 0 (Ix ap 0),Vl 1 (.agg #[Iv (((yB bi M).gd k).origin),Iv (((yB bi M).gd k).seq)]),Vl 2 (.bool true),fun _=>True]) [[],[0],[],[0,1,2]] [3] [(0,0),(0,0),(0,0),(0,0)] cG ⟨fun _ _ _ _ _ _ _=>obl rfl (xe rfl dR),ob1 0 fun _ _ (gd:Sep _ _ _ _) ge=>obl rfl (zh (k:=2) pT nT rfl (ge 0 dc) (CellsAt.sub (zo (gd.b1)) 0 rfl) dR),fun _ _ _ _ _ _ _=>obl rfl (aS (.bool true) dR),?_,zl⟩ ?_
 refine ob1 0 fun _ _ (cI:Sep _ _ _ _) gf=>(obl rfl ((zy (v:=.agg #[Iv (((yB bi M).gd k).origin),Iv (((yB bi M).gd k).seq)]) (c':=#[Iv (((yB bi M).gd k).origin),Iv (((yB bi M).gd k).seq)]) nT rfl (gf 1 dc) (cI.b4) (yo ⟨rfl,rfl,zl⟩) yqc rfl ?_)))
 intro w1837 gg
 exact fun C Q D=>⟨(cI.pt4 gg),zl⟩
 intro vals jg gh gi
 have cJ:Sep _ _ _ _:=gh
 have jh:=gi 2 dc
 refine yg (kv:=[(0,Ix b 0),(3,Ix s 0),(5,Ix I 0),(6,Ix j 0),(7,Ix g 0),(49,m),(50,Iw ((yB bi M).length)),(51,Iw k),(52,.bool true),(53,Ix (sb m) (so m+k*10)),(54,.agg jR.toArray),(9,Ix ap 0),(63,.bool true),(4,.bool true)]) ⟨rfl,rfl,rfl,rfl,rfl,rfl,rfl,rfl,rfl,rfl,rfl,rfl,rfl,(by exact jh),zl⟩ (fun ρw1860=>(zb (zq (YP (b:=I) wR pT nT rfl rfl (zo (cJ.b4)) (show _=(.bool true:Value)from rfl) ?_))))
 have gj:=dl _ _ cJ
 have ao:=bz _ _ gj
 try simp+zetaDelta only at ao
 rw[←dp]at ao
 try simp+zetaDelta only at ao
 rw[←bx]at ao
 have gk:Sep _ _ ((Wc E2 m ((yN M) bi))::_) _:=VV (ao.mv1)
 have bs:Sep G W (jV::(RwT l d.types)::(RwI ve0 e.deps)::(Blk ap jR.toArray 55)::(BkP g e)::(BkT j d e p l)::(Blk I #[Iv (((yB bi M).gd k).origin),Iv (((yB bi M).gd k).seq)] 52)::bG::(BkV b l O T P R)::jT::(RwP O d.projs)::(RwN T L)::Rs) jg:=(gk.mv9).mapoPut
 have am:(ye d M e).void=true:=by show(yh d M e).1=true;rw[hT]
 have bl:(zj d (M++[ye d M e]))=(zj d M):=(Zi am).1
 have bm:(yN (M++[ye d M e]))=(yN M):=(Zi (d:=d) am).2
 try simp+zetaDelta only at bs
 rw[←bl,←bm]at bs
 have gl:Sep _ _ (jX::_) _:=ViewO.close (d:=d) (L:=L) (M:=(M++[ye d M e])) (bs.s12_ibkljacdefgh)
 rw[hT]
 refine⟨rfl,?_,(gl.s7_a)⟩
 exact⟨bw.origin,bw.seq⟩
 have ag:=yn ag
 have hT:yh d M e=(true,0,0):=VA ag
 refine zg rfl (za (WD4 ((fun TT=>WF [fun vals B=>Sep G W ((RwT l d.types)::TT) B,fun vals B=>Sep G W ((RwT l d.types)::TT) B]) ((RwP O d.projs)::jS::bG::(BkV b l O T P R)::(RwN T L)::jT::jV::(RwI ve0 e.deps)::Rs)) (AF [Vl 0 (.agg #[Iv 0,Iv 0]),Vl 1 (.bool true),fun _=>True]) [[],[],[0,1]] [2] [(0,0),(0,0),(0,0)] cT ⟨ob1 0 fun _ _ (gm:Sep _ _ _ _) _=>obl rfl (zh (k:=2) pT nT rfl rfl (zo (gm.b2)) dR),fun _ _ _ _ _ _ _=>obl rfl (aS (.bool true) dR),?_,zl⟩ ?_))
 refine ob1 0 fun _ _ (cK:Sep _ _ _ _) gn=>(obl rfl ((zy (v:=.agg #[Iv 0,Iv 0]) (c':=#[Iv 0,Iv 0]) nT rfl (gn 0 dc) (cK.b2) (yo ⟨rfl,rfl,zl⟩) yqc rfl ?_)))
 intro w1895 go
 exact fun C Q D=>⟨(cK.pt2 go),zl⟩
 intro vals w1911 gp gq
 have aF:Sep _ _ _ _:=gp
 have ji:=gq 1 dc
 refine yg (kv:=[(0,Ix b 0),(1,.agg (e.cells ve0).toArray),(3,Ix s 0),(4,.bool true),(5,Ix I 0),(25,.bool true)]) ⟨rfl,rfl,rfl,(by exact ji),rfl,rfl,zl⟩ (fun ρw1911=>(zb (zq (YP (b:=I) wR pT nT rfl rfl (zo (aF.b2)) (show _=(.bool true:Value)from rfl) ?_))))
 have am:(ye d M e).void=true:=by show(yh d M e).1=true;rw[hT]
 have bl:(zj d (M++[ye d M e]))=(zj d M):=(Zi am).1
 have bm:(yN (M++[ye d M e]))=(yN M):=(Zi (d:=d) am).2
 try simp+zetaDelta only at aF
 rw[←bl,←bm]at aF
 have gr:Sep _ _ (jX::_) _:=ViewO.close (d:=d) (L:=L) (M:=(M++[ye d M e])) (aF.s9_eabfghcdi)
 rw[hT]
 refine⟨rfl,?_,(gr.s4_a)⟩
 exact⟨by decide,by decide⟩
end
end Go.Proofs.YtpdolkiohjdodaaGreatDoor
