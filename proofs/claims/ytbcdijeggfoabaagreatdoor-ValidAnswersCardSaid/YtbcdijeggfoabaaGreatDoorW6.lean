import Derived.Test.YtbcdijeggfoabaaGreatDoorW5
set_option linter.unusedSimpArgs false
set_option linter.unusedVariables false
set_option linter.unusedSectionVars false
set_option linter.deprecated false
open Go.Proofs.Tryz renaming isAgg3→kT,sizeOf44→lT,sizeOf41→mT,isAgg44→nT,sizeOf74→oT,isAgg41→pT,sizeOf197→qT,isAgg197→rT,isAgg75→sT,sizeOf77→tT,underlying22→uT,isAgg74→vT,underlying72→wT,underlying56→kR,zeroValue77→lR,sizeOf25→mR,sizeOf106→nR,sizeOf96→oR,isAgg22→pR,underlying26→qR,isAgg25→rR,isAgg98→sR,results140→tR,zeroValue44→uR,isAgg77→vR,zeroValue74→wR,sizeOf165→kY,isAgg125→lY,sizeOf125→mY,underlying98→nY,results91→oY,call58→pY,isAgg56→qY,isAgg42→rY,results141→sY,results118→tY,underlying23→uY,zeroValue96→vY,underlying75→wY,isAgg99→kA,isAgg165→lA,underlying42→mA,results80→nA,call153→pA,zeroValue197→qA,isAgg106→rA,call82→sA,sizeOf42→tA,results120→uA,results121→vA,results57→wA,sizeOf75→kB,sizeOf140→lB,zeroValue25→mB,isAgg72→nB,zeroValue41→pB,zeroValue165→qB,underlying99→rB,zeroValue26→sB
namespace Go.Proofs.YtbcdijeggfoabaaGreatDoor
variable {G:Nat→Prop}{W w:World}{Rs:List HP}
section
set_option maxRecDepth 8000
set_option maxHeartbeats 4000000
open Go.Proofs Go.RowKit
theorem Ua {vv:Value}{v:List Int}(hv:RdS W G vv v){o:Int}(ho:InR o)(hS0:Sep G W Rs w):Ret Tryz.prog 80 [vv,.int .i64 (o)] w (fun r w'=>r=(.int .i64 (yu v o):Value)∧(InR (yu v o))∧Sep G W Rs w'):=by
 have hvs:_*8≤_:=hv.small
 refine zi Tryz.func80 rfl rfl ?_
 refine za (R0 fun _=>st (aS (Iv 0) (zb (za (za (zA kr (st (mV (Iv o) (st (zC rfl rfl (st (mV (.bool (decide (o<0))) (stc (V:=Iv o) rfl rfl (fun l=>?_) ?_)))))))))))))
 have hl2:=fD l
 exact mV (Iv o) ⟨rfl,rfl⟩
 refine stc (V:=vv) rfl rfl (fun m=>?_) ?_
 have hl4:=fD m
 exact mV vv ⟨rfl,rfl⟩
 refine stc (V:=Iw v.length) rfl rfl (fun g=>?_) ?_
 have hl6:=fD g
 exact zJ mA (if_pos g) hv.sl ⟨rfl,rfl⟩
 refine stc (V:=.bool (decide (((v.length:Nat):Int)≤o))) rfl rfl (fun c=>?_) ?_
 have hl8:=fD c
 exact yR (if_pos c) (if_pos c) ⟨rfl,rfl⟩
 refine st (zt rfl (fun hbp=>(if_pos hbp)) (zb ?_))
 cases h:(decide (o<0))||(decide (((v.length:Nat):Int)≤o))
 try simp only[zf]at h
 refine ze rfl (zl (za (R0 fun _=>st (mV vv (st (mV (Iv o) ?_))))))
 have hi10:o.toNat<v.length:=bo
 refine st (zr (k:=1) (i:=o) mA Tryz.sizeOf3 rfl hv.sl rfl ⟨by omega,by omega⟩ ?_)
 have d:o.toNat<v.length:=bo
 obtain⟨e,hxe11⟩:=hv.intD d
 have f:=hS0.cells e (hv.foot (ne_of_lt d))
 refine st (lD (Iv ((v.getD o.toNat 0))) kT rfl (f.get (j:=0) rfl) (st (Yj (k:=.i64) (a:=(v.getD o.toNat 0)) (b:=0) rfl rfl (st (aS (Iv (max (v.getD o.toNat 0) 0)) (zb (zk (zG nA (show _=(Iv (max (v.getD o.toNat 0) 0):Value)from rfl) ?_))))))))
 refine⟨?_,?_,hS0⟩
 unfold yu;rw[if_neg (by omega)]
 unfold yu;rw[if_neg (by omega)];omega
 try simp only[zf]at h
 refine zg rfl (za (R0 fun _=>st (aS (Iv 0) (zb (zk (zG nA (show _=(Iv 0:Value)from rfl) ?_))))))
 refine⟨?_,?_,hS0⟩
 unfold yu;rw[if_pos (by omega)]
 unfold yu;rw[if_pos (by omega)];omega
theorem UU {a:Ev}{da0:Value}(hda0:RdS W G da0 a.deps)(oa:a.Ok){b:Ev}{db0:Value}(hdb0:RdS W G db0 b.deps)(ob:b.Ok)(hS0:Sep G W Rs w):Ret Tryz.prog 153 [.agg (a.cells da0).toArray,.agg (b.cells db0).toArray] w (fun r w'=>r=(.bool ((ZD a b)):Value)∧Sep G W Rs w'):=by
 refine zi Tryz.func153 rfl rfl ?_
 refine za (R0 fun _=>st (zM rfl ?_))
 intro w3 b2 L
 refine st (zM rfl ?_)
 intro w7 D M
 refine st (aS (.bool false) (zb (za ?_)))
 refine WD4 ((fun TT C=>WF [fun vals E=>Sep G W (C::TT) E,fun vals E=>(vals 5=(Iv (yu b.deps a.origin):Value))∧(InR (yu b.deps a.origin))∧Sep G W (C::TT) E]) ((Blk b2 (a.cells da0).toArray 44)::Rs) (Blk D (b.cells db0).toArray 44)) (AF [Vl 0 (Ix D 3),Vl 1 (db0),Vl 2 (Ix b2 0),Vl 3 (Ix b2 0),Vl 4 (Iv (a.origin)),fun _=>True,Vl 6 (Ix b2 0),Vl 7 (Ix b2 1),Vl 8 (Iv (a.seq)),Vl 9 (.bool (decide (a.seq≤(yu b.deps a.origin)))),Vl 10 (.bool (decide (a.seq≤(yu b.deps a.origin))))]) [[],[0],[],[2],[2,3],(rg 5),[],[6],[6,7],(rg 9),(rg 10)] [5] [(0,0),(0,0),(0,0),(0,0),(0,0),(0,0),(0,1),(0,1),(0,1),(1,1),(1,1)] ((hS0.new L).new M) ⟨fun _ _ _ _ _ _ _=>obl rfl (yQ rfl dR),ob1 0 fun _ _ (j:Sep _ _ _ _) l=>obl rfl (lD db0 rY (l 0 dc) (zd (j.b0) rfl) dR),fun _ _ _ _ _ _ _=>obl rfl (yp rfl dR),fun _ _ _ _ _ _ m=>obl rfl (xa (m 2 dc) dR),ob1 0 fun _ _ (n:Sep _ _ _ _) p=>obl rfl (lD (Iv (a.origin)) kT (p 3 dc) (zd (n.b1) rfl) dR),?_,fun _ _ _ _ _ _ _=>obl rfl (yp rfl dR),fun _ _ _ _ _ _ q=>obl rfl (xE (q 6 dc) dR),?_,?_,fun _ _ _ _ _ _ s=>obl rfl (zY (s 9 dc) dR),trivial⟩ ?_
 refine ob1 0 fun vals _ (F:Sep _ _ _ _) i=>(obl rfl ((zH (f:=80) (vals:=[db0,Iv (a.origin)]) (cap:=[]) rfl (yE ⟨(i 1 dc),(i 4 dc),trivial⟩) Tryz.call80 (Ua hdb0 oa.origin F) ?_)))
 rintro _ w54 ⟨rfl,c,H⟩
 exact fun vals' N hv'=>⟨(zx N (zx c H)),trivial⟩
 refine fun d _ _ I J g h=>?_
 have hkk:=xk I J
 rcases hkk with rfl|rfl
 have t:=g
 exact obl rfl (lD (Iv (a.seq)) kT (h 7 dc) (zd (t.b1) rfl) dR)
 obtain⟨e,c,u⟩:=g
 exact obl rfl (lD (Iv (a.seq)) kT (h 7 dc) (zd (u.b1) rfl) dR)
 refine ob1 1 fun _ _ x y=>?_
 obtain⟨e,c,hS157⟩:=x
 exact obl rfl (yR e (y 8 dc) dR)
 intro vals w166 z A
 obtain⟨e,c,B⟩:=z
 have K:=A 10 dc
 refine zT (kv:=[(0,.agg (a.cells da0).toArray),(1,.agg (b.cells db0).toArray),(2,Ix b2 0),(3,Ix D 0),(4,.bool (decide (a.seq≤(yu b.deps a.origin))))]) ⟨rfl,rfl,rfl,rfl,(by exact K),trivial⟩ (fun ρw166=>(zb (zk (zG Tryz.results153 rfl ?_))))
 refine⟨rfl,(B.s2_)⟩
theorem zdn {x y:Operand}{a0 a1 b0 b1:Int}: ∀w,(do eqGuard .eql 41 x y (.agg #[.int .i64 a0,.int .i64 a1]) (.agg #[.int .i64 b0,.int .i64 b1]);binOp .eql 41 (.agg #[.int .i64 a0,.int .i64 a1]) (.agg #[.int .i64 b0,.int .i64 b1]):Sem Value).run Tryz.prog w=.ok (.bool (decide (a0=b0∧a1=b1))) w:=by
 intro w
 have h: ∀w,(Op.equal 41 (.agg #[.int .i64 a0,.int .i64 a1]) (.agg #[.int .i64 b0,.int .i64 b1])).run Tryz.prog w=.ok (decide (a0=b0∧a1=b1)) w:=by
  intro w
  unfold Op.equal Op.maxDepth;rw[Vx];simp[go_sem];(try(by_cases h1:a0=b0<;>by_cases h2:a1=b1<;>simp[h1,h2]))
 simp[eqGuard,binOp,h,go_sem]
theorem zaq {x y:Operand}{a0 a1 b0 b1:Int}: ∀w,(do eqGuard .neq 41 x y (.agg #[.int .i64 a0,.int .i64 a1]) (.agg #[.int .i64 b0,.int .i64 b1]);binOp .neq 41 (.agg #[.int .i64 a0,.int .i64 a1]) (.agg #[.int .i64 b0,.int .i64 b1]):Sem Value).run Tryz.prog w=.ok (.bool (!decide (a0=b0∧a1=b1))) w:=by
 intro w
 have h: ∀w,(Op.equal 41 (.agg #[.int .i64 a0,.int .i64 a1]) (.agg #[.int .i64 b0,.int .i64 b1])).run Tryz.prog w=.ok (decide (a0=b0∧a1=b1)) w:=by
  intro w
  unfold Op.equal Op.maxDepth;rw[Vx];simp[go_sem];(try(by_cases h1:a0=b0<;>by_cases h2:a1=b1<;>simp[h1,h2]))
 simp[eqGuard,binOp,h,go_sem]
theorem zce {a:Ev}{da0:Value}(hda0:RdS W G da0 a.deps)(oa:a.Ok){b:Ev}{db0:Value}(hdb0:RdS W G db0 b.deps)(ob:b.Ok)(hS0:Sep G W Rs w):Ret Tryz.prog 141 [.agg (a.cells da0).toArray,.agg (b.cells db0).toArray] w (fun r w'=>r=(.bool ((xI a b)):Value)∧Sep G W Rs w'):=by
 have hda0s:_*8≤_:=hda0.small
 have hdb0s:_*8≤_:=hdb0.small
 refine zi (args:=[.agg (a.cells da0).toArray,.agg (b.cells db0).toArray]) Tryz.func141 rfl rfl ?_
 refine za (R0 fun _=>st (zM (v:=.agg (a.cells da0).toArray) rfl ?_))
 intro w3 b2 q
 refine st (zM (v:=.agg (b.cells db0).toArray) rfl ?_)
 intro w7 b6 s
 have f:=(hS0.new q).new s
 refine st (aS (.bool false) (zb (za (zA kr (st (yp rfl (st (zh (k:=2) (cs:=[Iv (a.origin),Iv (a.seq)]) pT mT rfl rfl (CellsAt.sub (CellsAt.all (f.b1)) 0 (cs2:=[Iv (a.origin),Iv (a.seq)]) rfl) (st (yp rfl (st (zh (k:=2) (cs:=[Iv (b.origin),Iv (b.seq)]) pT mT rfl rfl (CellsAt.sub (CellsAt.all (f.b0)) 0 (cs2:=[Iv (b.origin),Iv (b.seq)]) rfl) (st (XY (e:=decide (a.origin=b.origin∧a.seq=b.seq)) (xs:=#[Iv (a.origin),Iv (a.seq)]) (ys:=#[Iv (b.origin),Iv (b.seq)]) zaq rfl rfl (st (mV (.bool (!decide (a.origin=b.origin∧a.seq=b.seq))) (stc (V:=.agg (a.cells da0).toArray) rfl rfl (fun t=>?_) ?_)))))))))))))))))
 have hl10:=zz t
 exact zh (k:=10) nT lT rfl rfl (CellsAt.all (f.b1)) ⟨rfl,rfl⟩
 refine stc (V:=.agg (b.cells db0).toArray) rfl rfl (fun j=>?_) ?_
 have hl12:=zz j
 exact zh (k:=10) nT lT rfl rfl (CellsAt.all (f.b0)) ⟨rfl,rfl⟩
 cases c: !decide (a.origin=b.origin∧a.seq=b.seq)
 have d:=c
 have c:=zQ c
 refine stx rfl rfl (stx rfl rfl (st (yw (v:=.bool false) rfl rfl (st (mV (.bool false) (stx rfl rfl (stx rfl rfl (stx rfl rfl (stx rfl rfl (st (yw (v:=.bool false) rfl rfl (st (aS (.bool false) (zb (zk (zG sY (show _=(.bool false:Value)from rfl) ?_))))))))))))))))
 refine⟨?_,(f.s2_)⟩
 unfold xI
 first|rfl|simp only[d,Bool.not_true,Bool.not_false,Bool.false_and,Bool.true_and,Bool.and_false]
 have d:=c
 have c:=zz c
 refine sty rfl rfl (cL pA (UU (a:=a) (b:=b) hda0 oa hdb0 ob f) ?_)
 rintro _ w15 ⟨rfl,g⟩
 refine sty rfl rfl (yB (a:=(ZD a b)) rfl (st (yz (v:=.bool (!(ZD a b))) rfl rfl (st (mV (.bool (!(ZD a b))) (stc (V:=.agg (b.cells db0).toArray) rfl rfl (fun l=>?_) ?_))))))
 have m:=l
 try simp only[zf]at m
 exact zh (k:=10) nT lT rfl rfl (CellsAt.all (g.b0)) ⟨rfl,rfl⟩
 refine stc (V:=.agg (a.cells da0).toArray) rfl rfl (fun n=>?_) ?_
 have o:=n
 try simp only[zf]at o
 exact zh (k:=10) nT lT rfl rfl (CellsAt.all (g.b1)) ⟨rfl,rfl⟩
 cases h: !(ZD a b)
 have i:=h
 try simp only[zf]at h
 refine stx rfl rfl (stx rfl rfl (st (yw (v:=.bool false) rfl rfl (st (aS (.bool false) (zb (zk (zG sY (show _=(.bool false:Value)from rfl) ?_))))))))
 refine⟨?_,(g.s2_)⟩
 unfold xI
 first|rfl|simp only[d,i,Bool.not_true,Bool.not_false,Bool.false_and,Bool.true_and,Bool.and_false]
 have i:=h
 try simp only[zf]at h
 refine sty rfl rfl (cL pA (UU (a:=b) (b:=a) hdb0 ob hda0 oa g) ?_)
 rintro _ w23 ⟨rfl,p⟩
 refine sty rfl rfl (yB (a:=(ZD b a)) rfl (st (yz (v:=.bool (!(ZD b a))) rfl rfl (st (aS (.bool (!(ZD b a))) (zb (zk (zG sY (show _=(.bool (!(ZD b a)):Value)from rfl) ?_))))))))
 refine⟨?_,(p.s2_)⟩
 unfold xI
 first|rfl|simp only[d,i,Bool.not_true,Bool.not_false,Bool.false_and,Bool.true_and,Bool.and_false]
theorem Ub {x y:Operand}{a0 a1 b0 b1:Int}: ∀w,(do eqGuard .eql 197 x y (.agg #[.int .i64 a0,.int .i64 a1]) (.agg #[.int .i64 b0,.int .i64 b1]);binOp .eql 197 (.agg #[.int .i64 a0,.int .i64 a1]) (.agg #[.int .i64 b0,.int .i64 b1]):Sem Value).run Tryz.prog w=.ok (.bool (decide (a0=b0∧a1=b1))) w:=by
 intro w
 have h: ∀w,(Op.equal 197 (.agg #[.int .i64 a0,.int .i64 a1]) (.agg #[.int .i64 b0,.int .i64 b1])).run Tryz.prog w=.ok (decide (a0=b0∧a1=b1)) w:=by
  intro w
  unfold Op.equal Op.maxDepth;rw[Vx];simp[go_sem];(try(by_cases h1:a0=b0<;>by_cases h2:a1=b1<;>simp[h1,h2]))
 simp[eqGuard,binOp,h,go_sem]
theorem Jc {x y:Operand}{a0 a1 b0 b1:Int}: ∀w,(do eqGuard .neq 197 x y (.agg #[.int .i64 a0,.int .i64 a1]) (.agg #[.int .i64 b0,.int .i64 b1]);binOp .neq 197 (.agg #[.int .i64 a0,.int .i64 a1]) (.agg #[.int .i64 b0,.int .i64 b1]):Sem Value).run Tryz.prog w=.ok (.bool (!decide (a0=b0∧a1=b1))) w:=by
 intro w
 have h: ∀w,(Op.equal 197 (.agg #[.int .i64 a0,.int .i64 a1]) (.agg #[.int .i64 b0,.int .i64 b1])).run Tryz.prog w=.ok (decide (a0=b0∧a1=b1)) w:=by
  intro w
  unfold Op.equal Op.maxDepth;rw[Vx];simp[go_sem];(try(by_cases h1:a0=b0<;>by_cases h2:a1=b1<;>simp[h1,h2]))
 simp[eqGuard,binOp,h,go_sem]
theorem JR {f:Fld}{df0:Value}(hdf0:RdS W G df0 f.moves)(of:f.Ok){oA:Int}(hoA:InR oA){aA:Int}(haA:InR aA){oB:Int}(hoB:InR oB){aB:Int}(haB:InR aB)(hS0:Sep G W Rs w):Ret Tryz.prog 140 [.agg (f.cells df0).toArray,.int .i64 (oA),.int .i64 (aA),.int .i64 (oB),.int .i64 (aB)] w (fun r w'=>r=(.bool ((Yp f.kind oA aA oB aB)):Value)∧Sep G W Rs w'):=by
 have hdf0s:_*32≤_:=hdf0.small
 refine zi (args:=[.agg (f.cells df0).toArray,Iv oA,Iv aA,Iv oB,Iv aB]) Tryz.func140 rfl rfl ?_
 refine za (R0 fun _=>st (zM (v:=.agg (f.cells df0).toArray) rfl ?_))
 intro w3 b2 ak
 refine st (aS (.bool false) (zb (za (yq (by kernel_rfl) (fun _=>(st (mV (Iv oA) (st (mV (Iv aA) (st (zL (parts':=[(0,Iv oA),(1,Iv aA)]) (v:=.agg #[Iv oA,Iv aA]) rfl (by simp+zetaDelta [Instr.build,Instr.fill,Ev.cells,go_sem,Mv.cells,Fld.cells,Typ.cells,Prj.cells,Dcl.cells,Cel.cells,AskR.cells,CelS.cells,Ev.cells,Ent.cells,Sta.cells]) (st (mV (Iv oB) (st (mV (Iv aB) (st (zL (parts':=[(0,Iv oB),(1,Iv aB)]) (v:=.agg #[Iv oB,Iv aB]) rfl (by simp+zetaDelta [Instr.build,Instr.fill,Ev.cells,go_sem,Mv.cells,Fld.cells,Typ.cells,Prj.cells,Dcl.cells,Cel.cells,AskR.cells,CelS.cells,Ev.cells,Ent.cells,Sta.cells]) (st (zq qA ?_)))))))))))))))))))
 intro w7 b6 al
 refine st (zq qA ?_)
 intro w11 E am
 have q:=((hS0.new ak).new al).new am
 refine stn (zp (v:=.agg #[Iv oA,Iv aA]) (c':=#[Iv oA,Iv aA]) qT rfl rfl (q.b1) (zX ⟨rfl,rfl,trivial⟩) yqc rfl ?_)
 intro w13 F
 have s:=q.pt1 F
 refine stn (zp (v:=.agg #[Iv oB,Iv aB]) (c':=#[Iv oB,Iv aB]) qT rfl rfl (s.b0) (zX ⟨rfl,rfl,trivial⟩) yqc rfl ?_)
 intro w16 H
 have c:=s.pt0 H
 refine zb (za (za (R0 fun _=>st (xg rfl (st (lD (Iv (f.kind)) kT rfl (zd (c.b2) rfl) (zb (zn (za (R0 fun _=>st (zR (k:=.i64) (a:=f.kind) (b:=2) rfl rfl (st (aS (.bool (decide (f.kind=2))) (zb ?_))))))))))))))
 cases g:decide (f.kind=2)
 have hc19r:=g
 have g:=fD g
 refine ze rfl (za (R0 fun _=>st (zR (k:=.i64) (a:=f.kind) (b:=4) rfl rfl (st (aS (.bool (decide (f.kind=4))) (zb ?_))))))
 cases h:decide (f.kind=4)
 have hc20r:=h
 have h:=fD h
 refine ze rfl (za (R0 fun _=>st (zR (k:=.i64) (a:=f.kind) (b:=3) rfl rfl (st (aS (.bool (decide (f.kind=3))) (zb ?_))))))
 cases i:decide (f.kind=3)
 have hc21r:=i
 have i:=fD i
 refine ze rfl (zl (za (R0 fun _=>st (aS (.bool false) (zb (zk (zG tR (show _=(.bool false:Value)from rfl) ?_)))))))
 refine⟨?_,(c.s3_)⟩
 unfold Yp
 (first|rw[if_pos (by omega)]|rw[if_neg (by omega),if_pos (by omega)]|rw[if_neg (by omega),if_neg (by omega),if_pos (by omega)]|rw[if_neg (by omega),if_neg (by omega),if_neg (by omega)])<;>(first|rfl|simp_all)
 have i:=tD i
 refine zg rfl (za (zA (by kernel_rfl) (st (zh (k:=2) rT qT rfl rfl (CellsAt.all (c.b1)) (st (mV (Iv aB) (st (zL (parts':=[(0,Iv 3),(1,Iv aB)]) (v:=.agg #[Iv 3,Iv aB]) rfl (by simp+zetaDelta [Instr.build,Instr.fill,Ev.cells,go_sem,Mv.cells,Fld.cells,Typ.cells,Prj.cells,Dcl.cells,Cel.cells,AskR.cells,CelS.cells,Ev.cells,Ent.cells,Sta.cells]) (st (YE (e:=decide (oA=3∧aA=aB)) (xs:=#[Iv oA,Iv aA]) (ys:=#[Iv 3,Iv aB]) Ub rfl rfl (st (mV (.bool (decide (oA=3∧aA=aB))) (stc (V:=.agg #[Iv oB,Iv aB]) rfl rfl (fun I=>?_) ?_)))))))))))))
 have hl24:=tD I
 exact zh (k:=2) rT qT rfl rfl (CellsAt.all (c.b0)) ⟨rfl,rfl⟩
 refine stc (V:=Iv aA) rfl rfl (fun J=>?_) ?_
 have hl26:=tD J
 exact mV (Iv aA) ⟨rfl,rfl⟩
 refine stc (V:=.agg #[Iv 4,Iv aA]) rfl rfl (fun t=>?_) ?_
 have hl28:=tD t
 exact zL (parts':=[(0,Iv 4),(1,Iv aA)]) (v:=.agg #[Iv 4,Iv aA]) (Zi ⟨rfl,rfl,rfl,(if_pos t),trivial⟩) (by simp+zetaDelta [Instr.build,Instr.fill,Ev.cells,go_sem,Mv.cells,Fld.cells,Typ.cells,Prj.cells,Dcl.cells,Cel.cells,AskR.cells,CelS.cells,Ev.cells,Ent.cells,Sta.cells]) ⟨rfl,rfl⟩
 refine stc (V:=.bool (decide (oB=4∧aB=aA))) rfl rfl (fun l=>?_) ?_
 have hl30:=tD l
 exact YE (e:=decide (oB=4∧aB=aA)) (xs:=#[Iv oB,Iv aB]) (ys:=#[Iv 4,Iv aA]) Ub (if_pos l) (if_pos l) ⟨rfl,rfl⟩
 refine st (zy (b:=decide (oA=3∧aA=aB)) (b':=decide (oB=4∧aB=aA)) rfl (fun hbp=>(if_pos hbp)) (st (mV (.bool ((decide (oA=3∧aA=aB))&&(decide (oB=4∧aB=aA)))) (stc (V:=.agg #[Iv oA,Iv aA]) rfl rfl (fun K=>?_) ?_))))
 have L:=K
 try simp only[zf]at L
 exact zh (k:=2) rT qT rfl rfl (CellsAt.all (c.b1)) ⟨rfl,rfl⟩
 refine stc (V:=Iv aB) rfl rfl (fun M=>?_) ?_
 have N:=M
 try simp only[zf]at N
 exact mV (Iv aB) ⟨rfl,rfl⟩
 refine stc (V:=.agg #[Iv 4,Iv aB]) rfl rfl (fun u=>?_) ?_
 have O:=u
 try simp only[zf]at O
 exact zL (parts':=[(0,Iv 4),(1,Iv aB)]) (v:=.agg #[Iv 4,Iv aB]) (Zi ⟨rfl,rfl,rfl,(if_pos u),trivial⟩) (by simp+zetaDelta [Instr.build,Instr.fill,Ev.cells,go_sem,Mv.cells,Fld.cells,Typ.cells,Prj.cells,Dcl.cells,Cel.cells,AskR.cells,CelS.cells,Ev.cells,Ent.cells,Sta.cells]) ⟨rfl,rfl⟩
 refine stc (V:=.bool (decide (oA=4∧aA=aB))) rfl rfl (fun m=>?_) ?_
 have P:=m
 try simp only[zf]at P
 exact YE (e:=decide (oA=4∧aA=aB)) (xs:=#[Iv oA,Iv aA]) (ys:=#[Iv 4,Iv aB]) Ub (if_pos m) (if_pos m) ⟨rfl,rfl⟩
 refine stc (V:=.bool (decide (oA=4∧aA=aB))) rfl rfl (fun x=>?_) ?_
 have Q:=x
 try simp only[zf]at Q
 exact yi (v:=.bool (decide (oA=4∧aA=aB))) (if_pos x) ⟨rfl,rfl⟩
 refine xe (V:=.agg #[Iv oB,Iv aB]) rfl rfl (fun y=>?_) ?_
 have R:=y.1
 try simp only[zf]at R
 have hl43:=tD y.2
 exact zh (k:=2) rT qT rfl rfl (CellsAt.all (c.b0)) ⟨rfl,rfl⟩
 refine xe (V:=Iv aA) rfl rfl (fun z=>?_) ?_
 have S:=z.1
 try simp only[zf]at S
 have hl46:=tD z.2
 exact mV (Iv aA) ⟨rfl,rfl⟩
 refine xe (V:=.agg #[Iv 3,Iv aA]) rfl rfl (fun j=>?_) ?_
 have T:=j.1
 try simp only[zf]at T
 have hl49:=tD j.2
 exact zL (parts':=[(0,Iv 3),(1,Iv aA)]) (v:=.agg #[Iv 3,Iv aA]) (Zi ⟨rfl,rfl,rfl,(if_pos ⟨j.1,j.2⟩),trivial⟩) (by simp+zetaDelta [Instr.build,Instr.fill,Ev.cells,go_sem,Mv.cells,Fld.cells,Typ.cells,Prj.cells,Dcl.cells,Cel.cells,AskR.cells,CelS.cells,Ev.cells,Ent.cells,Sta.cells]) ⟨rfl,rfl⟩
 refine xe (V:=.bool (decide (oB=3∧aB=aA))) rfl rfl (fun d=>?_) ?_
 have U:=d.1
 try simp only[zf]at U
 have hl52:=tD d.2
 exact YE (e:=decide (oB=3∧aB=aA)) (xs:=#[Iv oB,Iv aB]) (ys:=#[Iv 3,Iv aA]) Ub (if_pos ⟨d.1,d.2⟩) (if_pos ⟨d.1,d.2⟩) ⟨rfl,rfl⟩
 refine stc (V:=.bool ((decide (oA=4∧aA=aB))&&(decide (oB=3∧aB=aA)))) rfl rfl (fun n=>?_) ?_
 have X:=n
 try simp only[zf]at X
 exact zy (b:=decide (oA=4∧aA=aB)) (b':=decide (oB=3∧aB=aA)) (if_pos n) (fun hbp=>(if_pos ⟨n,hbp⟩)) ⟨rfl,rfl⟩
 refine st (zt (b:=(decide (oA=3∧aA=aB))&&(decide (oB=4∧aB=aA))) (b':=(decide (oA=4∧aA=aB))&&(decide (oB=3∧aB=aA))) rfl (fun hbp=>(if_pos hbp)) (st (aS (.bool (((decide (oA=3∧aA=aB))&&(decide (oB=4∧aB=aA)))||((decide (oA=4∧aA=aB))&&(decide (oB=3∧aB=aA))))) (zb (zk (zG tR (show _=(.bool (((decide (oA=3∧aA=aB))&&(decide (oB=4∧aB=aA)))||((decide (oA=4∧aA=aB))&&(decide (oB=3∧aB=aA)))):Value)from rfl) ?_))))))
 refine⟨?_,(c.s3_)⟩
 unfold Yp
 (first|rw[if_pos (by omega)]|rw[if_neg (by omega),if_pos (by omega)]|rw[if_neg (by omega),if_neg (by omega),if_pos (by omega)]|rw[if_neg (by omega),if_neg (by omega),if_neg (by omega)])<;>(first|rfl|simp_all)
 have h:=tD h
 refine zg rfl (za (zA kr (st (XU rfl (st (lD (Iv oA) kT rfl (zd (c.b1) rfl) (st (zR (k:=.i64) (a:=oA) (b:=5) rfl rfl (st (mV (.bool (decide (oA=5))) (stc (V:=Ix E 0) rfl rfl (fun Y=>?_) ?_)))))))))))
 have hl57:=tD Y
 exact XU rfl ⟨rfl,rfl⟩
 refine stc (V:=Iv oB) rfl rfl (fun A=>?_) ?_
 have hl59:=tD A
 exact lD (Iv oB) kT (if_pos A) (zd (c.b0) rfl) ⟨rfl,rfl⟩
 refine stc (V:=.bool (decide (oB=5))) rfl rfl (fun B=>?_) ?_
 have hl61:=tD B
 exact zR (k:=.i64) (a:=oB) (b:=5) (if_pos B) rfl ⟨rfl,rfl⟩
 refine st (zy (b:=decide (oA=5)) (b':=decide (oB=5)) rfl (fun hbp=>(if_pos hbp)) (st (mV (.bool ((decide (oA=5))&&(decide (oB=5)))) (stc (V:=.agg #[Iv oA,Iv aA]) rfl rfl (fun Z=>?_) ?_))))
 have aa:=Z
 try simp only[zf]at aa
 exact zh (k:=2) rT qT rfl rfl (CellsAt.all (c.b1)) ⟨rfl,rfl⟩
 refine stc (V:=.agg #[Iv oB,Iv aB]) rfl rfl (fun ab=>?_) ?_
 have ac:=ab
 try simp only[zf]at ac
 exact zh (k:=2) rT qT rfl rfl (CellsAt.all (c.b0)) ⟨rfl,rfl⟩
 refine stc (V:=.bool (!decide (oA=oB∧aA=aB))) rfl rfl (fun o=>?_) ?_
 have ad:=o
 try simp only[zf]at ad
 exact XY (e:=decide (oA=oB∧aA=aB)) (xs:=#[Iv oA,Iv aA]) (ys:=#[Iv oB,Iv aB]) Jc (if_pos o) (if_pos o) ⟨rfl,rfl⟩
 refine st (zy (b:=(decide (oA=5))&&(decide (oB=5))) (b':= !decide (oA=oB∧aA=aB)) rfl (fun hbp=>(if_pos hbp)) (st (aS (.bool (((decide (oA=5))&&(decide (oB=5)))&&(!decide (oA=oB∧aA=aB)))) (zb (zk (zG tR (show _=(.bool (((decide (oA=5))&&(decide (oB=5)))&&(!decide (oA=oB∧aA=aB))):Value)from rfl) ?_))))))
 refine⟨?_,(c.s3_)⟩
 unfold Yp
 (first|rw[if_pos (by omega)]|rw[if_neg (by omega),if_pos (by omega)]|rw[if_neg (by omega),if_neg (by omega),if_pos (by omega)]|rw[if_neg (by omega),if_neg (by omega),if_neg (by omega)])<;>(first|rfl|simp_all)
 have g:=tD g
 refine zg rfl (za (zA kr (st (XU rfl (st (lD (Iv oA) kT rfl (zd (c.b1) rfl) (st (zR (k:=.i64) (a:=oA) (b:=2) rfl rfl (st (mV (.bool (decide (oA=2))) (stc (V:=Ix E 0) rfl rfl (fun ae=>?_) ?_)))))))))))
 have hl70:=tD ae
 exact XU rfl ⟨rfl,rfl⟩
 refine stc (V:=Iv oB) rfl rfl (fun C=>?_) ?_
 have hl72:=tD C
 exact lD (Iv oB) kT (if_pos C) (zd (c.b0) rfl) ⟨rfl,rfl⟩
 refine stc (V:=.bool (decide (oB=2))) rfl rfl (fun D=>?_) ?_
 have hl74:=tD D
 exact zR (k:=.i64) (a:=oB) (b:=2) (if_pos D) rfl ⟨rfl,rfl⟩
 refine st (zy (b:=decide (oA=2)) (b':=decide (oB=2)) rfl (fun hbp=>(if_pos hbp)) (st (mV (.bool ((decide (oA=2))&&(decide (oB=2)))) (stc (V:=.agg #[Iv oA,Iv aA]) rfl rfl (fun af=>?_) ?_))))
 have ag:=af
 try simp only[zf]at ag
 exact zh (k:=2) rT qT rfl rfl (CellsAt.all (c.b1)) ⟨rfl,rfl⟩
 refine stc (V:=.agg #[Iv oB,Iv aB]) rfl rfl (fun ah=>?_) ?_
 have ai:=ah
 try simp only[zf]at ai
 exact zh (k:=2) rT qT rfl rfl (CellsAt.all (c.b0)) ⟨rfl,rfl⟩
 refine stc (V:=.bool (!decide (oA=oB∧aA=aB))) rfl rfl (fun p=>?_) ?_
 have aj:=p
 try simp only[zf]at aj
 exact XY (e:=decide (oA=oB∧aA=aB)) (xs:=#[Iv oA,Iv aA]) (ys:=#[Iv oB,Iv aB]) Jc (if_pos p) (if_pos p) ⟨rfl,rfl⟩
 refine st (zy (b:=(decide (oA=2))&&(decide (oB=2))) (b':= !decide (oA=oB∧aA=aB)) rfl (fun hbp=>(if_pos hbp)) (st (aS (.bool (((decide (oA=2))&&(decide (oB=2)))&&(!decide (oA=oB∧aA=aB)))) (zb (zk (zG tR (show _=(.bool (((decide (oA=2))&&(decide (oB=2)))&&(!decide (oA=oB∧aA=aB))):Value)from rfl) ?_))))))
 refine⟨?_,(c.s3_)⟩
 unfold Yp
 (first|rw[if_pos (by omega)]|rw[if_neg (by omega),if_pos (by omega)]|rw[if_neg (by omega),if_neg (by omega),if_pos (by omega)]|rw[if_neg (by omega),if_neg (by omega),if_neg (by omega)])<;>(first|rfl|simp_all)
theorem zcV {f:Fld}{df0:Value}(hdf0:RdS W G df0 f.moves)(of:f.Ok){x:Ev}{dx0:Value}(hdx0:RdS W G dx0 x.deps)(ox:x.Ok){e:Ev}{de0:Value}(hde0:RdS W G de0 e.deps)(oe:e.Ok)(hS0:Sep G W Rs w):Ret Tryz.prog 118 [.agg (f.cells df0).toArray,.agg (x.cells dx0).toArray,.agg (e.cells de0).toArray] w (fun r w'=>r=(.bool ((xf f x e)):Value)∧Sep G W Rs w'):=by
 have hdf0s:_*32≤_:=hdf0.small
 have hdx0s:_*8≤_:=hdx0.small
 have hde0s:_*8≤_:=hde0.small
 refine zi (args:=[.agg (f.cells df0).toArray,.agg (x.cells dx0).toArray,.agg (e.cells de0).toArray]) Tryz.func118 rfl rfl ?_
 refine za (R0 fun _=>st (zM (v:=.agg (f.cells df0).toArray) rfl ?_))
 intro w3 b2 X
 refine st (zM (v:=.agg (x.cells dx0).toArray) rfl ?_)
 intro w7 D Y
 refine st (zM (v:=.agg (e.cells de0).toArray) rfl ?_)
 intro w11 o Z
 have c:=((hS0.new X).new Y).new Z
 refine st (aS (.bool false) (zb (za (zA kr (st (ZS rfl (st (lD (Iv (f.policy)) kT rfl (zd (c.b2) rfl) (st (zR (k:=.i64) (a:=f.policy) (b:=2) rfl rfl (st (mV (.bool (decide (f.policy=2))) (stc (V:=Ix b2 1) rfl rfl (fun E=>?_) ?_)))))))))))))
 have hl14:=fD E
 exact ZS rfl ⟨rfl,rfl⟩
 refine stc (V:=Iv (f.policy)) rfl rfl (fun p=>?_) ?_
 have hl16:=fD p
 exact lD (Iv (f.policy)) kT (if_pos p) (zd (c.b2) rfl) ⟨rfl,rfl⟩
 refine stc (V:=.bool (decide (f.policy=3))) rfl rfl (fun q=>?_) ?_
 have hl18:=fD q
 exact zR (k:=.i64) (a:=f.policy) (b:=3) (if_pos q) rfl ⟨rfl,rfl⟩
 refine stc (V:=.bool (decide (f.policy=3))) rfl rfl (fun s=>?_) ?_
 have hl20:=fD s
 exact yi (v:=.bool (decide (f.policy=3))) (if_pos s) ⟨rfl,rfl⟩
 refine xe (V:=Ix D 8) rfl rfl (fun t=>?_) ?_
 have hl22:=fD t.1
 have hl23:=tD t.2
 exact xF rfl ⟨rfl,rfl⟩
 refine xe (V:=Iv (x.arg)) rfl rfl (fun h=>?_) ?_
 have hl25:=fD h.1
 have hl26:=tD h.2
 exact lD (Iv (x.arg)) kT (if_pos ⟨h.1,h.2⟩) (zd (c.b1) rfl) ⟨rfl,rfl⟩
 refine xe (V:=Ix o 8) rfl rfl (fun u=>?_) ?_
 have hl28:=fD u.1
 have hl29:=tD u.2
 exact xF rfl ⟨rfl,rfl⟩
 refine xe (V:=Iv (e.arg)) rfl rfl (fun i=>?_) ?_
 have hl31:=fD i.1
 have hl32:=tD i.2
 exact lD (Iv (e.arg)) kT (if_pos ⟨i.1,i.2⟩) (zd (c.b0) rfl) ⟨rfl,rfl⟩
 refine xe (V:=.bool (decide (e.arg<x.arg))) rfl rfl (fun d=>?_) ?_
 have hl34:=fD d.1
 have hl35:=tD d.2
 exact yT (k:=.i64) (a:=x.arg) (b:=e.arg) (if_pos ⟨d.1,d.2⟩) (if_pos ⟨d.1,d.2⟩) ⟨rfl,rfl⟩
 refine stc (V:=.bool ((decide (f.policy=3))&&(decide (e.arg<x.arg)))) rfl rfl (fun n=>?_) ?_
 have hl37:=fD n
 exact zy (b:=decide (f.policy=3)) (b':=decide (e.arg<x.arg)) (if_pos n) (fun hbp=>(if_pos ⟨n,hbp⟩)) ⟨rfl,rfl⟩
 refine st (zt (b:=decide (f.policy=2)) (b':=(decide (f.policy=3))&&(decide (e.arg<x.arg))) rfl (fun hbp=>(if_pos hbp)) (st (aS (.bool ((decide (f.policy=2))||((decide (f.policy=3))&&(decide (e.arg<x.arg))))) (zb (za (zA kr (st (mV (.bool ((decide (f.policy=2))||((decide (f.policy=3))&&(decide (e.arg<x.arg))))) (st (mV (.bool ((decide (f.policy=2))||((decide (f.policy=3))&&(decide (e.arg<x.arg))))) (stc (V:=.agg (f.cells df0).toArray) rfl rfl (fun F=>?_) ?_)))))))))))
 have H:=F
 try simp only[zf]at H
 exact zh (k:=4) rA nR rfl rfl (CellsAt.all (c.b2)) ⟨rfl,rfl⟩
 refine stc (V:=Ix D 7) rfl rfl (fun I=>?_) ?_
 have J:=I
 try simp only[zf]at J
 exact xw rfl ⟨rfl,rfl⟩
 refine stc (V:=Iv (x.op)) rfl rfl (fun y=>?_) ?_
 have K:=y
 try simp only[zf]at K
 exact lD (Iv (x.op)) kT (if_pos y) (zd (c.b1) rfl) ⟨rfl,rfl⟩
 refine stc (V:=Ix D 8) rfl rfl (fun L=>?_) ?_
 have M:=L
 try simp only[zf]at M
 exact xF rfl ⟨rfl,rfl⟩
 refine stc (V:=Iv (x.arg)) rfl rfl (fun z=>?_) ?_
 have N:=z
 try simp only[zf]at N
 exact lD (Iv (x.arg)) kT (if_pos z) (zd (c.b1) rfl) ⟨rfl,rfl⟩
 refine stc (V:=Ix o 7) rfl rfl (fun O=>?_) ?_
 have P:=O
 try simp only[zf]at P
 exact xw rfl ⟨rfl,rfl⟩
 refine stc (V:=Iv (e.op)) rfl rfl (fun A=>?_) ?_
 have Q:=A
 try simp only[zf]at Q
 exact lD (Iv (e.op)) kT (if_pos A) (zd (c.b0) rfl) ⟨rfl,rfl⟩
 refine stc (V:=Ix o 8) rfl rfl (fun R=>?_) ?_
 have S:=R
 try simp only[zf]at S
 exact xF rfl ⟨rfl,rfl⟩
 refine stc (V:=Iv (e.arg)) rfl rfl (fun B=>?_) ?_
 have T:=B
 try simp only[zf]at T
 exact lD (Iv (e.arg)) kT (if_pos B) (zd (c.b0) rfl) ⟨rfl,rfl⟩
 cases j:(decide (f.policy=2))||((decide (f.policy=3))&&(decide (e.arg<x.arg)))
 have g:=j
 try simp only[zf]at j
 refine stx rfl rfl (st (yw (v:=.bool false) rfl rfl (st (mV (.bool false) (stx rfl rfl (stx rfl rfl (stx rfl rfl (st (yw (v:=.bool false) rfl rfl (st (aS (.bool false) (zb (zk (zG tY (show _=(.bool false:Value)from rfl) ?_))))))))))))))
 refine⟨?_,(c.s3_)⟩
 unfold xf
 first|rfl|simp only[g,Bool.false_and,Bool.true_and,Bool.and_false,Bool.and_true,Bool.true_or,Bool.or_true]
 have g:=j
 try simp only[zf]at j
 refine sty rfl rfl (cL Tryz.call140 (JR (f:=f) (oA:=x.op) (aA:=x.arg) (oB:=e.op) (aB:=e.arg) hdf0 of ox.op ox.arg oe.op oe.arg c) ?_)
 rintro _ w58 ⟨rfl,l⟩
 refine st (yz (v:=.bool ((Yp f.kind x.op x.arg e.op e.arg))) rfl rfl (st (mV (.bool ((Yp f.kind x.op x.arg e.op e.arg))) (stc (V:=.agg (x.cells dx0).toArray) rfl rfl (fun hb60=>?_) ?_))))
 exact zh (k:=10) nT lT rfl rfl (CellsAt.all (l.b1)) ⟨rfl,rfl⟩
 refine stc (V:=.agg (e.cells de0).toArray) rfl rfl (fun hb62=>?_) ?_
 exact zh (k:=10) nT lT rfl rfl (CellsAt.all (l.b0)) ⟨rfl,rfl⟩
 cases C:(Yp f.kind x.op x.arg e.op e.arg)
 have m:=C
 refine stx rfl rfl (st (yw (v:=.bool false) rfl rfl (st (aS (.bool false) (zb (zk (zG tY (show _=(.bool false:Value)from rfl) ?_)))))))
 refine⟨?_,(l.s3_)⟩
 unfold xf
 first|rfl|simp only[g,m,Bool.false_and,Bool.true_and,Bool.and_false,Bool.and_true,Bool.true_or,Bool.or_true]
 have m:=C
 refine sty rfl rfl (cL Tryz.call141 (zce (a:=x) (b:=e) hdx0 ox hde0 oe l) ?_)
 rintro _ w66 ⟨rfl,U⟩
 refine st (yz (v:=.bool ((xI x e))) rfl rfl (st (aS (.bool ((xI x e))) (zb (zk (zG tY (show _=(.bool ((xI x e)):Value)from rfl) ?_))))))
 refine⟨?_,(U.s3_)⟩
 unfold xf
 first|rfl|simp only[g,m,Bool.false_and,Bool.true_and,Bool.and_false,Bool.and_true,Bool.true_or,Bool.or_true]
theorem XT {e:Ev}{de0:Value}(hde0:RdS W G de0 e.deps)(oe:e.Ok)(hS0:Sep G W Rs w):Ret Tryz.prog 58 [.agg (e.cells de0).toArray] w (fun r w'=> ∃(v:Value),r=(.agg (e.cells v).toArray:Value)∧Sep G W ((RowE (α:=Int) own 3 v e.deps)::Rs) w'):=by
 refine zi Tryz.func58 rfl rfl ?_
 refine za (R0 fun _=>st (zM rfl ?_))
 intro w3 b2 n
 refine st (zq uR ?_)
 intro w7 p o
 have i:=(hS0.new n).new o
 refine zb (za (R0 fun _=>st (yQ rfl (st (lD de0 rY rfl (zd (i.b1) rfl) (st (cL sA (Zr hde0 i) ?_)))))))
 rintro g w10 ⟨_,rfl,a⟩
 have d:=a.r0
 refine st (yQ rfl (stn (ym tA rfl rfl (a.b2) d.1.one rfl rfl ?_)))
 intro w13 j
 have f:=a.pt2 j
 refine zb (za (R0 fun _=>st (zh nT lT rfl rfl (CellsAt.all (f.b2)) (stn (zp (v:=.agg (e.cells g).toArray) (c':=(e.cells g).toArray) lT rfl rfl (f.b1) (zX ⟨rfl,rfl,rfl,d.1.one,rfl,rfl,rfl,rfl,rfl,rfl,trivial⟩) yqc rfl ?_)))))
 intro w17 m
 have h:=f.pt1 m
 refine zb (zk (Ve Tryz.results58 nT lT rfl rfl (CellsAt.all (h.b1)) ?_))
 refine⟨g,rfl,(h.s3_a)⟩
instance:Flat Prj:=⟨fun h=>h⟩
theorem el23:Elem Tryz.prog 23 112 5 40:=⟨uY,_,_,rfl,rfl,rfl,rfl,rfl⟩
theorem QX {vl:Value}{l:List Prj}(hl:RdS W G vl l)(hS0:Sep G W Rs w):Ret Tryz.prog 120 [vl] w (fun r w'=> ∃(v:Value),r=(v:Value)∧Sep G W ((RowE (α:=Prj) own 112 v l)::Rs) w'):=by
 have hls:_*40≤_:=hl.small
 refine zi (args:=[vl]) Tryz.func120 rfl rfl ?_
 refine za (R0 fun _=>st (aS (Iz) (zb (za (za (R0 fun _=>st (mV vl (st (Zn (v:=vl) uY rfl hl.sl (zb ?_))))))))))
 cases i:Zj vl
 refine ze rfl (zl (za (R0 fun _=>st (zI (k:=5) (parts':=[]) (c:=#[]) uY Tryz.sizeOf112 Tryz.zeroValue112 dc rfl kr ?_))))
 intro o p j
 refine st (mV vl ?_)
 have d:Sep G W ((RowE (α:=Prj) own 112 (Iy p 0 0) ([]:List Prj))::Rs) o:=Sep.blkRow (src:=own) (l:=([]:List Prj)) (css:=[]) (hS0.new j) rfl trivial yqa
 have e:=d.r0
 refine st (Za (src:=own) (bytes:=40) d el23 rfl rfl hl yqb rfl (hq':=fun _ _ h _ _=>Wm h) ?_)
 intro b q a
 have a:Sep G W ((RowE (α:=Prj) own 112 b l)::Rs) q:=a
 have f:=a.r0
 refine st (aS b (zb (zk (zG uA rfl ?_))))
 refine⟨b,rfl,a⟩
 have m:=YB hl.sl i
 refine zg rfl (za (R0 fun _=>st (aS (Iz) (zb (zk (zG uA rfl ?_))))))
 have g:Sep G W ((RowE (α:=Prj) own 112 (Iz) ([]:List Prj))::Rs) w:=hS0.rowNil own 112
 have n:l=[]:=List.length_eq_zero_iff.1 m
 subst n
 refine⟨(Iz),rfl,g⟩
theorem el72:Elem Tryz.prog 72 106 4 48:=⟨wT,_,_,rfl,rfl,rfl,rfl,rfl⟩
theorem QD {vl:Value}{l:List Fld}(hl:RdS W G vl l)(hS0:Sep G W Rs w):Ret Tryz.prog 121 [vl] w (fun r w'=> ∃(v:Value),r=(v:Value)∧Sep G W ((RowE (α:=Fld) (shr G W) 106 v l)::Rs) w'):=by
 have hls:_*48≤_:=hl.small
 refine zi (args:=[vl]) Tryz.func121 rfl rfl ?_
 refine za (R0 fun _=>st (aS (Iz) (zb (za (za (R0 fun _=>st (mV vl (st (Zn (v:=vl) wT rfl hl.sl (zb ?_))))))))))
 cases i:Zj vl
 refine ze rfl (zl (za (R0 fun _=>st (zI (k:=4) (parts':=[]) (c:=#[]) wT nR Tryz.zeroValue106 dc rfl kr ?_))))
 intro o p j
 refine st (mV vl ?_)
 have d:Sep G W ((RowE (α:=Fld) (shr G W) 106 (Iy p 0 0) ([]:List Fld))::Rs) o:=Sep.blkRow (src:=(shr G W)) (l:=([]:List Fld)) (css:=[]) (hS0.new j) rfl trivial yqa
 have e:=d.r0
 refine st (Za (src:=(shr G W)) (bytes:=48) d el72 rfl rfl hl yqb rfl (hq':=fun _ _ h _ _=>h) ?_)
 intro b q a
 have a:Sep G W ((RowE (α:=Fld) (shr G W) 106 b l)::Rs) q:=a
 have f:=a.r0
 refine st (aS b (zb (zk (zG vA rfl ?_))))
 refine⟨b,rfl,a⟩
 have m:=YB hl.sl i
 refine zg rfl (za (R0 fun _=>st (aS (Iz) (zb (zk (zG vA rfl ?_))))))
 have g:Sep G W ((RowE (α:=Fld) (shr G W) 106 (Iz) ([]:List Fld))::Rs) w:=hS0.rowNil (shr G W) 106
 have n:l=[]:=List.length_eq_zero_iff.1 m
 subst n
 refine⟨(Iz),rfl,g⟩
theorem zcc:Elem Tryz.prog 56 96 13 120:=⟨kR,_,_,rfl,rfl,rfl,rfl,rfl⟩
theorem QI {vl:Value}{l:List Ent}(hl:RdS W G vl l)(hS0:Sep G W Rs w):Ret Tryz.prog 57 [vl] w (fun r w'=> ∃(v:Value),r=(v:Value)∧Sep G W ((RowE (α:=Ent) (shr G W) 96 v l)::Rs) w'):=by
 have hls:_*120≤_:=hl.small
 refine zi (args:=[vl]) Tryz.func57 rfl rfl ?_
 refine za (R0 fun _=>st (aS (Iz) (zb (za (za (R0 fun _=>st (mV vl (st (Zn (v:=vl) kR rfl hl.sl (zb ?_))))))))))
 cases i:Zj vl
 refine ze rfl (zl (za (R0 fun _=>st (zI (k:=13) (parts':=[]) (c:=#[]) kR oR vY dc rfl kr ?_))))
 intro o p j
 refine st (mV vl ?_)
 have d:Sep G W ((RowE (α:=Ent) (shr G W) 96 (Iy p 0 0) ([]:List Ent))::Rs) o:=Sep.blkRow (src:=(shr G W)) (l:=([]:List Ent)) (css:=[]) (hS0.new j) rfl trivial yqa
 have e:=d.r0
 have hr10s:_*120≤_:=e.2
 refine st (Za (src:=(shr G W)) (bytes:=120) d zcc rfl rfl hl yqb rfl (hq':=fun _ _ h _ _=>h) ?_)
 intro b q a
 have a:Sep G W ((RowE (α:=Ent) (shr G W) 96 b l)::Rs) q:=a
 have f:=a.r0
 have hr11s:_*120≤_:=f.2
 refine st (aS b (zb (zk (zG wA (show _=(b:Value)from rfl) ?_))))
 refine⟨b,rfl,a⟩
 have m:=YB hl.sl i
 refine zg rfl (za (R0 fun _=>st (aS (Iz) (zb (zk (zG wA (show _=((Iz):Value)from rfl) ?_))))))
 have g:Sep G W ((RowE (α:=Ent) (shr G W) 96 (Iz) ([]:List Ent))::Rs) w:=hS0.rowNil (shr G W) 96
 have n:l=[]:=List.length_eq_zero_iff.1 m
 subst n
 refine⟨(Iz),rfl,g⟩
theorem zbW {x:Sta}{dx0:Value}(hdx0:RdS W G dx0 x.cls)(ox:x.Ok)(hS0:Sep G W Rs w):Ret Tryz.prog 78 [.agg (x.cells dx0).toArray] w (fun r w'=> ∃(v:Value),r=(.agg (x.cells v).toArray:Value)∧Sep G W ((RowE (α:=Cel) own 140 v x.cls)::Rs) w'):=by
 have hdx0s:_*32≤_:=hdx0.small
 refine zi Tryz.func78 rfl rfl ?_
 refine za (R0 fun _=>st (zM rfl ?_))
 intro w3 b2 aD
 refine st (zq lR ?_)
 intro w7 R aE
 have aw:=(hS0.new aD).new aE
 refine zb (za (R0 fun _=>st (xO rfl (st (lD dx0 sT rfl (zd (aw.b1) rfl) (st (cL Tryz.call92 (Ww hdx0 aw) ?_)))))))
 rintro m w10 ⟨_,rfl,F⟩
 have H:=F.r0
 have hr12s:_*32≤_:=H.2
 refine st (xO rfl (stn (ym kB rfl rfl (F.b2) H.1.one rfl rfl ?_)))
 intro w13 ax
 have ok15:Sta.Ok x:=⟨(show InR (x.ver)from ox.ver)⟩
 have S:=F.pt2 ax
 refine zb (za (za (R0 fun _=>st (xO rfl (st (lD m sT rfl (zd (S.b2) rfl) (st (zJ wY rfl H.1 (st (mV (Iv 0) (zb (zn ?_))))))))))))
 have ay:=S.toMix
 refine zZ (fun mq σ y=> ∃k ρ,mq=x.cls.length-k∧σ=yd ρ [(1,Ix b2 0),(2,Ix R 0),(10,Iw x.cls.length),(11,Iw k)]∧(k≤x.cls.length)∧Sep G W ((RowE (mix G W) 140 m (Zu k x.cls))::(Blk R #[Iv 0,(Iz)] 77)::(Blk b2 (x.cells m).toArray 77)::Rs) y) ⟨0,_,rfl,sSf,Nat.zero_le _,ay⟩ ?_
 rintro m19 σ20 aF ⟨k,ρl1,rfl,rfl,hkk,I⟩
 have J:=I.r0
 rw[xV]at J
 refine za (R0 fun _=>st (zC rfl rfl (zb (za ?_))))
 cases z:decide (((k:Nat):Int)<((x.cls.length:Nat):Int))
 have z:=fD z
 have A:Sep G W ((RowE (α:=Cel) own 140 m x.cls)::(Blk R #[Iv 0,(Iz)] 77)::(Blk b2 (x.cells m).toArray 77)::Rs) aF:=I.ofMix om
 have T:=A.r0
 have hr25s:_*32≤_:=T.2
 refine ze rfl (ya (zS (za (R0 fun _=>st (zh vR tT rfl rfl (CellsAt.all (A.b2)) (stn (zp (v:=.agg (x.cells m).toArray) (c':=(x.cells m).toArray) tT rfl rfl (A.b1) (zX ⟨rfl,T.1.one,trivial⟩) yqc rfl ?_)))))))
 intro w26 az
 have U:=A.pt1 az
 refine zb (zk (Ve Tryz.results78 vR tT rfl rfl (CellsAt.all (U.b1)) ?_))
 refine⟨m,rfl,(U.s3_a)⟩
 have z:=tD z
 refine zg rfl (zl (za (zn (za (R0 fun _=>st (mV (Iw k) (st (aS (Iw k) (zb ?_)))))))))
 refine WD4 ((fun TT V=>WF [fun vals y=>Sep G W (V::TT) y,fun vals y=> ∃e,(vals 8=e)∧(RdS W G e (x.cls.getD k default).set)∧(Cel.Ok (x.cls.getD k default))∧Sep G W (V::TT) y,fun vals y=> ∃e p,(vals 8=e)∧(vals 9=p)∧(RdS W G e (x.cls.getD k default).set)∧(Cel.Ok (x.cls.getD k default))∧Sep G W ((RowE own 3 p ((x.cls.getD k default).set))::V::TT) y,fun vals y=> ∃e p,(vals 8=e)∧(vals 9=p)∧(RdS W G e (x.cls.getD k default).set)∧(Cel.Ok (x.cls.getD k default))∧Sep G W ((RowE (mix G W) 140 m (Zu (k+1) x.cls))::TT) y]) ((Blk R #[Iv 0,(Iz)] 77)::(Blk b2 (x.cells m).toArray 77)::Rs) (RowE (mix G W) 140 m (Zu k x.cls))) (AF [Vl 0 (Ix b2 1),Vl 1 (m),Vl 2 (Iw k),Vl 3 (Ix b2 1),Vl 4 (m),Vl 5 (Iw k),Vl 6 (Ix (sb m) (so m+k*2)),Vl 7 (Ix (sb m) (so m+k*2+1)),fun _=>True,fun _=>True,Vl 10 (Ix (sb m) (so m+k*2)),Vl 11 (Ix (sb m) (so m+k*2+1)),fun _=>True]) [[],[0],[],[],[3],[],[3,4,5],[3,4,5,6],[3,4,5,6,7],[3,4,5,6,7,8],(rg 10),(rg 11),(rg 12)] [8,9,12] [(0,2),(0,2),(0,2),(0,0),(0,0),(0,0),(0,0),(0,0),(0,0),(1,1),(2,2),(2,2),(2,2)] I ⟨fun _ _ _ _ _ _ _=>obl rfl (xO rfl dR),?_,fun _ _ _ _ _ _ _=>obl rfl (mV (Iw k) dR),fun _ _ _ _ _ _ _=>obl rfl (xO rfl dR),ob1 0 fun _ _ (Z:Sep _ _ _ _) aa=>obl rfl (lD m sT (aa 3 dc) (zd (Z.b2) rfl) dR),fun _ _ _ _ _ _ _=>obl rfl (mV (Iw k) dR),?_,fun _ _ _ _ _ _ ab=>obl rfl (xc (ab 6 dc) dR),?_,?_,?_,fun _ _ _ _ _ _ ac=>obl rfl (xc (ac 10 dc) dR),?_,trivial⟩ ?_
 refine fun t _ _ aA aB B C=>?_
 have hkk:=JP aA aB
 rcases hkk with rfl|rfl|rfl
 have ad:=B
 exact obl rfl (lD m sT (C 0 dc) (zd (ad.b2) rfl) dR)
 obtain⟨e,q,g,h,ae⟩:=B
 exact obl rfl (lD m sT (C 0 dc) (zd (ae.b2) rfl) dR)
 obtain⟨e,p,q,s,g,h,af⟩:=B
 exact obl rfl (lD m sT (C 0 dc) (zd (af.b3) rfl) dR)
 refine ob1 0 fun _ _ _ K=>(obl rfl ?_)
 have ag:k<x.cls.length:=bo
 exact zj wY lB (K 4 dc) J.1 (K 5 dc) ag dR
 refine ob1 0 fun _ _ (X:Sep _ _ _ _) aC=>(obl rfl ?_)
 have Y:k<x.cls.length:=bo
 obtain⟨_,L,e,rfl,g,h⟩:=X.mixAt (i:=0) (j:=k) rfl (Nat.le_refl _) Y
 rw[←zB default Y]at L g h
 exact(lD e rY (aC 7 dc) (L.get (j:=1) rfl) (fun M hv E=>⟨(exiA e (zx hv (zx g (zx h X)))),trivial⟩))
 refine ob1 1 fun vals _ ai _=>?_
 obtain⟨e,q,g,h,aj⟩:=ai
 refine obl rfl ((zH (f:=82) (vals:=[e]) (cap:=[]) rfl (yE ⟨q,trivial⟩) sA (Zr g aj) ?_))
 rintro p w106 ⟨_,rfl,N⟩
 have ak:=N.r0
 have hr108s:_*8≤_:=ak.2
 exact fun M hv E=>⟨(exiA e (exiA p (zx ((E 8 dc).trans q) (zx hv (zx g (zx h N)))))),trivial⟩
 refine ob1 2 fun _ _ al O=>?_
 obtain⟨e,p,q,s,g,h,hS208⟩:=al
 refine obl rfl ?_
 have am:k<x.cls.length:=bo
 exact zj wY lB (O 1 dc) J.1 (O 2 dc) am dR
 refine ob1 2 fun _ _ an ao=>?_
 obtain⟨e,p,q,s,g,h,ap⟩:=an
 refine obl rfl ?_
 have P:=ap.mv1
 have Q:k<x.cls.length:=bo
 have D:=P.r1
 have hr139s:_*8≤_:=D.2
 refine(Xq (α:=Cel) (j:=k) (o:=1) (u:=p) (us:=[p]) P tA Q (ao 11 (by decide)) s (congrArg Array.toList (xy D.1.one)) (Nat.le_of_ble_eq_true rfl) (zX ⟨D.1.one,trivial⟩) (fun w f cs0 hr hN=>(by obtain⟨d,rfl,hd,hok⟩:=hr;exact⟨_,rfl,(by rw[←zB default Q];exact RowE.soft hN),hok⟩)) ?_)
 intro w135 aq
 exact fun M hv E=>⟨(exiA e (exiA p (zx ((E 8 dc).trans q) (zx ((E 9 dc).trans s) (zx g (zx h aq)))))),trivial⟩
 intro vals w219 ar hA221
 obtain⟨e,p,q,s,g,h,au⟩:=ar
 refine zT (kv:=[(1,Ix b2 0),(2,Ix R 0),(10,Iw x.cls.length),(11,Iw k),(12,.bool true),(13,Iw k),(3,Iw k)]) sEv (fun ρw219=>(zb (R0 fun _=>?_)))
 have av:InR ((k+1:Nat):Int):=bo
 refine st (zP (r:=((k+1:Nat):Int)) (k:=.i64) (a:=((k:Nat):Int)) (b:=1) rfl rfl (by rw[show(((k:Nat):Int)+1:Int)=((k+1:Nat):Int)from bo];exact zF av) (st (mV (Iw (k+1)) (zb ?_))))
 exact⟨_,by omega,k+1,_,rfl,sSf,by omega,au⟩
theorem el22:Elem Tryz.prog 22 74 1 24:=⟨uT,_,_,rfl,rfl,rfl,rfl,rfl⟩
theorem QY {d:Dcl}{dd0:Value}(hdd0:RdS W G dd0 d.types){dd1:Value}(hdd1:RdS W G dd1 d.projs)(od:d.Ok)(hS0:Sep G W Rs w):Ret Tryz.prog 95 [.agg (d.cells dd0 dd1).toArray] w (fun r w'=> ∃(v1:Value) (v2:Value),r=(.agg (d.cells v1 v2).toArray:Value)∧Sep G W ((RowE (α:=Typ) own 74 v1 d.types)::(RowE (α:=Prj) own 112 v2 d.projs)::Rs) w'):=by
 have hdd0s:_*24≤_:=hdd0.small
 have hdd1s:_*40≤_:=hdd1.small
 refine zi Tryz.func95 rfl rfl ?_
 refine za (R0 fun _=>st (zM rfl ?_))
 intro w3 b2 aH
 refine st (zq mB ?_)
 intro w7 H aI
 have ag:=(hS0.new aH).new aI
 refine zb (za (R0 fun _=>st (ZP rfl (st (lD dd1 Tryz.isAgg23 rfl (zd (ag.b1) rfl) (st (cL Tryz.call120 (QX hdd1 ag) ?_)))))))
 rintro g w10 ⟨_,rfl,I⟩
 have s:=I.r0
 have hr12s:_*40≤_:=s.2
 have ok13:Dcl.Ok (⟨[],d.projs⟩:Dcl):=⟨⟩
 refine st (zL (parts':=[(1,g)]) (v:=.agg ((⟨[],d.projs⟩:Dcl).cells (Iz) g).toArray) rfl (by obtain⟨_,_,ai,_⟩:=s.1;rw[show g=Value.slice _ _ _ from ai];simp[Instr.build,Instr.fill,Ev.cells,go_sem,Mv.cells,Fld.cells,Typ.cells,Prj.cells,Dcl.cells,Cel.cells,AskR.cells,CelS.cells,Ev.cells,Ent.cells,Sta.cells]) (st (zq mB ?_)))
 intro w17 z aj
 have J:=I.new aj
 refine stn (zp (v:=.agg ((⟨[],d.projs⟩:Dcl).cells (Iz) g).toArray) (c':=((⟨[],d.projs⟩:Dcl).cells (Iz) g).toArray) mR rfl rfl (J.b0) (zX ⟨rfl,s.1.one,trivial⟩) yqc rfl ?_)
 intro w19 ak
 have K:=J.pt0 ak
 refine zb (za (za (R0 fun _=>st (yC rfl (st (lD dd0 pR rfl (zd (K.b3) rfl) (st (zJ uT rfl hdd0.sl (st (mV (Iv 0) (zb (zn ?_))))))))))))
 have al:Sep _ _ ((RowE (α:=Typ) own 74 (Iz) ([]:List Typ))::_) _:=K.rowNil own 74
 refine zZ (fun mq σ wq=> ∃k vo ρ,mq=d.types.length-k∧σ=yd ρ [(1,Ix b2 0),(2,Ix H 0),(3,Ix z 0),(13,dd0),(14,Iw d.types.length),(15,Iw k)]∧(k≤d.types.length)∧Sep G W ((RowE own 74 vo (d.types.take k))::(Blk z #[vo,g] 25)::(RowE own 112 g d.projs)::(Blk H #[(Iz),(Iz)] 25)::(Blk b2 (d.cells dd0 dd1).toArray 25)::Rs) wq) ⟨0,(Iz),_,rfl,sSf,Nat.zero_le _,al⟩ ?_
 rintro m24 σ25 w23 ⟨k,vo,ρl1,rfl,rfl,hkk,h⟩
 have an:=h.r0
 have hr27s:_*24≤_:=an.2
 refine za (R0 fun _=>st (zC rfl rfl (zb (za ?_))))
 cases t:decide (((k:Nat):Int)<((d.types.length:Nat):Int))
 have t:=fD t
 have hkn:k=d.types.length:=by omega
 rw[hkn,List.take_of_length_le (Nat.le_refl d.types.length)]at h
 have L:=h.r0
 have hr29s:_*24≤_:=L.2
 refine ze rfl (ya (zS (za (R0 fun _=>?_))))
 have ok30:Dcl.Ok d:=⟨⟩
 refine st (zh rR mR rfl rfl (CellsAt.all (h.b1)) (stn (zp (v:=.agg (d.cells vo g).toArray) (c':=(d.cells vo g).toArray) mR rfl rfl (h.b3) (zX ⟨L.1.one,s.1.one,trivial⟩) yqc rfl ?_)))
 intro aJ ao
 have M:=h.pt3 ao
 refine zb (zk (Ve Tryz.results95 rR mR rfl rfl (CellsAt.all (M.b3)) ?_))
 have ap:Sep G W ((RowE (α:=Typ) own 74 vo d.types)::(RowE own 112 g d.projs)::Rs) aJ:=M.sel 5 [0,2] (Nat.le_add_left _ _) rfl rfl
 refine⟨vo,g,rfl,ap⟩
 have t:=tD t
 refine zg rfl (zl (za (zn (za (R0 fun _=>?_)))))
 have aq:k<d.types.length:=bo
 refine st (zj uT oT rfl hdd0.sl rfl aq ?_)
 have N:k<d.types.length:=bo
 obtain⟨ad,m,hoke36⟩:=hdd0.typD N
 have hsm38:((d.types.getD k default).fields).length*48≤140737488355328:=m.small
 have ae:=h.cells ad (hdd0.foot (ne_of_lt N))
 refine st (zh vT oT rfl rfl ae (st (zq wR ?_)))
 intro w42 O ar
 have P:=h.new ar
 refine stn (zp (v:=.agg ((d.types.getD k default).cells (zN W (sb dd0) (so dd0+k*1+0))).toArray) (c':=((d.types.getD k default).cells (zN W (sb dd0) (so dd0+k*1+0))).toArray) oT rfl rfl (P.b0) (zX ⟨m.sl.one,trivial⟩) yqc rfl ?_)
 intro w44 au
 have Q:=P.pt0 au
 refine zb (za (R0 fun _=>st (yS rfl (st (lD (zN W (sb dd0) (so dd0+k*1+0)) nB rfl (zd (Q.b0) rfl) (st (cL Tryz.call121 (QD m Q) ?_)))))))
 rintro e w48 ⟨_,rfl,R⟩
 have S:=R.r0
 have hr50s:_*48≤_:=S.2
 refine st (aS e (zb (za (za (R0 fun _=>st (mV e (st (zJ wT rfl S.1 (st (mV (Iv 0) (zb (zn ?_))))))))))))
 have av:=R.toMix
 refine zZ (fun mq σ wq=> ∃q ρ,mq=((d.types.getD k default).fields).length-q∧σ=yd ρ [(1,Ix b2 0),(2,Ix H 0),(3,Ix z 0),(5,Ix O 0),(6,e),(13,dd0),(14,Iw d.types.length),(15,Iw k),(23,Iw (((d.types.getD k default).fields).length)),(24,Iw q)]∧(q≤((d.types.getD k default).fields).length)∧Sep G W ((RowE (mix G W) 106 e (Zu q ((d.types.getD k default).fields)))::(Blk O ((d.types.getD k default).cells (zN W (sb dd0) (so dd0+k*1+0))).toArray 74)::(RowE own 74 vo (d.types.take k))::(Blk z #[vo,g] 25)::(RowE own 112 g d.projs)::(Blk H #[(Iz),(Iz)] 25)::(Blk b2 (d.cells dd0 dd1).toArray 25)::Rs) wq) ⟨0,_,rfl,sSf,Nat.zero_le _,av⟩ ?_
 rintro m53 σ54 aK ⟨q,ρl2,rfl,rfl,hkq,x⟩
 have B:=x.r0
 rw[xV]at B
 refine za (R0 fun _=>st (zC rfl rfl (zb (za ?_))))
 cases y:decide (((q:Nat):Int)<((((d.types.getD k default).fields).length:Nat):Int))
 have y:=fD y
 have C:Sep G W ((RowE (α:=Fld) own 106 e ((d.types.getD k default).fields))::(Blk O ((d.types.getD k default).cells (zN W (sb dd0) (so dd0+k*1+0))).toArray 74)::(RowE own 74 vo (d.types.take k))::(Blk z #[vo,g] 25)::(RowE own 112 g d.projs)::(Blk H #[(Iz),(Iz)] 25)::(Blk b2 (d.cells dd0 dd1).toArray 25)::Rs) aK:=x.ofMix om
 have T:=C.r0
 have hr59s:_*48≤_:=T.2
 refine ze rfl (ya (zS (R0 fun _=>st (yC rfl (st (lD vo pR rfl (zd (C.b3) rfl) (st (mV e ?_))))))))
 have aw:Typ.Ok (d.types.getD k default):=⟨⟩
 refine st (zL (parts':=[(0,e)]) (v:=.agg ((d.types.getD k default).cells e).toArray) rfl (by obtain⟨_,_,ax,_⟩:=T.1;rw[show e=Value.slice _ _ _ from ax];simp[Instr.build,Instr.fill,Ev.cells,go_sem,Mv.cells,Fld.cells,Typ.cells,Prj.cells,Dcl.cells,Cel.cells,AskR.cells,CelS.cells,Ev.cells,Ent.cells,Sta.cells]) (st (zI (k:=1) (parts':=[(0,.agg ((d.types.getD k default).cells e).toArray)]) (c:=((d.types.getD k default).cells e).toArray) uT oT wR (by decide) rfl (by kernel_rfl) ?_)))
 intro w64 b63 ay
 have U:=C.new ay
 have af:=U.b0
 refine st (yj (src:=own) (bytes:=24) (x1:=(d.types.getD k default)) (U.s8_dbcefgh) el22 rfl rfl af (fun _ _ hN=>⟨_,rfl,RowE.soft hN,aw⟩) yqb rfl ?_)
 intro V w66 D
 have X:=D.r0
 refine st (yC rfl (stn (ym Tryz.sizeOf22 rfl rfl (D.b2) X.1.one rfl rfl ?_)))
 intro w72 aA
 refine zb (R0 fun _=>?_)
 have aB:InR ((k+1:Nat):Int):=bo
 refine st (zP (r:=((k+1:Nat):Int)) (k:=.i64) (a:=((k:Nat):Int)) (b:=1) rfl rfl (by rw[show(((k:Nat):Int)+1:Int)=((k+1:Nat):Int)from bo];exact zF aB) (st (mV (Iw (k+1)) (zb ?_))))
 have Y:=(D.pt2 aA).s6_acdef
 have aC:(d.types.take (k+1))=(d.types.take k)++[(d.types.getD k default)]:=(List.take_getD om)
 rw[←aC]at Y
 exact⟨_,by omega,k+1,V,_,rfl,sSf,by omega,Y⟩
 have y:=tD y
 refine zg rfl (zl (za (zn (za (R0 fun _=>st (mV (Iw q) (st (aS (Iw q) (zb (R0 fun _=>st (mV e (st (mV (Iw q) (st (mV e (st (mV (Iw q) ?_)))))))))))))))))
 have aD:q<((d.types.getD k default).fields).length:=bo
 refine st (zj wT nR rfl B.1 rfl aD (st (yF rfl ?_)))
 have Z:q<((d.types.getD k default).fields).length:=bo
 obtain⟨_,F,A,rfl,p,aa⟩:=x.mixAt (i:=0) (j:=q) rfl (Nat.le_refl _) Z
 rw[←zB default Z]at F p aa
 refine st (lD A Tryz.isAgg104 rfl (F.get (j:=3) rfl) (st (cL Tryz.call122 (VK p x) ?_)))
 rintro ah w83 ⟨_,rfl,ab⟩
 have E:=ab.r0
 have aE:q<((d.types.getD k default).fields).length:=bo
 refine st (zj wT nR rfl B.1 rfl aE (st (yF rfl ?_)))
 have ac:q<((d.types.getD k default).fields).length:=bo
 refine stn (Xq (α:=Fld) (j:=q) (o:=3) (u:=ah) (us:=[ah]) (ab.mv1) Tryz.sizeOf104 ac rfl rfl (congrArg Array.toList (xy E.1.one)) (Nat.le_of_ble_eq_true rfl) (zX ⟨E.1.one,trivial⟩) (fun w f cs0 hr hN=>(by obtain⟨d,rfl,hd,hok⟩:=hr;exact⟨_,rfl,(by rw[←zB default ac];exact RowE.soft hN),hok⟩)) ?_)
 intro w87 aF
 refine zb (R0 fun _=>?_)
 have aG:InR ((q+1:Nat):Int):=bo
 refine st (zP (r:=((q+1:Nat):Int)) (k:=.i64) (a:=((q:Nat):Int)) (b:=1) rfl rfl (by rw[show(((q:Nat):Int)+1:Int)=((q+1:Nat):Int)from bo];exact zF aG) (st (mV (Iw (q+1)) (zb ?_))))
 exact⟨_,by omega,q+1,_,rfl,sSf,by omega,aF⟩
theorem zdr {d:Dcl}{dd0:Value}(hdd0:RdS W G dd0 d.types){dd1:Value}(hdd1:RdS W G dd1 d.projs)(od:d.Ok)(hS0:Sep G W Rs w):Ret Tryz.prog 70 [.agg (d.cells dd0 dd1).toArray] w (fun r w'=> ∃(b:Nat),r=(.pointer (some ⟨b,0,none⟩):Value)∧Sep G W ((ViewO b d [] [])::Rs) w'):=by
 refine zi Tryz.func70 rfl rfl ?_
 refine za (R0 fun _=>st (zM rfl ?_))
 intro w3 b2 y
 have l:=hS0.new y
 refine st (aS (.pointer none) (zb (za (R0 fun _=>st (zh rR mR rfl rfl (CellsAt.all (l.b0)) (st (cL Tryz.call95 (QY hdd0 hdd1 od l) ?_)))))))
 rintro _ C ⟨a,c,rfl,h⟩
 have A:=h.r0
 have n:=h.r1
 refine st (ZZ ?_)
 intro m o
 obtain⟨e,i⟩: ∃z,z=C.heap.size:=⟨_,rfl⟩;rw[←i]
 have p:Sep G W ((MapO xh E1 e (fun _=>none))::(RowE (α:=Typ) own 74 a d.types)::(RowE own 112 c d.projs)::(Blk b2 (d.cells dd0 dd1).toArray 25)::Rs) m:=(by rw[i];exact h.mapoNew o)
 refine st (ZZ ?_)
 intro B q
 obtain⟨f,j⟩: ∃z,z=m.heap.size:=⟨_,rfl⟩;rw[←j]
 have s:Sep G W ((MapO xZ E2 f (fun _=>none))::(MapO xh E1 e (fun _=>none))::(RowE (α:=Typ) own 74 a d.types)::(RowE own 112 c d.projs)::(Blk b2 (d.cells dd0 dd1).toArray 25)::Rs) B:=(by rw[j];exact p.mapoNew q)
 refine st (zL (parts':=[(0,.agg (d.cells a c).toArray),(2,.map (some e)),(3,.map (some f))]) (v:=.agg #[a,c,(Iz),.map (some e),.map (some f)]) rfl (by simp[Instr.build,Instr.fill,go_sem,Dcl.cells]) (st (zM rfl ?_)))
 intro w21 g t
 refine st (aS (Ix g 0) (zb (zk (zG Tryz.results70 rfl ?_))))
 have u:Sep _ _ ((RowE (α:=Ent) own 96 (Iz) ([]:List Ent))::_) _:=(s.new t).rowNil own 96
 have x:Sep _ _ ((ViewO g d [] [])::_) _:=ViewO.close (u.s7_befadcg)
 refine⟨g,rfl,(x.s2_a)⟩
theorem Ut {P:Program}{n:Nat}{c:Code}{Q:Zv}{σ:Env}{w:World}(J:Env→World→Prop)(h:WP P n c (fun e σ w=>e=.normal∧J σ w) σ w)(hq: ∀σ w,J σ w→Q .normal σ w):WP P n c Q σ w:=fun a hs=>
 wp_mono (h a hs) (by rintro e a' w' ⟨σ'',hs'',rfl,hj⟩;exact⟨σ'',hs'',hq _ _ hj⟩)
abbrev RwV (v:Value)(l:List Ev):HP:=RowE (α:=Ev) own 44 v l
abbrev RwN (v:Value)(l:List Ent):HP:=RowE (α:=Ent) own 96 v l
abbrev RwT (v:Value)(l:List Typ):HP:=RowE (α:=Typ) own 74 v l
abbrev RwP (v:Value)(l:List Prj):HP:=RowE (α:=Prj) own 112 v l
abbrev RwI (v:Value)(l:List Int):HP:=RowE (α:=Int) own 3 v l
abbrev RwC (v:Value)(l:List Cel):HP:=RowE (α:=Cel) own 140 v l
abbrev Ms1 (m:Nat)(d:Dcl)(M:List Ent)(k:Int×Int)(vc:Value):HP:=Zs xh E1 Qr m (zw d M) k (.agg #[.int .i64 ((yh k M:Nat):Int),vc])
abbrev Md1 (m:Nat)(M:List Ent)(e:Ev)(v:Value):HP:=Zs xZ E2 (.slice none 0 0) m (yK M) (e.typ,e.agg,e.field) v
abbrev BkP (b:Nat)(e:Ev):HP:=Blk b #[.int .i64 e.typ,.int .i64 e.agg,.int .i64 e.field] 165
abbrev BkT (b:Nat)(d:Dcl)(e:Ev)(W:World)(v:Value):HP:=Blk b ((d.types.getD e.typ.toNat default).cells (zN W (sb v) (so v+e.typ.toNat*1+0))).toArray 74
abbrev BkV (b:Nat)(vt vp ve:Value)(m4 m5:Nat):HP:=Blk b #[vt,vp,ve,.map (some m4),.map (some m5)] 101
abbrev BkS (b:Nat)(M:List Ent)(k:Int×Int)(v:Value):HP:=Blk b #[.int .i64 ((yh k M:Nat):Int),v] 77
abbrev clL (d:Dcl)(M:List Ent)(e:Ev):List Cel:=zO d (e.typ,e.agg) M
theorem Yv {P:Program}{σ:Env}{w:World}{fn:Func}{a u:Tmp}{t:TypeId}{R:Value→World→Prop}{b k:Nat}{cs:List Value}{v':Value}(hr:fn.results=#[.tmp u,.cell a t])(hA: ∀w,(isAgg t).run P w=.ok true w)(hS: ∀w,(sizeOf t).run P w=.ok k w)(hk:cs.length=k)
 (hv:σ a=.pointer (some ⟨b,0,none⟩)) (hc:CellsAt w b 0 cs) (hu:σ u=v') (h:R (.tuple #[v',.agg cs.toArray]) w):YO P fn R .ret σ w:=by
 subst hk
 refine⟨_,fun tmps ht=>?_,h⟩
 have:=yY (P:=P) (w:=w) b 0 cs 0 #[] (fun j hj=>by simpa using hc j hj)
 have e:tmps[a]?.getD undef=.pointer (some ⟨b,0,none⟩):=by rw[←hv,←ht a];simp
 have e2:tmps[u]?.getD undef=v':=by rw[←hu,←ht u];simp
 simp[results,hr,e,e2,asAddr,loadVar,hA,hS,loadCells,this,go_sem]
theorem KP {p:Ev→Bool}: ∀{l:List Ev} {k:Nat},k<l.length→(∀i,i<k→p (l.getD i default)=false)→p (l.getD k default)=true→l.find? p=some (l.getD k default)
 |[],k,hk,_,_=>absurd hk (Nat.not_lt_zero k)
 |x::l,0,_,_,h1=>by have h1:p x=true:=h1;rw[List.find?_cons,h1];rfl
 |x::l,k+1,hk,h0,h1=>by
  have hx:p x=false:=h0 0 (Nat.succ_pos _)
  rw[List.find?_cons,hx]
  exact KP (by simpa using hk) (fun i hi=>h0 (i+1) (by omega)) h1
theorem zci {p:Ev→Bool}{l:List Ev}(h: ∀i,i<l.length→p (l.getD i default)=false):l.find? p=none:=by
 rw[List.find?_eq_none]
 intro x hx
 obtain⟨i,hi,rfl⟩:=List.getElem_of_mem hx
 have:=h i hi
 rw[zB _ hi]at this
 rw[this];decide
theorem zad (k:Int×Int×Int)(L:List Ent):(yx k L).length≤L.length:=by unfold yx;rw[List.length_map];exact List.length_filter_le _ _
section
variable {d:Dcl}{M:List Ent}{e:Ev}
theorem WM (h: ¬yV d e.typ e.field e.op e.arg=0):zU d M e=(true,0,0):=by unfold zU;rw[if_pos h]
theorem zdB {k:Nat}(h:yV d e.typ e.field e.op e.arg=0)(hk:k<(yx (e.typ,e.agg,e.field) M).length)(h0: ∀i,i<k→xf ((d.types.getD e.typ.toNat default).fields.getD e.field.toNat default) ((yx (e.typ,e.agg,e.field) M).getD i default) e=false)
 (h1:xf ((d.types.getD e.typ.toNat default).fields.getD e.field.toNat default) ((yx (e.typ,e.agg,e.field) M).getD k default) e=true):zU d M e=(true,((yx (e.typ,e.agg,e.field) M).getD k default).origin,((yx (e.typ,e.agg,e.field) M).getD k default).seq):=by
 unfold zU xX
 rw[if_neg (by simpa using h),KP (p:=fun x=>xf ((d.types.getD e.typ.toNat default).fields.getD e.field.toNat default) x e) hk h0 h1]
theorem zbg (h:yV d e.typ e.field e.op e.arg=0)(h0: ∀i,i<(yx (e.typ,e.agg,e.field) M).length→xf ((d.types.getD e.typ.toNat default).fields.getD e.field.toNat default) ((yx (e.typ,e.agg,e.field) M).getD i default) e=false):
 zU d M e=if ¬yH (d.types.getD e.typ.toNat default) (zO d (e.typ,e.agg) M) e.field e.op e.arg=0 then(true,0,0)else(false,0,0):=by
 unfold zU xX
 rw[if_neg (by simpa using h),zci (p:=fun x=>xf ((d.types.getD e.typ.toNat default).fields.getD e.field.toNat default) x e) h0]
end
theorem Qq {G:Nat→Prop}{W w:World}{As:List HP}{d:Dcl}{M:List Ent}{v2 vc:Value}{k:Int×Int}(h:Sep G W (RowE (α:=Cel) own 140 v2 (zO d k M)::As) w)(hv:v2=vc∨yh k M=0):Sep G W (Xs E1 (.agg #[.int .i64 ((yh k M:Nat):Int),vc]) (zw d M k)::As) w:=by
 refine h.impl (i:=0) rfl (fun f hA=>?_)
 unfold zw
 by_cases he:yh k M=0
 ·rw[if_pos he];exact trivial
 ·rw[if_neg he]
  obtain rfl:=hv.resolve_right he
  exact⟨v2,rfl,hA⟩
theorem UM {d:Dcl}{M:List Ent}{k:Int×Int}(h:(zw d M k).isSome=false):yh k M=0:=by
 unfold zw at h
 by_cases h8:yh k M=0
 ·exact h8
 ·rw[if_neg h8]at h;cases h
theorem UE {d:Dcl}{M:List Ent}{k:Int×Int}(h:(zw d M k).isSome=true): ¬yh k M=0:=by
 intro h8
 unfold zw at h
 rw[if_pos h8]at h;cases h
theorem zag {t:Typ}{c:List Cel}{f:Int}(h:Right t c)(h0:0≤f)(h1:f<t.fields.length):(yy c f).set.length≤1000:=by
 have:=h.most f.toNat (by have:=h.len;omega)
 exact Nat.le_trans this (by omega)
theorem UP:Elem Tryz.prog 26 44 10 96:=⟨qR,_,_,rfl,rfl,rfl,rfl,rfl⟩
set_option maxHeartbeats 8000000 in
theorem D_try {b:Nat}{d:Dcl}{L:List Ent}{M:List Ent}{e:Ev}{ve0:Value}(oe:e.Ok)(hKN:RdS W G (.slice (some ⟨0,0,none⟩) 6 6) kindsL)(hS0:Sep G W ((ViewO b d L M)::(RowE (α:=Int) own 3 ve0 e.deps)::Rs) w)(hd:DclOk d)(hinv:Inv d M)(hml:M.length≤1000000):Ret Tryz.prog 91 [.pointer (some ⟨b,0,none⟩),.agg (e.cells ve0).toArray] w (fun r w'=>r=(.tuple #[.bool ((zU d M e).1),.agg #[.int .i64 ((zU d M e).2.1),.int .i64 ((zU d M e).2.2)]]:Value)∧(InR (zU d M e).2.1∧InR (zU d M e).2.2)∧Sep G W ((ViewO b d L (M++[yA d M e]))::Rs) w'):=by
 let jZ:=ViewO b d L (M++[yA d M e])
 let bi:=(e.typ,e.agg,e.field)
 have hKNs:_*8≤_:=hKN.small
 refine zi (args:=[Ix b 0,.agg (e.cells ve0).toArray]) Tryz.func91 rfl rfl ?_
 obtain⟨l,O,T,P,R,jN⟩:=ViewO.open hS0
 let jX:=MapO xZ E2 R (yK M)
 let jV:=MapO xh E1 P (zw d M)
 let hv:=MapO xh E1 P (Yi (zw d M) (e.typ,e.agg) (yh (e.typ,e.agg) M+1,(doL (d.types.getD e.typ.toNat default) (clL d M e) e.field e.op e.arg)))
 have bb:Sep G W ((BkV b l O T P R)::(RwT l d.types)::(RwP O d.projs)::(RwN T L)::jV::jX::(RwI ve0 e.deps)::Rs) w:=jN
 have jO:=bb.r1
 have hr7s:_*24≤_:=jO.2
 have jP:=bb.r2
 have hr8s:_*40≤_:=jP.2
 have jQ:=bb.r3
 have hr9s:_*120≤_:=jQ.2
 have jn:=bb.r6
 have hr10s:_*8≤_:=jn.2
 refine za (R0 fun _=>st (zM (v:=.agg (e.cells ve0).toArray) rfl ?_))
 intro w13 s jo
 let bG:=Blk s (e.cells ve0).toArray 44
 refine st (aS (.bool false) (st (zq pB ?_)))
 intro w17 I jp
 let jU:=Blk I #[Iv 0,Iv 0] 41
 refine zb (za (za ?_))
 refine WD4 ((fun TT J ab ad=>WF [fun vals B=>Sep G W (J::ab::ad::(RwT l d.types)::(RwP O d.projs)::TT) B,fun vals B=>(vals 12=(Iv (yV d e.typ e.field e.op e.arg):Value))∧Sep G W ((RwT l d.types)::(RwP O d.projs)::J::ab::ad::TT) B]) ((RwN T L)::jV::jX::(RwI ve0 e.deps)::Rs) jU bG (BkV b l O T P R)) (AF [Vl 0 (Ix b 0),Vl 1 (Ix b 0),Vl 2 (Ix b 0),Vl 3 (.agg (d.cells l O).toArray),Vl 4 (Ix s 4),Vl 5 (Iv (e.typ)),Vl 6 (Ix s 6),Vl 7 (Iv (e.field)),Vl 8 (Ix s 7),Vl 9 (Iv (e.op)),Vl 10 (Ix s 8),Vl 11 (Iv (e.arg)),fun _=>True,Vl 13 (.bool (!decide ((yV d e.typ e.field e.op e.arg)=0)))]) [[],[0],[0,1],[0,1,2],[],[4],[],[6],[],[8],[],[10],(rg 12),(rg 13)] [12] [(0,0),(0,0),(0,0),(0,0),(0,0),(0,0),(0,0),(0,0),(0,0),(0,0),(0,0),(0,0),(0,0),(1,1)] ((bb.new jo).new jp) ⟨fun _ _ _ _ _ _ _=>obl rfl (mV (Ix b 0) dR),fun _ _ _ _ _ _ gu=>obl rfl (zo (b:=b) (o:=0) (gu 0 dc) dR),fun _ _ _ _ _ _ gv=>obl rfl (Jd (gv 1 dc) dR),?_,fun _ _ _ _ _ _ _=>obl rfl (xr rfl dR),ob1 0 fun _ _ (gw:Sep _ _ _ _) gx=>obl rfl (lD (Iv (e.typ)) kT (gx 4 dc) (zd (gw.b1) rfl) dR),fun _ _ _ _ _ _ _=>obl rfl (xt rfl dR),ob1 0 fun _ _ (gy:Sep _ _ _ _) gz=>obl rfl (lD (Iv (e.field)) kT (gz 6 dc) (zd (gy.b1) rfl) dR),fun _ _ _ _ _ _ _=>obl rfl (xw rfl dR),ob1 0 fun _ _ (gA:Sep _ _ _ _) gB=>obl rfl (lD (Iv (e.op)) kT (gB 8 dc) (zd (gA.b1) rfl) dR),fun _ _ _ _ _ _ _=>obl rfl (xF rfl dR),ob1 0 fun _ _ (gC:Sep _ _ _ _) gD=>obl rfl (lD (Iv (e.arg)) kT (gD 10 dc) (zd (gC.b1) rfl) dR),?_,?_,trivial⟩ ?_
 refine ob1 0 fun _ _ (gE:Sep _ _ _ _) gF=>(obl rfl ?_)
 have ok172:Dcl.Ok d:=⟨⟩
 exact zh (k:=2) (cs:=[l,O]) rR mR rfl (gF 2 dc) (CellsAt.sub (CellsAt.all (gE.b2)) 0 (cs2:=[l,O]) rfl) dR
 refine ob1 0 fun vals _ (gG:Sep _ _ _ _) aq=>(obl rfl ?_)
 obtain⟨G117,gH,gI,gJ,gK⟩:=(gG.mv3).lend
 have bK:=RowE.rd gH
 have hrd123s:_*24≤_:=bK.small
 obtain⟨G125,gL,cT,gM,gN⟩:=(gJ.mv3).lend
 have bL:=RowE.rd gL
 have hrd131s:_*40≤_:=bL.small
 refine(zH (f:=76) (vals:=[.agg (d.cells l O).toArray,Iv (e.typ),Iv (e.field),Iv (e.op),Iv (e.arg)]) (cap:=[]) rfl (yE ⟨(aq 3 dc),(aq 5 dc),(aq 7 dc),(aq 9 dc),(aq 11 dc),trivial⟩) Tryz.call76 (zca (d:=d) (ty:=e.typ) (f:=e.field) (op:=e.op) (arg:=e.arg) (RdS.base bK cT) bL (⟨⟩:Dcl.Ok d) oe.typ oe.field oe.op oe.arg (RdS.base (RdS.base hKN gI) cT) gM) ?_)
 rintro _ w132 ⟨rfl,gO⟩
 have gP:=gN _ _ gO
 have gQ:=gK _ _ gP
 exact fun C Q D=>⟨(zx Q gQ),trivial⟩
 refine ob1 1 fun _ _ gR _=>?_
 obtain⟨cU,hS235⟩:=gR
 exact obl rfl (yn (k:=.i64) (a:=yV d e.typ e.field e.op e.arg) (b:=0) cU rfl dR)
 intro vals p gS gT
 let bF:=zN p (sb l) (so l+e.typ.toNat*1+0)
 let jR:=(d.types.getD e.typ.toNat default).cells bF
 obtain⟨cU,cV⟩:=gS
 have jq:=gT 13 dc
 refine zT (kv:=[(0,Ix b 0),(1,.agg (e.cells ve0).toArray),(3,Ix s 0),(4,.bool false),(5,Ix I 0),(25,.bool (!decide ((yV d e.typ e.field e.op e.arg)=0)))]) ⟨rfl,rfl,rfl,rfl,rfl,(by exact jq),trivial⟩ (fun ρw236=>(zb ?_))
 cases ag: !decide ((yV d e.typ e.field e.op e.arg)=0)
 have ag:=zQ ag
 have hfo:=Yb ag
 have hfz:=ag
 have dM:=hfo.1;have dN:=hfo.2.1;have hft:=hfo.2.2
 have hfl:=hft.lo;have hfh:=hft.hi
 refine ze rfl (zl (za ?_))
 have cW:=cV.s9_acdeghibf
 generalize bx:((RwP O d.projs)::(RwN T L)::Rs)=aj at cW
 obtain⟨N,gU,hB248,gV,bz⟩:=cW.lend
 have K:=RowE.rd gU
 have hrd251s:_*24≤_:=K.small
 refine WD6 ((fun TT J=>WF [fun vals B=>Sep N p (J::TT) B,fun vals B=> ∃(j:Nat),(vals 17=(Ix j 0:Value))∧Sep N p ((Blk j #[(Iz)] 74)::J::TT) B,fun vals B=> ∃(g:Nat),(vals 18=(Ix g 0:Value))∧Sep N p ((Blk g #[Iv 0,Iv 0,Iv 0] 165)::J::TT) B,fun vals B=> ∃(j:Nat) (g:Nat),(vals 17=(Ix j 0:Value))∧(vals 18=(Ix g 0:Value))∧Sep N p ((Blk g #[Iv 0,Iv 0,Iv 0] 165)::(Blk j #[(Iz)] 74)::J::TT) B,fun _ _=>True,fun _ _=>True,fun _ _=>True,fun vals B=> ∃(j:Nat) (g:Nat),(vals 17=(Ix j 0:Value))∧(vals 18=(Ix g 0:Value))∧Sep N p ((Blk g #[Iv 0,Iv 0,Iv 0] 165)::(BkT j d e p l)::J::TT) B,fun _ _=>True,fun _ _=>True,fun _ _=>True,fun _ _=>True,fun _ _=>True,fun _ _=>True,fun _ _=>True,fun vals B=> ∃(j:Nat) (g:Nat),(vals 17=(Ix j 0:Value))∧(vals 18=(Ix g 0:Value))∧Sep N p ((BkP g e)::(BkT j d e p l)::J::TT) B]) (bG::(BkV b l O T P R)::jV::jX::(RwI ve0 e.deps)::aj) jU) (AF [Vl 0 (Ix b 0),Vl 1 (Ix b 0),Vl 2 (Ix b 0),Vl 3 (Ix b 0),Vl 4 (l),Vl 5 (Ix s 4),Vl 6 (Iv (e.typ)),Vl 7 (Ix (sb l) (so l+e.typ.toNat*1)),Vl 8 (.agg jR.toArray),Vl 9 (Ix s 4),Vl 10 (Iv (e.typ)),Vl 11 (Ix s 5),Vl 12 (Iv (e.agg)),Vl 13 (.agg #[Iv (e.typ),Iv (e.agg)]),Vl 14 (Ix s 6),Vl 15 (Iv (e.field)),Vl 16 (.agg #[Iv (e.typ),Iv (e.agg),Iv (e.field)]),fun _=>True,fun _=>True,fun _=>True,fun _=>True]) [[],[0],[0,1],[0,1,2],(rg 4),[],[5],(rg 7),(rg 8),[],[9],[],[11],[9,10,11,12],[],[14],[9,10,11,12,13,14,15],[],[],[0,1,2,3,4,5,6,7,8,17,18],(rg 20)] [17,18,19,20] [(rg 4),(rg 4),(rg 4),(rg 4),(rg 4),(rg 4),(rg 4),(rg 4),(rg 4),[0,1,2,3,7],[0,1,2,3,7],[0,1,2,3,7],[0,1,2,3,7],[0,1,2,3,7],[0,1,2,3,7],[0,1,2,3,7],[0,1,2,3,7],[0,2],[0,1],[3],[7]] gV ⟨fun _ _ _ _ _ _=>obl rfl (mV (Ix b 0) dR),fun _ _ _ _ _ gW=>obl rfl (zo (b:=b) (o:=0) (gW 0 (by decide)) dR),fun _ _ _ _ _ gX=>obl rfl (Jd (gX 1 (by decide)) dR),fun _ _ _ _ _ gY=>obl rfl (yC (gY 2 (by decide)) dR),?_,fun _ _ _ _ _ _=>obl rfl (xr rfl dR),?_,?_,?_,fun _ _ _ _ _ _=>obl rfl (xr rfl dR),?_,fun _ _ _ _ _ _=>obl rfl (ZC rfl dR),?_,fun _ _ _ _ _ cX=>obl rfl (zL (parts':=[(0,Iv (e.typ)),(1,Iv (e.agg))]) (v:=.agg #[Iv (e.typ),Iv (e.agg)]) (Zi ⟨rfl,(cX 10 (by decide)),rfl,(cX 12 (by decide)),trivial⟩) (by simp+zetaDelta [Instr.build,Instr.fill,Ev.cells,go_sem,Mv.cells,Fld.cells,Typ.cells,Prj.cells,Dcl.cells,Cel.cells,AskR.cells,CelS.cells,Ev.cells,Ent.cells,Sta.cells]) dR),fun _ _ _ _ _ _=>obl rfl (xt rfl dR),?_,fun _ _ _ _ _ cY=>obl rfl (zL (parts':=[(0,.agg #[Iv (e.typ),Iv (e.agg)]),(1,Iv (e.field))]) (v:=.agg #[Iv (e.typ),Iv (e.agg),Iv (e.field)]) (Zi ⟨rfl,(cY 13 (by decide)),rfl,(cY 15 (by decide)),trivial⟩) (by simp+zetaDelta [Instr.build,Instr.fill,Ev.cells,go_sem,Mv.cells,Fld.cells,Typ.cells,Prj.cells,Dcl.cells,Cel.cells,AskR.cells,CelS.cells,Ev.cells,Ent.cells,Sta.cells]) dR),?_,?_,?_,?_,trivial⟩ ?_
 intro jr vals w439 gZ aK aL
 have bM:jr∈[0,1,2,3]:=gZ
 simp only[yt]at bM
 rcases bM with rfl|rfl|rfl|rfl
 have ha:Sep _ _ _ _:=aK
 exact obl rfl (lD l pR (aL 3 dc) (zd (ha.b2) rfl) dR)
 obtain⟨j,y,hb⟩:=aK
 exact obl rfl (lD l pR (aL 3 dc) (zd (hb.b3) rfl) dR)
 obtain⟨g,z,hc⟩:=aK
 exact obl rfl (lD l pR (aL 3 dc) (zd (hc.b3) rfl) dR)
 obtain⟨j,g,y,z,he⟩:=aK
 exact obl rfl (lD l pR (aL 3 dc) (zd (he.b4) rfl) dR)
 intro js vals w457 hf aM aN
 have bN:js∈[0,1,2,3]:=hf
 simp only[yt]at bN
 rcases bN with rfl|rfl|rfl|rfl
 have hg:Sep _ _ _ _:=aM
 exact obl rfl (lD (Iv (e.typ)) kT (aN 5 dc) (zd (hg.b1) rfl) dR)
 obtain⟨j,y,hh⟩:=aM
 exact obl rfl (lD (Iv (e.typ)) kT (aN 5 dc) (zd (hh.b2) rfl) dR)
 obtain⟨g,z,hj⟩:=aM
 exact obl rfl (lD (Iv (e.typ)) kT (aN 5 dc) (zd (hj.b2) rfl) dR)
 obtain⟨j,g,y,z,hk⟩:=aM
 exact obl rfl (lD (Iv (e.typ)) kT (aN 5 dc) (zd (hk.b3) rfl) dR)
 intro jt vals w470 hl aO ae
 have bO:jt∈[0,1,2,3]:=hl
 simp only[yt]at bO
 rcases bO with rfl|rfl|rfl|rfl
 have hS474:Sep _ _ _ _:=aO
 refine obl rfl ?_
 have hi477:e.typ.toNat<d.types.length:=bo
 exact zr (k:=1) (i:=e.typ) uT oT (ae 4 dc) K.sl (ae 6 dc) ⟨by omega,by omega⟩ dR
 obtain⟨j,y,hS478⟩:=aO
 refine obl rfl ?_
 have hi481:e.typ.toNat<d.types.length:=bo
 exact zr (k:=1) (i:=e.typ) uT oT (ae 4 dc) K.sl (ae 6 dc) ⟨by omega,by omega⟩ dR
 obtain⟨g,z,hS482⟩:=aO
 refine obl rfl ?_
 have hi485:e.typ.toNat<d.types.length:=bo
 exact zr (k:=1) (i:=e.typ) uT oT (ae 4 dc) K.sl (ae 6 dc) ⟨by omega,by omega⟩ dR
 obtain⟨j,g,y,z,hS486⟩:=aO
 refine obl rfl ?_
 have hi489:e.typ.toNat<d.types.length:=bo
 exact zr (k:=1) (i:=e.typ) uT oT (ae 4 dc) K.sl (ae 6 dc) ⟨by omega,by omega⟩ dR
 intro ju vals w491 hm aP aQ
 have bP:ju∈[0,1,2,3]:=hm
 simp only[yt]at bP
 rcases bP with rfl|rfl|rfl|rfl
 have hn:Sep _ _ _ _:=aP
 refine obl rfl ?_
 have cZ:e.typ.toNat<d.types.length:=bo
 obtain⟨dO,cO,hoke497⟩:=K.typD cZ
 have hsm499:((d.types.getD e.typ.toNat default).fields).length*48≤140737488355328:=cO.small
 have dP:=hn.cells dO (K.foot (ne_of_lt cZ))
 exact zh (k:=1) vT oT rfl (aQ 7 dc) dP dR
 obtain⟨j,y,ho⟩:=aP
 refine obl rfl ?_
 have da:e.typ.toNat<d.types.length:=bo
 obtain⟨dQ,cP,hoke503⟩:=K.typD da
 have hsm505:((d.types.getD e.typ.toNat default).fields).length*48≤140737488355328:=cP.small
 have dS:=ho.cells dQ (K.foot (ne_of_lt da))
 exact zh (k:=1) vT oT rfl (aQ 7 dc) dS dR
 obtain⟨g,z,hp⟩:=aP
 refine obl rfl ?_
 have db:e.typ.toNat<d.types.length:=bo
 obtain⟨dU,cQ,hoke509⟩:=K.typD db
 have hsm511:((d.types.getD e.typ.toNat default).fields).length*48≤140737488355328:=cQ.small
 have dV:=hp.cells dU (K.foot (ne_of_lt db))
 exact zh (k:=1) vT oT rfl (aQ 7 dc) dV dR
 obtain⟨j,g,y,z,hq⟩:=aP
 refine obl rfl ?_
 have dd:e.typ.toNat<d.types.length:=bo
 obtain⟨dW,cR,hoke515⟩:=K.typD dd
 have hsm517:((d.types.getD e.typ.toNat default).fields).length*48≤140737488355328:=cR.small
 have dX:=hq.cells dW (K.foot (ne_of_lt dd))
 exact zh (k:=1) vT oT rfl (aQ 7 dc) dX dR
 intro jv vals w525 hr ar au
 have bQ:jv∈[0,1,2,3,7]:=hr
 simp only[yt]at bQ
 rcases bQ with rfl|rfl|rfl|rfl|rfl
 have hs:Sep _ _ _ _:=ar
 exact obl rfl (lD (Iv (e.typ)) kT (au 9 dc) (zd (hs.b1) rfl) dR)
 obtain⟨j,y,ht⟩:=ar
 exact obl rfl (lD (Iv (e.typ)) kT (au 9 dc) (zd (ht.b2) rfl) dR)
 obtain⟨g,z,hu⟩:=ar
 exact obl rfl (lD (Iv (e.typ)) kT (au 9 dc) (zd (hu.b2) rfl) dR)
 obtain⟨j,g,y,z,hw⟩:=ar
 exact obl rfl (lD (Iv (e.typ)) kT (au 9 dc) (zd (hw.b3) rfl) dR)
 obtain⟨j,g,y,z,hx⟩:=ar
 exact obl rfl (lD (Iv (e.typ)) kT (au 9 dc) (zd (hx.b3) rfl) dR)
 intro jw vals w545 hy av aw
 have bR:jw∈[0,1,2,3,7]:=hy
 simp only[yt]at bR
 rcases bR with rfl|rfl|rfl|rfl|rfl
 have hz:Sep _ _ _ _:=av
 exact obl rfl (lD (Iv (e.agg)) kT (aw 11 dc) (zd (hz.b1) rfl) dR)
 obtain⟨j,y,hA⟩:=av
 exact obl rfl (lD (Iv (e.agg)) kT (aw 11 dc) (zd (hA.b2) rfl) dR)
 obtain⟨g,z,hB⟩:=av
 exact obl rfl (lD (Iv (e.agg)) kT (aw 11 dc) (zd (hB.b2) rfl) dR)
 obtain⟨j,g,y,z,hC⟩:=av
 exact obl rfl (lD (Iv (e.agg)) kT (aw 11 dc) (zd (hC.b3) rfl) dR)
 obtain⟨j,g,y,z,hD⟩:=av
 exact obl rfl (lD (Iv (e.agg)) kT (aw 11 dc) (zd (hD.b3) rfl) dR)
 intro jx vals w572 hE ax ay
 have bS:jx∈[0,1,2,3,7]:=hE
 simp only[yt]at bS
 rcases bS with rfl|rfl|rfl|rfl|rfl
 have hF:Sep _ _ _ _:=ax
 exact obl rfl (lD (Iv (e.field)) kT (ay 14 dc) (zd (hF.b1) rfl) dR)
 obtain⟨j,y,hG⟩:=ax
 exact obl rfl (lD (Iv (e.field)) kT (ay 14 dc) (zd (hG.b2) rfl) dR)
 obtain⟨g,z,hH⟩:=ax
 exact obl rfl (lD (Iv (e.field)) kT (ay 14 dc) (zd (hH.b2) rfl) dR)
 obtain⟨j,g,y,z,hI⟩:=ax
 exact obl rfl (lD (Iv (e.field)) kT (ay 14 dc) (zd (hI.b3) rfl) dR)
 obtain⟨j,g,y,z,hJ⟩:=ax
 exact obl rfl (lD (Iv (e.field)) kT (ay 14 dc) (zd (hJ.b3) rfl) dR)
 intro jy vals w594 hK de hA595
 have bT:jy∈[0,2]:=hK
 simp only[yt]at bT
 rcases bT with rfl|rfl
 have hL:Sep _ _ _ _:=de
 refine obl rfl ((zq wR ?_))
 intro w601 j hM
 exact fun C Q D=>⟨(exiA j (zx Q (hL.new hM))),trivial⟩
 obtain⟨g,z,hO⟩:=de
 refine obl rfl ((zq wR ?_))
 intro w606 j hP
 exact fun C Q D=>⟨(exiA j (exiA g (zx Q (zx ((D 18 dc).trans z) ((hO.new hP).mv1))))),trivial⟩
 intro jz vals w610 hQ df hA611
 have bU:jz∈[0,1]:=hQ
 simp only[yt]at bU
 rcases bU with rfl|rfl
 have hR:Sep _ _ _ _:=df
 refine obl rfl ((zq qB ?_))
 intro w617 g hS
 exact fun C Q D=>⟨(exiA g (zx Q (hR.new hS))),trivial⟩
 obtain⟨j,y,hU⟩:=df
 refine obl rfl ((zq qB ?_))
 intro w622 g hV
 exact fun C Q D=>⟨(exiA j (exiA g (zx ((D 17 dc).trans y) (zx Q (hU.new hV))))),trivial⟩
 intro jA vals w625 hW hX hY
 have bV:jA∈[3]:=hW
 simp only[yt]at bV
 subst bV
 obtain⟨j,g,y,z,bA⟩:=hX
 refine obl rfl ?_
 have dg:e.typ.toNat<d.types.length:=bo
 obtain⟨dY,bc,hoke633⟩:=K.typD dg
 have hsm635:((d.types.getD e.typ.toNat default).fields).length*48≤140737488355328:=bc.small
 have hcw636:=bA.cells dY (K.foot (ne_of_lt dg))
 refine(zp (v:=.agg jR.toArray) (c':=jR.toArray) oT y (hY 8 dc) (bA.b1) (zX ⟨bc.sl.one,trivial⟩) yqc rfl ?_)
 intro w631 hZ
 exact fun C Q D=>⟨(exiA j (exiA g (zx ((D 17 dc).trans y) (zx ((D 18 dc).trans z) (bA.pt1 hZ))))),trivial⟩
 intro jB vals w639 ia ib ic
 have bW:jB∈[7]:=ia
 simp only[yt]at bW
 subst bW
 obtain⟨j,g,y,z,dh⟩:=ib
 refine obl rfl ((zp (v:=.agg #[Iv (e.typ),Iv (e.agg),Iv (e.field)]) (c':=#[Iv (e.typ),Iv (e.agg),Iv (e.field)]) kY z (ic 16 dc) (dh.b0) (zX ⟨rfl,rfl,rfl,trivial⟩) yqc rfl ?_))
 intro w645 id
 exact fun C Q D=>⟨(exiA j (exiA g (zx ((D 17 dc).trans y) (zx ((D 18 dc).trans z) (dh.pt0 id))))),trivial⟩
 intro vals w648 ie hA650
 obtain⟨j,g,y,z,di⟩:=ie
 refine zT (kv:=[(0,Ix b 0),(1,.agg (e.cells ve0).toArray),(3,Ix s 0),(4,.bool false),(5,Ix I 0),(25,.bool false),(6,Ix j 0),(7,Ix g 0)]) ⟨rfl,rfl,rfl,rfl,rfl,rfl,(by exact y),(by exact z),trivial⟩ (fun ρw648=>(zb (za (za ?_))))
 have dj:e.typ.toNat<d.types.length:=bo
 obtain⟨dZ,V,aG⟩:=K.typD dj
 have hsm654:((d.types.getD e.typ.toNat default).fields).length*48≤140737488355328:=V.small
 have hcw655:=di.cells dZ (K.foot (ne_of_lt dj))
 obtain⟨m,ea,ig⟩:=(di.mv6).mapoTake (Iz) bi
 let ka:=RwV m (yx bi M)
 have dk:Sep _ _ (ka::_) _:=zaU (ig.mv1) ea
 have dl:=dk.r0
 have hr662s:_*96≤_:=dl.2
 have hdl9:=zad bi M
 refine WD4 (WF [fun vals B=>Sep N p (ka::(Md1 R M e m)::(BkP g e)::(BkT j d e p l)::jU::bG::(BkV b l O T P R)::jV::(RwI ve0 e.deps)::aj) B]) (AF [Vl 0 (Ix b 0),Vl 1 (Ix b 0),Vl 2 (Ix b 4),Vl 3 (.map (some R)),Vl 4 (.agg #[Iv (e.typ),Iv (e.agg),Iv (e.field)]),Vl 5 (m),Vl 6 (Iw ((yx bi M).length)),Vl 7 (Iv 0)]) [[],[0],[0,1],[0,1,2],[],(rg 5),(rg 6),[]] [] [(0,0),(0,0),(0,0),(0,0),(0,0),(0,0),(0,0),(0,0)] dk ⟨fun _ _ _ _ _ _ _=>obl rfl (mV (Ix b 0) dR),fun _ _ _ _ _ _ ih=>obl rfl (zo (b:=b) (o:=0) (ih 0 dc) dR),fun _ _ _ _ _ _ ii=>obl rfl (Ks (ii 1 dc) dR),ob1 0 fun _ _ (ij:Sep _ _ _ _) ik=>obl rfl (lD (.map (some R)) kA (ik 2 dc) (zd (ij.b6) rfl) dR),ob1 0 fun _ _ (il:Sep _ _ _ _) _=>obl rfl (zh (k:=3) lA kY rfl rfl (CellsAt.all (il.b2)) dR),ob1 0 fun _ _ (im:Sep _ _ _ _) dm=>obl rfl (QO im (i:=1) rfl K3 rB sB (dm 3 dc) (dm 4 dc) dR),ob1 0 fun _ _ _ io=>obl rfl (zJ (n:=(yx bi M).length) qR (io 5 dc) dl.1 dR),fun _ _ _ _ _ _ _=>obl rfl (mV (Iv 0) dR),trivial⟩ ?_
 intro vals Y ip bB
 have iq:Sep _ _ _ _:=ip
 have jC:=bB 5 dc
 have jD:=bB 6 dc
 have jE:=bB 7 dc
 refine zT (kv:=[(0,Ix b 0),(1,.agg (e.cells ve0).toArray),(3,Ix s 0),(4,.bool false),(5,Ix I 0),(25,.bool false),(6,Ix j 0),(7,Ix g 0),(49,m),(50,Iw ((yx bi M).length)),(51,Iv 0)]) ⟨rfl,rfl,rfl,rfl,rfl,rfl,rfl,rfl,(by exact jC),(by exact jD),(by exact jE),trivial⟩ (fun ρw779=>(zb (zn ?_)))
 obtain⟨bd,ir,az,it,dp⟩:=iq.lend
 have aA:=RowE.rd ir
 have hrd792s:_*96≤_:=aA.small
 have dq:=it.s8_bcdefhag
 generalize dr:((Md1 R M e m)::(MapO xh E1 P (zw d M))::aj)=bC at dq
 refine zZ (fun mq σ B=> ∃(k:Nat) (ρ:Env),mq=(yx (e.typ,e.agg,e.field) M).length-k∧σ=yd ρ [(0,Ix b 0),(3,Ix s 0),(5,Ix I 0),(6,Ix j 0),(7,Ix g 0),(49,m),(50,Iw ((yx (e.typ,e.agg,e.field) M).length)),(51,Iw k)]∧(k≤(yx (e.typ,e.agg,e.field) M).length)∧(∀i,i<k→xf ((d.types.getD e.typ.toNat default).fields.getD e.field.toNat default) ((yx (e.typ,e.agg,e.field) M).getD i default) e=false)∧Sep bd Y ((BkP g e)::(BkT j d e p l)::(Blk I #[Iv 0,Iv 0] 41)::(Blk s (e.cells ve0).toArray 44)::(BkV b l O T P R)::(RwI ve0 e.deps)::bC) B) ⟨0,_,rfl,sSf,Nat.zero_le _,(fun i h=>absurd h (Nat.not_lt_zero i)),dq⟩ ?_
 rintro m797 σ798 jF ⟨k,ρl1,rfl,rfl,hkk,hno,aB⟩
 let jS:=zN Y (sb m) (so m+k*10+3)
 let jT:=((yx bi M).getD k default).cells jS
 refine za (R0 fun _=>st (zC (k:=.i64) (a:=((k:Nat):Int)) (b:=(((yx bi M).length:Nat):Int)) rfl rfl (zb (za ?_))))
 cases aR:decide (((k:Nat):Int)<(((yx (e.typ,e.agg,e.field) M).length:Nat):Int))
 have aR:=fD aR
 try simp+zetaDelta only at aB
 rw[←dr]at aB
 have iu:=dp _ _ aB
 have hfree:=zbg hfz (fun i hi=>hno i om)
 refine ze rfl (ya (zS (za ?_)))
 obtain⟨vs803,eb,iv⟩:=(iu.mv8).mapoTake Qr (e.typ,e.agg)
 obtain⟨H,rfl,iw⟩:=VI (iv.mv1) eb
 let jY:=Ms1 P d M (e.typ,e.agg) H
 have bX:Sep N p ((RwC H (stL d (e.typ,e.agg) M))::jY::ka::(BkP g e)::(BkT j d e p l)::jU::bG::(BkV b l O T P R)::(RwI ve0 e.deps)::(Md1 R M e m)::aj) jF:=iw
 have ds:=bX.r0
 have hr809s:_*32≤_:=ds.2
 have dt:=bX.s10_abdeghjcif
 generalize du:((Md1 R M e m)::(RwV m (yx (e.typ,e.agg,e.field) M))::(RwI ve0 e.deps)::(Blk I #[Iv 0,Iv 0] 41)::aj)=bD at dt
 have hve9:=Xa (e.typ,e.agg) M
 refine WD4 ((fun TT J=>WF [fun vals B=>Sep N p (J::TT) B,fun vals B=> ∃(u:Nat),(vals 10=(Ix u 0:Value))∧Sep N p ((Blk u #[Iv 0,(Iz)] 77)::J::TT) B,fun vals B=> ∃(u:Nat),(vals 10=(Ix u 0:Value))∧Sep N p ((BkS u M (e.typ,e.agg) H)::J::TT) B]) (jY::(BkP g e)::(BkT j d e p l)::bG::(BkV b l O T P R)::bD) (RwC H (stL d (e.typ,e.agg) M))) (AF [Vl 0 (Ix b 0),Vl 1 (Ix b 0),Vl 2 (Ix b 3),Vl 3 (.map (some P)),Vl 4 (Ix g 0),Vl 5 (.agg #[Iv (e.typ),Iv (e.agg)]),Vl 6 (.tuple #[.agg #[Iw (yh (e.typ,e.agg) M),H],.bool (((zw d M) (e.typ,e.agg)).isSome)]),Vl 7 (.tuple #[.agg #[Iw (yh (e.typ,e.agg) M),H],.bool (((zw d M) (e.typ,e.agg)).isSome)]),Vl 8 (.agg #[Iw (yh (e.typ,e.agg) M),H]),Vl 9 (.bool (((zw d M) (e.typ,e.agg)).isSome)),fun _=>True,fun _=>True,Vl 12 (.bool (((zw d M) (e.typ,e.agg)).isSome))]) [[],[0],[0,1],[0,1,2],[],[4],(rg 6),(rg 7),(rg 8),(rg 8),[],[0,1,2,3,4,5,6,7,8,10],(rg 12)] [10,11] [(0,1),(0,1),(0,1),(0,1),(0,1),(0,1),(0,1),(0,1),(0,1),(0,2),(0,0),(1,1),(2,2)] dt ⟨fun _ _ _ _ _ _ _=>obl rfl (mV (Ix b 0) dR),fun _ _ _ _ _ _ ix=>obl rfl (zo (b:=b) (o:=0) (ix 0 dc) dR),fun _ _ _ _ _ _ iy=>obl rfl (VY (iy 1 dc) dR),?_,fun _ _ _ _ _ _ _=>obl rfl (KO rfl dR),?_,?_,fun _ _ _ _ _ _ iz=>obl rfl (yi (v:=.tuple #[.agg #[Iw (yh (e.typ,e.agg) M),H],.bool (((zw d M) (e.typ,e.agg)).isSome)]) (iz 6 dc) dR),fun _ _ _ _ _ _ iA=>obl rfl (zm (vs:=[.agg #[Iw (yh (e.typ,e.agg) M),H],.bool (((zw d M) (e.typ,e.agg)).isSome)]) (i:=0) (v:=.agg #[Iw (yh (e.typ,e.agg) M),H]) (iA 7 dc) rfl dR),fun _ _ _ _ _ _ iB=>obl rfl (zm (vs:=[.agg #[Iw (yh (e.typ,e.agg) M),H],.bool (((zw d M) (e.typ,e.agg)).isSome)]) (i:=1) (v:=.bool (((zw d M) (e.typ,e.agg)).isSome)) (iB 7 dc) rfl dR),?_,?_,fun _ _ _ _ _ _ iC=>obl rfl (zY (v:=.bool (((zw d M) (e.typ,e.agg)).isSome)) (iC 9 dc) dR),trivial⟩ ?_
 refine fun bE _ _ jG jH dv dw=>?_
 have hkk:=xk jG jH
 rcases hkk with rfl|rfl
 have iD:Sep _ _ _ _:=dv
 exact obl rfl (lD (.map (some P)) sR (dw 2 dc) (zd (iD.b5) rfl) dR)
 obtain⟨u,ah,iE⟩:=dv
 exact obl rfl (lD (.map (some P)) sR (dw 2 dc) (zd (iE.b6) rfl) dR)
 refine fun bH _ _ jI jJ dx dy=>?_
 have hkk:=xk jI jJ
 rcases hkk with rfl|rfl
 have iF:Sep _ _ _ _:=dx
 exact obl rfl (zh (k:=2) (cs:=[Iv (e.typ),Iv (e.agg)]) lY mY rfl (dy 4 dc) (CellsAt.sub (CellsAt.all (iF.b2)) 0 (cs2:=[Iv (e.typ),Iv (e.agg)]) rfl) dR)
 obtain⟨u,ah,iG⟩:=dx
 exact obl rfl (zh (k:=2) (cs:=[Iv (e.typ),Iv (e.agg)]) lY mY rfl (dy 4 dc) (CellsAt.sub (CellsAt.all (iG.b3)) 0 (cs2:=[Iv (e.typ),Iv (e.agg)]) rfl) dR)
 refine fun bI _ _ jK jL dz aT=>?_
 have hkk:=xk jK jL
 rcases hkk with rfl|rfl
 have iH:Sep _ _ _ _:=dz
 exact obl rfl (Yl iH (i:=1) rfl K2 nY lR (aT 3 dc) (aT 5 dc) dR)
 obtain⟨u,ah,iI⟩:=dz
 exact obl rfl (Yl iI (i:=2) rfl K2 nY lR (aT 3 dc) (aT 5 dc) dR)
 refine ob1 0 fun _ _ (iJ:Sep _ _ _ _) _=>(obl rfl ((zq lR ?_)))
 intro w894 u iK
 exact fun C Q D=>⟨(exiA u (zx Q (iJ.new iK))),trivial⟩
 refine ob1 1 fun _ _ iL iM=>?_
 obtain⟨u,ah,dB⟩:=iL
 refine obl rfl ((zp (v:=.agg #[Iw (yh (e.typ,e.agg) M),H]) (c':=#[Iw (yh (e.typ,e.agg) M),H]) tT ah (iM 8 dc) (dB.b0) (zX ⟨rfl,ds.1.one,trivial⟩) yqc rfl ?_))
 intro w905 iN
 exact fun C Q D=>⟨(exiA u (zx ((D 10 dc).trans ah) (dB.pt0 iN))),trivial⟩
 intro vals w1001 ec ed
 obtain⟨u,ah,be⟩:=ec
 have iO:=ed 12 dc
 refine zT (kv:=[(0,Ix b 0),(3,Ix s 0),(5,Ix I 0),(6,Ix j 0),(7,Ix g 0),(49,m),(50,Iw ((yx bi M).length)),(51,Iw k),(52,.bool false),(10,Ix u 0),(11,.bool (((zw d M) (e.typ,e.agg)).isSome))]) ⟨rfl,rfl,rfl,rfl,rfl,rfl,rfl,rfl,rfl,(by exact ah),(by exact iO),trivial⟩ (fun ρw1001=>(zb (za (za (R0 fun _=>st (mV (.bool (((zw d M) (e.typ,e.agg)).isSome)) (st (yB (a:=((zw d M) (e.typ,e.agg)).isSome) rfl (zb ?_)))))))))
 refine Ut (fun σ B=> ∃(U:Value) (ρ:Env),σ=yd ρ [(0,Ix b 0),(3,Ix s 0),(5,Ix I 0),(6,Ix j 0),(7,Ix g 0),(10,Ix u 0)]∧(U=H∨yh (e.typ,e.agg) M=0)∧Sep N p ((BkS u M (e.typ,e.agg) U)::(RwC U (clL d M e))::jY::(BkP g e)::(BkT j d e p l)::bG::(BkV b l O T P R)::bD) B) ?_ ?_
 cases aC: !(((zw d M) (e.typ,e.agg)).isSome)
 try simp only[zf]at aC
 refine ze rfl (zl ?_)
 have bf:=be.mv1
 try simp+zetaDelta only at bf
 rw[show stL d (e.typ,e.agg) M=(zO d (e.typ,e.agg) M)from if_neg (UE aC)]at bf
 exact⟨rfl,H,_,yW ⟨(show _=(Ix b 0:Value)from rfl),(show _=(Ix s 0:Value)from rfl),(show _=(Ix I 0:Value)from rfl),(show _=(Ix j 0:Value)from rfl),(show _=(Ix g 0:Value)from rfl),(show _=(Ix u 0:Value)from rfl),trivial⟩,(.inl rfl),(bf.mv1)⟩
 try simp only[zf]at aC
 refine zg rfl (R0 fun _=>st (zh (k:=1) vT oT rfl rfl (CellsAt.all (be.b4)) (st (cL Tryz.call37 (zdm (t:=(d.types.getD e.typ.toNat default)) V aG be) ?_))))
 rintro bJ w1010 ⟨_,rfl,bg⟩
 have bY:=bg.r0
 have hr1012s:_*32≤_:=bY.2
 refine st (xO rfl (stn (ym (v:=bJ) (c:=[Iw (yh (e.typ,e.agg) M),H]) (c':=[Iw (yh (e.typ,e.agg) M),bJ]) kB rfl rfl (bg.b1) bY.1.one rfl rfl ?_)))
 intro w1013 ee
 have bh:=bg.pt1 ee
 refine zb ?_
 have jl:yh (e.typ,e.agg) M=0:=UM aC
 try simp+zetaDelta only at bh
 rw[show(List.replicate (d.types.getD e.typ.toNat default).fields.length (⟨0,[]⟩:Cel))=(zO d (e.typ,e.agg) M)from(VP (d:=d) jl).symm]at bh
 exact⟨rfl,bJ,_,yW ⟨(show _=(Ix b 0:Value)from rfl),(show _=(Ix s 0:Value)from rfl),(show _=(Ix I 0:Value)from rfl),(show _=(Ix j 0:Value)from rfl),(show _=(Ix g 0:Value)from rfl),(show _=(Ix u 0:Value)from rfl),trivial⟩,(.inr jl),(bh.s8_badefgh)⟩
 rintro _ w1017 ⟨U,ρj1,rfl,jM,ac⟩
 let kb:=RwC U (clL d M e)
 let jW:=BkS u M (e.typ,e.agg) U
 have ef:=ac.r1
 have hr1019s:_*32≤_:=ef.2
 refine za (za (R0 fun _=>st (zh (k:=1) vT oT rfl rfl (CellsAt.all (ac.b4)) (st (xO rfl (st (lD U sT rfl (zd (ac.b0) rfl) (st (xt rfl (st (lD (Iv (e.field)) kT rfl (zd (ac.b5) rfl) (st (xw rfl (st (lD (Iv (e.op)) kT rfl (zd (ac.b5) rfl) (st (xF rfl (st (lD (Iv (e.arg)) kT rfl (zd (ac.b5) rfl) ?_)))))))))))))))))))
 obtain⟨G1021,eg,eh,ei,ej⟩:=(ac.mv1).lend
 have bt:=RowE.rd eg
 have hrd1027s:_*32≤_:=bt.small
 refine st (cL Tryz.call40 (zdj (t:=(d.types.getD e.typ.toNat default)) (c:=(zO d (e.typ,e.agg) M)) (vc:=U) (f:=e.field) (op:=e.op) (arg:=e.arg) (RdS.base V eh) aG bt oe.field oe.op oe.arg ei ((hft.ask (hd.typ _ om) (hinv e.typ e.agg dM dN)))) ?_)
 rintro _ w1028 ⟨rfl,ek⟩
 have aD:=ej _ _ ek
 refine st (yn (k:=.i64) (a:=yH (d.types.getD e.typ.toNat default) (zO d (e.typ,e.agg) M) e.field e.op e.arg) (b:=0) rfl rfl (zb ?_))
 cases af: !decide ((yH (d.types.getD e.typ.toNat default) (zO d (e.typ,e.agg) M) e.field e.op e.arg)=0)
 have af:=zQ af
 have hT:zU d M e=(false,0,0):=hfree.trans (if_neg (not_not_intro af))
 refine ze rfl (zl (za ?_))
 refine WD4 ((fun TT J ab ad=>WF [fun vals B=>Sep N p (J::ab::ad::TT) B,fun vals B=> ∃(A:Value),(vals 18=(A:Value))∧Sep N p (J::(RwC A (doL (d.types.getD e.typ.toNat default) (clL d M e) e.field e.op e.arg))::ab::ad::TT) B,fun vals B=> ∃(A:Value),(vals 18=(A:Value))∧Sep N p (hv::J::ab::TT) B]) ((BkP g e)::(BkT j d e p l)::bG::(BkV b l O T P R)::bD) kb jW jY) (AF [Vl 0 (Ix b 0),Vl 1 (Ix b 0),Vl 2 (Ix b 3),Vl 3 (.map (some P)),Vl 4 (Ix g 0),Vl 5 (.agg #[Iv (e.typ),Iv (e.agg)]),Vl 6 (Ix u 0),Vl 7 (Iw (yh (e.typ,e.agg) M)),Vl 8 (Iw (yh (e.typ,e.agg) M+1)),Vl 9 (.agg jR.toArray),Vl 10 (Ix u 1),Vl 11 (U),Vl 12 (Ix s 6),Vl 13 (Iv (e.field)),Vl 14 (Ix s 7),Vl 15 (Iv (e.op)),Vl 16 (Ix s 8),Vl 17 (Iv (e.arg)),fun _=>True,fun vals=> ∀(A:Value),vals 18=(A:Value)→vals 19=(.agg #[Iw (yh (e.typ,e.agg) M+1),A]:Value),fun _=>True]) [[],[0],[0,1],[0,1,2],[],[4],[],[6],[6,7],[],[],[10],[],[12],[],[14],[],[16],[9,10,11,12,13,14,15,16,17],[6,7,8,9,10,11,12,13,14,15,16,17,18],(rg 20)] [18,20] [(0,1),(0,1),(0,1),(0,1),(0,1),(0,1),(0,1),(0,1),(0,1),(0,0),(0,0),(0,0),(0,0),(0,0),(0,0),(0,0),(0,0),(0,0),(0,0),(1,1),(1,1)] aD ⟨fun _ _ _ _ _ _ _=>obl rfl (mV (Ix b 0) dR),fun _ _ _ _ _ _ el=>obl rfl (zo (b:=b) (o:=0) (el 0 dc) dR),fun _ _ _ _ _ _ em=>obl rfl (VY (em 1 dc) dR),?_,fun _ _ _ _ _ _ _=>obl rfl (KO rfl dR),?_,fun _ _ _ _ _ _ _=>obl rfl (Xt rfl dR),?_,?_,ob1 0 fun _ _ (en:Sep _ _ _ _) _=>obl rfl (zh (k:=1) vT oT rfl rfl (CellsAt.all (en.b4)) dR),fun _ _ _ _ _ _ _=>obl rfl (xO rfl dR),ob1 0 fun _ _ (eo:Sep _ _ _ _) er=>obl rfl (lD U sT (er 10 dc) (zd (eo.b1) rfl) dR),fun _ _ _ _ _ _ _=>obl rfl (xt rfl dR),ob1 0 fun _ _ (es:Sep _ _ _ _) et=>obl rfl (lD (Iv (e.field)) kT (et 12 dc) (zd (es.b5) rfl) dR),fun _ _ _ _ _ _ _=>obl rfl (xw rfl dR),ob1 0 fun _ _ (eu:Sep _ _ _ _) ew=>obl rfl (lD (Iv (e.op)) kT (ew 14 dc) (zd (eu.b5) rfl) dR),fun _ _ _ _ _ _ _=>obl rfl (xF rfl dR),ob1 0 fun _ _ (ex:Sep _ _ _ _) ey=>obl rfl (lD (Iv (e.arg)) kT (ey 16 dc) (zd (ex.b5) rfl) dR),?_,?_,?_,trivial⟩ ?_ (hlocA:=yX ⟨dA,dA,dA,dA,dA,dA,dA,dA,dA,dA,dA,dA,dA,dA,dA,dA,dA,dA,dT,fun vals C Q h=>fun A ai=>(Q 19 (.inl rfl)).trans (h A ((Q 18 (.inr dc)).symm.trans ai)),dT,trivial⟩)
 refine fun aU _ _ iP iQ bZ ca=>?_
 have hkk:=xk iP iQ
 rcases hkk with rfl|rfl
 have ez:Sep _ _ _ _:=bZ
 exact obl rfl (lD (.map (some P)) sR (ca 2 dc) (zd (ez.b6) rfl) dR)
 obtain⟨A,Z,eA⟩:=bZ
 exact obl rfl (lD (.map (some P)) sR (ca 2 dc) (zd (eA.b7) rfl) dR)
 refine fun aV _ _ iR iS cb cc=>?_
 have hkk:=xk iR iS
 rcases hkk with rfl|rfl
 have eB:Sep _ _ _ _:=cb
 exact obl rfl (zh (k:=2) (cs:=[Iv (e.typ),Iv (e.agg)]) lY mY rfl (cc 4 dc) (CellsAt.sub (CellsAt.all (eB.b3)) 0 (cs2:=[Iv (e.typ),Iv (e.agg)]) rfl) dR)
 obtain⟨A,Z,eC⟩:=cb
 exact obl rfl (zh (k:=2) (cs:=[Iv (e.typ),Iv (e.agg)]) lY mY rfl (cc 4 dc) (CellsAt.sub (CellsAt.all (eC.b4)) 0 (cs2:=[Iv (e.typ),Iv (e.agg)]) rfl) dR)
 refine fun aW _ _ iT iU cd ce=>?_
 have hkk:=xk iT iU
 rcases hkk with rfl|rfl
 have eD:Sep _ _ _ _:=cd
 exact obl rfl (lD (Iw (yh (e.typ,e.agg) M)) kT (ce 6 dc) (zd (eD.b1) rfl) dR)
 obtain⟨A,Z,eE⟩:=cd
 exact obl rfl (lD (Iw (yh (e.typ,e.agg) M)) kT (ce 6 dc) (zd (eE.b2) rfl) dR)
 refine fun aX _ _ iV iW cf cg=>?_
 have hkk:=xk iV iW
 rcases hkk with rfl|rfl
 have hS1278:Sep _ _ _ _:=cf
 refine obl rfl ?_
 have eF:InR ((yh (e.typ,e.agg) M+1:Nat):Int):=bo
 exact zP (r:=((yh (e.typ,e.agg) M+1:Nat):Int)) (k:=.i64) (a:=((yh (e.typ,e.agg) M:Nat):Int)) (b:=1) (cg 7 (by decide)) rfl (by rw[show(((yh (e.typ,e.agg) M:Nat):Int)+1:Int)=((yh (e.typ,e.agg) M+1:Nat):Int)from bo];exact zF eF) dR
 obtain⟨A,Z,hS1281⟩:=cf
 refine obl rfl ?_
 have eG:InR ((yh (e.typ,e.agg) M+1:Nat):Int):=bo
 exact zP (r:=((yh (e.typ,e.agg) M+1:Nat):Int)) (k:=.i64) (a:=((yh (e.typ,e.agg) M:Nat):Int)) (b:=1) (cg 7 (by decide)) rfl (by rw[show(((yh (e.typ,e.agg) M:Nat):Int)+1:Int)=((yh (e.typ,e.agg) M+1:Nat):Int)from bo];exact zF eG) dR
 refine ob1 0 fun vals _ (eH:Sep _ _ _ _) ak=>(obl rfl ?_)
 obtain⟨G1172,eI,eJ,eK,eL⟩:=eH.lend
 have bu:=RowE.rd eI
 have hrd1178s:_*32≤_:=bu.small
 refine(zH (f:=61) (vals:=[.agg ((d.types.getD e.typ.toNat default).cells (zN p (sb l) (so l+e.typ.toNat*1+0))).toArray,U,Iv (e.field),Iv (e.op),Iv (e.arg)]) (cap:=[]) rfl (yE ⟨(ak 9 dc),(ak 11 dc),(ak 13 dc),(ak 15 dc),(ak 17 dc),trivial⟩) Tryz.call61 (D_Do (t:=(d.types.getD e.typ.toNat default)) (c:=(zO d (e.typ,e.agg) M)) (vc:=U) (f:=e.field) (op:=e.op) (arg:=e.arg) (RdS.base V eJ) aG bu oe.field oe.op oe.arg eK ((hft.ask (hd.typ _ om) (hinv e.typ e.agg dM dN))) ((fun _=>zag (hinv e.typ e.agg dM dN) hfl hfh))) ?_)
 rintro A w1180 ⟨_,rfl,ch⟩
 have eM:=ch.r0
 have hr1182s:_*32≤_:=eM.2
 have eN:=eL _ _ ch
 exact fun C Q D=>⟨(exiA A (zx Q eN)),trivial⟩
 refine ob1 1 fun _ _ eO eP=>?_
 obtain⟨A,Z,eQ⟩:=eO
 refine obl rfl ?_
 have ci:=eQ.r1
 have hr1356s:_*32≤_:=ci.2
 refine zL (parts':=[(0,Iw (yh (e.typ,e.agg) M+1)),(1,A)]) (v:=.agg #[Iw (yh (e.typ,e.agg) M+1),A]) (Zi ⟨rfl,(eP 8 (by decide)),rfl,Z,trivial⟩) (by obtain⟨_,_,eR,_⟩:=ci.1;rw[show A=Value.slice _ _ _ from eR];simp[Instr.build,Instr.fill,Ev.cells,go_sem,Mv.cells,Fld.cells,Typ.cells,Prj.cells,Dcl.cells,Cel.cells,AskR.cells,CelS.cells,Ev.cells,Ent.cells,Sta.cells]) (fun C Q D=>⟨rfl,?_⟩)
 intro v1179q ai
 rw[D 18 (by decide)]at ai;cases Z.symm.trans ai
 exact Q
 refine ob1 1 fun vals _ eS bj=>?_
 obtain⟨A,Z,eT⟩:=eS
 have iX:vals 19=(.agg #[Iw (yh (e.typ,e.agg) M+1),A]:Value):=bj 19 dc A Z
 refine obl rfl ?_
 have eU:Sep _ _ ((E1 (.agg #[Iw (yh (e.typ,e.agg) M+1),A]) (yh (e.typ,e.agg) M+1,(doL (d.types.getD e.typ.toNat default) (clL d M e) e.field e.op e.arg)))::_) _:=Jr (n:=yh (e.typ,e.agg) M+1) (eT.mv1)
 refine(YJ (eU.mv3) K2 nY (bj 3 dc) (bj 5 dc) iX ?_)
 intro iY eV
 have dD:Sep N p (hv::kb::jW::(BkP g e)::(BkT j d e p l)::bG::(BkV b l O T P R)::bD) iY:=eV
 exact fun C Q D=>⟨(exiA A (zx ((D 18 dc).trans Z) dD)),trivial⟩
 intro vals w1357 eW hA1359
 obtain⟨A,Z,bk⟩:=eW
 refine zT (kv:=[(0,Ix b 0),(3,Ix s 0),(5,Ix I 0),(6,Ix j 0),(7,Ix g 0),(10,Ix u 0),(82,.agg jR.toArray),(83,Ix u 1),(84,U),(85,Ix s 6),(86,Iv (e.field)),(87,Ix s 7),(88,Iv (e.op)),(89,Ix s 8),(90,Iv (e.arg)),(91,Iv (yH (d.types.getD e.typ.toNat default) (zO d (e.typ,e.agg) M) e.field e.op e.arg)),(92,.bool false)]) sEv (fun ρw1357=>(zb (za ?_)))
 try simp+zetaDelta only at bk
 rw[←du]at bk
 refine WD4 ((fun TT J ab ad aH aI cj ck jm eX eY=>WF [fun vals B=>Sep N p (J::ab::ad::aH::aI::cj::ck::jm::eX::eY::TT) B,fun vals B=> ∃(F:Nat),(vals 6=((Iy F 1 1):Value))∧Sep N p ((Blk F (e.cells ve0).toArray 44)::J::ab::ad::aH::aI::cj::ck::jm::eX::eY::TT) B,fun vals B=> ∃(F:Nat) (q:Int),(vals 6=((Iy F 1 1):Value))∧(vals 7=(.tuple #[m,Iv q]:Value))∧Sep N p ((Vr xZ E2 R (yK M) bi q)::(Blk F (e.cells ve0).toArray 44)::J::ab::ad::aH::aI::cj::ck::eX::eY::TT) B,fun vals B=> ∃(F:Nat) (q:Int) (aa:Value),(vals 6=((Iy F 1 1):Value))∧(vals 7=(.tuple #[m,Iv q]:Value))∧(vals 9=(aa:Value))∧Sep N p ((RwV aa ((yx bi M)++[e]))::(Vr xZ E2 R (yK M) bi q)::J::ab::ad::aH::aI::cj::ck::TT) B,fun vals B=> ∃(F:Nat) (q:Int) (aa:Value),(vals 6=((Iy F 1 1):Value))∧(vals 7=(.tuple #[m,Iv q]:Value))∧(vals 9=(aa:Value))∧Sep N p ((MapO xZ E2 R (Yi (yK M) bi ((yx bi M)++[e])))::J::ab::ad::aH::aI::cj::ck::TT) B]) (jU::aj) hv kb jW (BkP g e) (BkT j d e p l) bG (BkV b l O T P R) (Md1 R M e m) ka (RwI ve0 e.deps)) (AF [Vl 0 (Ix b 0),Vl 1 (Ix b 0),Vl 2 (Ix b 4),Vl 3 (.map (some R)),Vl 4 (.agg #[Iv (e.typ),Iv (e.agg),Iv (e.field)]),Vl 5 (.agg (e.cells ve0).toArray),fun _=>True,fun _=>True,Vl 8 (m),fun _=>True,fun vals=> ∀(q:Int),vals 7=(.tuple #[m,Iv q]:Value)→vals 10=(Iv q:Value),fun _=>True]) [[],[0],[0,1],[0,1,2],[],[],[5],(rg 7),(rg 8),(rg 9),(rg 8),(rg 11)] [6,7,9,11] [(0,1),(0,1),(0,1),(0,1),(0,1),(0,0),(0,0),(1,1),(2,2),(2,2),(2,3),(3,3)] bk ⟨fun _ _ _ _ _ _ _=>obl rfl (mV (Ix b 0) dR),fun _ _ _ _ _ _ eZ=>obl rfl (zo (b:=b) (o:=0) (eZ 0 dc) dR),fun _ _ _ _ _ _ fa=>obl rfl (Ks (fa 1 dc) dR),?_,?_,ob1 0 fun _ _ (fb:Sep _ _ _ _) _=>obl rfl (zh (k:=10) nT lT rfl rfl (CellsAt.all (fb.b5)) dR),?_,?_,?_,?_,?_,?_,trivial⟩ ?_ (hlocA:=yX ⟨dA,dA,dA,dA,dA,dA,dT,dT,dA,dT,fun vals C Q h=>fun q ai=>(Q 10 (.inl rfl)).trans (h q ((Q 7 (.inr dc)).symm.trans ai)),dT,trivial⟩)
 refine fun aY _ _ iZ ja cl cm=>?_
 have hkk:=xk iZ ja
 rcases hkk with rfl|rfl
 have fc:Sep _ _ _ _:=cl
 exact obl rfl (lD (.map (some R)) kA (cm 2 dc) (zd (fc.b6) rfl) dR)
 obtain⟨F,X,fd⟩:=cl
 exact obl rfl (lD (.map (some R)) kA (cm 2 dc) (zd (fd.b7) rfl) dR)
 refine fun aZ _ _ jb jc cn _=>?_
 have hkk:=xk jb jc
 rcases hkk with rfl|rfl
 have fe:Sep _ _ _ _:=cn
 exact obl rfl (zh (k:=3) lA kY rfl rfl (CellsAt.all (fe.b3)) dR)
 obtain⟨F,X,ff⟩:=cn
 exact obl rfl (zh (k:=3) lA kY rfl rfl (CellsAt.all (ff.b4)) dR)
 refine ob1 0 fun _ _ (fg:Sep _ _ _ _) fh=>(obl rfl ((zI (k:=10) (parts':=[(0,.agg (e.cells ve0).toArray)]) (c:=(e.cells ve0).toArray) qR lT uR dc (Zi ⟨rfl,(fh 5 dc),trivial⟩) kr ?_)))
 intro w1413 F fi
 exact fun C Q D=>⟨(exiA F (zx Q (fg.new fi))),trivial⟩
 refine ob1 1 fun _ _ fj co=>?_
 obtain⟨F,X,fk⟩:=fj
 refine obl rfl ((Ue (fk.mv8) K3 rB sB (co 3 dc) (co 4 dc) ?_))
 intro w1425 q fl
 exact fun C Q D=>⟨(exiA F (exiA q (zx ((D 6 dc).trans X) (zx Q fl)))),trivial⟩
 refine ob1 2 fun _ _ fm _=>?_
 obtain⟨F,q,X,S,hS1522⟩:=fm
 exact obl rfl (zm (vs:=[m,Iv q]) (i:=0) (v:=m) S rfl dR)
 refine ob1 2 fun _ _ fn fo=>?_
 obtain⟨F,q,X,S,cp⟩:=fn
 refine obl rfl ?_
 have dE:=cp.b1
 refine(yj (src:=own) (bytes:=96) (x1:=e) (cp.s12_jkacdefghil) UP (fo 8 (by decide)) X dE (fun _ _ hN=>⟨_,rfl,RowE.soft hN,oe⟩) yqb rfl ?_)
 intro aa w1445 cq
 have fp:=cq.r0
 have hr1450s:_*96≤_:=fp.2
 exact fun C Q D=>⟨(exiA F (exiA q (exiA aa (zx ((D 6 dc).trans X) (zx ((D 7 dc).trans S) (zx Q cq)))))),trivial⟩
 refine fun ba _ _ jd je cr _=>?_
 have hkk:ba=2∨ba=3:=by have h1:2≤ba:=jd;have h2:ba≤3:=je;omega
 rcases hkk with rfl|rfl
 obtain⟨F,q,X,S,hS1529⟩:=cr
 refine obl rfl (zm (vs:=[m,Iv q]) (i:=1) (v:=Iv q) S rfl (fun C Q D=>⟨rfl,?_⟩))
 intro dG ai
 rw[D 7 (by decide)]at ai;cases S.symm.trans ai
 exact Q
 obtain⟨F,q,aa,X,S,aE,hS1530⟩:=cr
 refine obl rfl (zm (vs:=[m,Iv q]) (i:=1) (v:=Iv q) S rfl (fun C Q D=>⟨rfl,?_⟩))
 intro dG ai
 rw[D 7 (by decide)]at ai;cases S.symm.trans ai
 exact Q
 refine ob1 3 fun vals _ fq ct=>?_
 obtain⟨F,q,aa,X,S,aE,fr⟩:=fq
 have jf:vals 10=(Iv q:Value):=ct 10 dc q S
 refine obl rfl ((Wh (E:=E2) (v':=aa) (x':=(yx bi M)++[e]) (fr.mv1) (ct 3 dc) jf aE ?_))
 intro w1468 fs
 exact fun C Q D=>⟨(exiA F (exiA q (exiA aa (zx ((D 6 dc).trans X) (zx ((D 7 dc).trans S) (zx ((D 9 dc).trans aE) fs)))))),trivial⟩
 intro vals w1531 ft hA1533
 obtain⟨F,q,aa,X,S,aE,fu⟩:=ft
 refine zT (kv:=[(0,Ix b 0),(3,Ix s 0),(5,Ix I 0),(6,Ix j 0),(7,Ix g 0),(10,Ix u 0),(82,.agg jR.toArray),(83,Ix u 1),(84,U),(85,Ix s 6),(86,Iv (e.field)),(87,Ix s 7),(88,Iv (e.op)),(89,Ix s 8),(90,Iv (e.arg)),(91,Iv (yH (d.types.getD e.typ.toNat default) (zO d (e.typ,e.agg) M) e.field e.op e.arg)),(92,.bool false)]) sEv (fun ρw1531=>(zb (za ?_)))
 refine WD4 ((fun TT J=>WF [fun vals B=>Sep N p (J::TT) B,fun vals B=>Sep N p (J::TT) B]) (hv::kb::jW::(BkP g e)::(BkT j d e p l)::bG::(BkV b l O T P R)::jU::aj) (MapO xZ E2 R (Yi (yK M) bi ((yx bi M)++[e])))) (AF [Vl 0 (.agg #[Iv 0,Iv 0]),Vl 1 (.bool false),fun _=>True]) [[],[],[0,1]] [2] [(0,0),(0,0),(0,0)] fu ⟨ob1 0 fun _ _ (fv:Sep _ _ _ _) _=>obl rfl (zh (k:=2) pT mT rfl rfl (CellsAt.all (fv.b8)) dR),fun _ _ _ _ _ _ _=>obl rfl (aS (.bool false) dR),?_,trivial⟩ ?_
 refine ob1 0 fun _ _ (cu:Sep _ _ _ _) fw=>(obl rfl ((zp (v:=.agg #[Iv 0,Iv 0]) (c':=#[Iv 0,Iv 0]) mT rfl (fw 0 dc) (cu.b8) (zX ⟨rfl,rfl,trivial⟩) yqc rfl ?_)))
 intro w1556 fx
 exact fun C Q D=>⟨(cu.pt8 fx),trivial⟩
 intro vals w1572 fy fz
 have cv:Sep _ _ _ _:=fy
 have jg:=fz 1 dc
 refine zT (kv:=[(0,Ix b 0),(3,Ix s 0),(5,Ix I 0),(6,Ix j 0),(7,Ix g 0),(10,Ix u 0),(82,.agg jR.toArray),(83,Ix u 1),(84,U),(85,Ix s 6),(86,Iv (e.field)),(87,Ix s 7),(88,Iv (e.op)),(89,Ix s 8),(90,Iv (e.arg)),(91,Iv (yH (d.types.getD e.typ.toNat default) (zO d (e.typ,e.agg) M) e.field e.op e.arg)),(92,.bool false),(4,.bool false)]) ⟨rfl,rfl,rfl,rfl,rfl,rfl,rfl,rfl,rfl,rfl,rfl,rfl,rfl,rfl,rfl,rfl,rfl,(by exact jg),trivial⟩ (fun ρw1572=>(zb (zk (Yv (b:=I) oY pT mT rfl rfl (CellsAt.all (cv.b8)) (show _=(.bool false:Value)from rfl) ?_))))
 have al:=bz _ _ cv
 try simp+zetaDelta only at al
 rw[←bx]at al
 have am:(yA d M e).void=false:=by show(zU d M e).1=false;rw[hT]
 have bl:(zw d (M++[yA d M e]))=(Yi (zw d M) (e.typ,e.agg) (yh (e.typ,e.agg) M+1,(doL (d.types.getD e.typ.toNat default) (zO d (e.typ,e.agg) M) e.field e.op e.arg))):=Qt am
 have bm:(yK (M++[yA d M e]))=(Yi (yK M) bi ((yx bi M)++[e])):=Jm am
 try simp+zetaDelta only at al
 rw[←bl,←bm]at al
 have fA:Sep _ _ (jZ::_) _:=ViewO.close (d:=d) (L:=L) (M:=(M++[yA d M e])) (al.s12_iaklcbdefghj)
 rw[hT]
 refine⟨rfl,?_,(fA.s7_a)⟩
 exact⟨by decide,by decide⟩
 have af:=zz af
 have hT:zU d M e=(true,0,0):=hfree.trans (if_pos af)
 refine zg rfl (za ?_)
 try simp+zetaDelta only at aD
 rw[←du]at aD
 refine WD4 ((fun TT J=>WF [fun vals B=>Sep N p (J::TT) B,fun vals B=>Sep N p (J::TT) B]) (jW::jY::(BkP g e)::(BkT j d e p l)::bG::(BkV b l O T P R)::(Md1 R M e m)::ka::(RwI ve0 e.deps)::jU::aj) kb) (AF [Vl 0 (.agg #[Iv 0,Iv 0]),Vl 1 (.bool true),fun _=>True]) [[],[],[0,1]] [2] [(0,0),(0,0),(0,0)] aD ⟨ob1 0 fun _ _ (fB:Sep _ _ _ _) _=>obl rfl (zh (k:=2) pT mT rfl rfl (CellsAt.all (fB.b10)) dR),fun _ _ _ _ _ _ _=>obl rfl (aS (.bool true) dR),?_,trivial⟩ ?_
 refine ob1 0 fun _ _ (cw:Sep _ _ _ _) fC=>(obl rfl ((zp (v:=.agg #[Iv 0,Iv 0]) (c':=#[Iv 0,Iv 0]) mT rfl (fC 0 dc) (cw.b10) (zX ⟨rfl,rfl,trivial⟩) yqc rfl ?_)))
 intro w1602 fE
 exact fun C Q D=>⟨(cw.pt10 fE),trivial⟩
 intro vals dC fF fG
 have cx:Sep _ _ _ _:=fF
 have jh:=fG 1 dc
 refine zT (kv:=[(0,Ix b 0),(3,Ix s 0),(5,Ix I 0),(6,Ix j 0),(7,Ix g 0),(10,Ix u 0),(82,.agg jR.toArray),(83,Ix u 1),(84,U),(85,Ix s 6),(86,Iv (e.field)),(87,Ix s 7),(88,Iv (e.op)),(89,Ix s 8),(90,Iv (e.arg)),(91,Iv (yH (d.types.getD e.typ.toNat default) (zO d (e.typ,e.agg) M) e.field e.op e.arg)),(92,.bool true),(4,.bool true)]) ⟨rfl,rfl,rfl,rfl,rfl,rfl,rfl,rfl,rfl,rfl,rfl,rfl,rfl,rfl,rfl,rfl,rfl,(by exact jh),trivial⟩ (fun ρw1618=>(zb (zk (Yv (b:=I) oY pT mT rfl rfl (CellsAt.all (cx.b10)) (show _=(.bool true:Value)from rfl) ?_))))
 have bn:=bz _ _ cx
 try simp+zetaDelta only at bn
 rw[←bx]at bn
 have fH:Sep _ _ ((Xs E1 (.agg #[Iw (yh (e.typ,e.agg) M),H]) ((zw d M) (e.typ,e.agg)))::_) _:=Qq (bn.mv1) jM
 have fI:Sep G W (jV::(RwT l d.types)::jW::(BkP g e)::(BkT j d e p l)::bG::(BkV b l O T P R)::(Md1 R M e m)::ka::(RwI ve0 e.deps)::jU::(RwP O d.projs)::(RwN T L)::Rs) dC:=(fH.mv3).mapoPut
 have fJ:Sep _ _ ((Xs E2 m ((yK M) bi))::_) _:=Vn (fI.mv8)
 have bp:Sep G W (jX::jV::(RwT l d.types)::jW::(BkP g e)::(BkT j d e p l)::bG::(BkV b l O T P R)::(RwI ve0 e.deps)::jU::(RwP O d.projs)::(RwN T L)::Rs) dC:=(fJ.mv8).mapoPut
 have am:(yA d M e).void=true:=by show(zU d M e).1=true;rw[hT]
 have bl:(zw d (M++[yA d M e]))=(zw d M):=(xT am).1
 have bm:(yK (M++[yA d M e]))=(yK M):=(xT (d:=d) am).2
 try simp+zetaDelta only at bp
 rw[←bl,←bm]at bp
 have fK:Sep _ _ (jZ::_) _:=ViewO.close (d:=d) (L:=L) (M:=(M++[yA d M e])) (bp.s12_hcklbadefgij)
 rw[hT]
 refine⟨rfl,?_,(fK.s7_a)⟩
 exact⟨by decide,by decide⟩
 have aR:=tD aR
 refine zg rfl (zl (za (zn (za (R0 fun _=>?_)))))
 have fL:k<(yx (e.typ,e.agg,e.field) M).length:=bo
 refine st (zj (k:=10) (i:=k) qR lT rfl aA.sl rfl fL ?_)
 have cy:k<(yx (e.typ,e.agg,e.field) M).length:=bo
 obtain⟨dH,an,bq⟩:=aA.evD cy
 have hsm1638:(((yx (e.typ,e.agg,e.field) M).getD k default).deps).length*8≤140737488355328:=an.small
 have dI:=aB.cells dH (aA.foot (ne_of_lt cy))
 refine st (zh (k:=10) nT lT rfl rfl dI (st (zq uR ?_)))
 intro w1642 ap fM
 have cz:=aB.new fM
 refine stn (zp (v:=.agg jT.toArray) (c':=jT.toArray) lT rfl rfl (cz.b0) (zX ⟨rfl,rfl,rfl,an.sl.one,rfl,rfl,rfl,rfl,rfl,rfl,trivial⟩) yqc rfl ?_)
 intro w1644 fN
 refine zb (za ?_)
 refine WD4 ((fun J ab ad aH aI=>WF [fun vals B=>Sep bd Y (J::(BkP g e)::ab::ad::aH::aI::(RwI ve0 e.deps)::bC) B,fun vals B=>(vals 8=(.bool ((xf (((d.types.getD e.typ.toNat default).fields).getD e.field.toNat default) ((yx bi M).getD k default) e)):Value))∧Sep bd Y ((RwI ve0 e.deps)::J::(BkP g e)::ab::ad::aH::aI::bC) B]) (Blk ap jT.toArray 44) (BkT j d e p l) jU bG (BkV b l O T P R)) (AF [Vl 0 (Ix j 0),Vl 1 (bF),Vl 2 (Ix s 6),Vl 3 (Iv (e.field)),Vl 4 (Ix (sb bF) (so bF+e.field.toNat*4)),Vl 5 (.agg ((((d.types.getD e.typ.toNat default).fields).getD e.field.toNat default).cells (zN Y (sb bF) (so bF+e.field.toNat*4+3))).toArray),Vl 6 (.agg jT.toArray),Vl 7 (.agg (e.cells ve0).toArray),fun _=>True]) [[],[0],[],[2],(rg 4),(rg 5),[],[],(rg 8)] [8] [(0,0),(0,0),(0,0),(0,0),(0,0),(0,0),(0,0),(0,0),(0,0)] (cz.pt0 fN) ⟨fun _ _ _ _ _ _ _=>obl rfl (yS rfl dR),ob1 0 fun _ _ (fO:Sep _ _ _ _) fP=>obl rfl (lD bF nB (fP 0 dc) (zd (fO.b2) rfl) dR),fun _ _ _ _ _ _ _=>obl rfl (xt rfl dR),ob1 0 fun _ _ (fQ:Sep _ _ _ _) fR=>obl rfl (lD (Iv (e.field)) kT (fR 2 dc) (zd (fQ.b4) rfl) dR),?_,?_,ob1 0 fun _ _ (fS:Sep _ _ _ _) _=>obl rfl (zh (k:=10) nT lT rfl rfl (CellsAt.all (fS.b0)) dR),ob1 0 fun _ _ (fT:Sep _ _ _ _) _=>obl rfl (zh (k:=10) nT lT rfl rfl (CellsAt.all (fT.b4)) dR),?_,trivial⟩ ?_
 refine ob1 0 fun _ _ _ cC=>(obl rfl ?_)
 have hi1774:e.field.toNat<((d.types.getD e.typ.toNat default).fields).length:=bo
 exact zr (k:=4) (i:=e.field) wT nR (cC 1 dc) (RdS.base V az).sl (cC 3 dc) ⟨by omega,by omega⟩ dR
 refine ob1 0 fun _ _ (fU:Sep _ _ _ _) fV=>(obl rfl ?_)
 have cD:e.field.toNat<((d.types.getD e.typ.toNat default).fields).length:=bo
 obtain⟨dJ,cE,hoke1783⟩:=(RdS.base V az).fldD cD
 have hsm1785:((((d.types.getD e.typ.toNat default).fields).getD e.field.toNat default).moves).length*32≤140737488355328:=cE.small
 have dK:=fU.cells dJ ((RdS.base V az).foot (ne_of_lt cD))
 exact zh (k:=4) rA nR rfl (fV 4 dc) dK dR
 refine ob1 0 fun vals _ (cF:Sep _ _ _ _) br=>(obl rfl ?_)
 have cG:e.field.toNat<((d.types.getD e.typ.toNat default).fields).length:=bo
 obtain⟨dL,aJ,cS⟩:=(RdS.base V az).fldD cG
 have hsm1723:((((d.types.getD e.typ.toNat default).fields).getD e.field.toNat default).moves).length*32≤140737488355328:=aJ.small
 have hcw1724:=cF.cells dL ((RdS.base V az).foot (ne_of_lt cG))
 obtain⟨G1726,fW,cH,fX,fY⟩:=(cF.mv6).lend
 have bv:=RowE.rd fW
 have hrd1732s:_*8≤_:=bv.small
 refine(zH (f:=118) (vals:=[.agg ((((d.types.getD e.typ.toNat default).fields).getD e.field.toNat default).cells (zN Y (sb bF) (so bF+e.field.toNat*4+3))).toArray,.agg jT.toArray,.agg (e.cells ve0).toArray]) (cap:=[]) rfl (yE ⟨(br 5 dc),(br 6 dc),(br 7 dc),trivial⟩) Tryz.call118 (zcV (f:=(((d.types.getD e.typ.toNat default).fields).getD e.field.toNat default)) (x:=((yx bi M).getD k default)) (e:=e) (RdS.base aJ cH) cS (RdS.base an cH) bq bv oe fX) ?_)
 rintro _ w1733 ⟨rfl,fZ⟩
 have ga:=fY _ _ fZ
 exact fun C Q D=>⟨(zx Q ga),trivial⟩
 intro vals w1801 gc hA1803
 obtain⟨gd,cI⟩:=gc
 refine zT (kv:=[(0,Ix b 0),(3,Ix s 0),(5,Ix I 0),(6,Ix j 0),(7,Ix g 0),(49,m),(50,Iw ((yx bi M).length)),(51,Iw k),(52,.bool true),(53,Ix (sb m) (so m+k*10)),(54,.agg jT.toArray),(9,Ix ap 0),(63,.bool ((xf (((d.types.getD e.typ.toNat default).fields).getD e.field.toNat default) ((yx bi M).getD k default) e)))]) ⟨rfl,rfl,rfl,rfl,rfl,rfl,rfl,rfl,rfl,rfl,rfl,rfl,(by exact gd),trivial⟩ (fun ρw1801=>(zb ?_))
 cases cJ:(xf (((d.types.getD e.typ.toNat default).fields).getD e.field.toNat default) ((yx (e.typ,e.agg,e.field) M).getD k default) e)
 refine ze rfl (zl (R0 fun _=>?_))
 have ge:InR ((k+1:Nat):Int):=bo
 refine st (zP (r:=((k+1:Nat):Int)) (k:=.i64) (a:=((k:Nat):Int)) (b:=1) rfl rfl (by rw[show(((k:Nat):Int)+1:Int)=((k+1:Nat):Int)from bo];exact zF ge) (st (mV (Iw (k+1)) (zb ?_))))
 exact⟨_,by omega,k+1,_,rfl,sSf,by omega,(yL hno cJ),(cI.s7_cdefga)⟩
 have bw:=bq
 have hT:=zdB hfz om hno cJ
 refine zg rfl (za ?_)
 refine WD4 ((fun TT J ab=>WF [fun vals B=>Sep bd Y ((RwI ve0 e.deps)::J::(BkP g e)::ab::jU::TT) B,fun vals B=>Sep bd Y ((RwI ve0 e.deps)::J::(BkP g e)::ab::(Blk I #[Iv (((yx bi M).getD k default).origin),Iv (((yx bi M).getD k default).seq)] 41)::TT) B]) (bG::(BkV b l O T P R)::bC) (Blk ap jT.toArray 44) (BkT j d e p l)) (AF [Vl 0 (Ix ap 0),Vl 1 (.agg #[Iv (((yx bi M).getD k default).origin),Iv (((yx bi M).getD k default).seq)]),Vl 2 (.bool true),fun _=>True]) [[],[0],[],[0,1,2]] [3] [(0,0),(0,0),(0,0),(0,0)] cI ⟨fun _ _ _ _ _ _ _=>obl rfl (yp rfl dR),ob1 0 fun _ _ (gf:Sep _ _ _ _) gg=>obl rfl (zh (k:=2) (cs:=[Iv (((yx bi M).getD k default).origin),Iv (((yx bi M).getD k default).seq)]) pT mT rfl (gg 0 dc) (CellsAt.sub (CellsAt.all (gf.b1)) 0 (cs2:=[Iv (((yx bi M).getD k default).origin),Iv (((yx bi M).getD k default).seq)]) rfl) dR),fun _ _ _ _ _ _ _=>obl rfl (aS (.bool true) dR),?_,trivial⟩ ?_
 refine ob1 0 fun _ _ (cK:Sep _ _ _ _) gh=>(obl rfl ((zp (v:=.agg #[Iv (((yx bi M).getD k default).origin),Iv (((yx bi M).getD k default).seq)]) (c':=#[Iv (((yx bi M).getD k default).origin),Iv (((yx bi M).getD k default).seq)]) mT rfl (gh 1 dc) (cK.b4) (zX ⟨rfl,rfl,trivial⟩) yqc rfl ?_)))
 intro w1837 gi
 exact fun C Q D=>⟨(cK.pt4 gi),trivial⟩
 intro vals ji gj gk
 have cM:Sep _ _ _ _:=gj
 have jj:=gk 2 dc
 refine zT (kv:=[(0,Ix b 0),(3,Ix s 0),(5,Ix I 0),(6,Ix j 0),(7,Ix g 0),(49,m),(50,Iw ((yx bi M).length)),(51,Iw k),(52,.bool true),(53,Ix (sb m) (so m+k*10)),(54,.agg jT.toArray),(9,Ix ap 0),(63,.bool true),(4,.bool true)]) ⟨rfl,rfl,rfl,rfl,rfl,rfl,rfl,rfl,rfl,rfl,rfl,rfl,rfl,(by exact jj),trivial⟩ (fun ρw1860=>(zb (zk (Yv (b:=I) oY pT mT rfl rfl (CellsAt.all (cM.b4)) (show _=(.bool true:Value)from rfl) ?_))))
 have gl:=dp _ _ cM
 have ao:=bz _ _ gl
 try simp+zetaDelta only at ao
 rw[←dr]at ao
 try simp+zetaDelta only at ao
 rw[←bx]at ao
 have gm:Sep _ _ ((Xs E2 m ((yK M) bi))::_) _:=Vn (ao.mv1)
 have bs:Sep G W (jX::(RwT l d.types)::(RwI ve0 e.deps)::(Blk ap jT.toArray 44)::(BkP g e)::(BkT j d e p l)::(Blk I #[Iv (((yx bi M).getD k default).origin),Iv (((yx bi M).getD k default).seq)] 41)::bG::(BkV b l O T P R)::jV::(RwP O d.projs)::(RwN T L)::Rs) ji:=(gm.mv9).mapoPut
 have am:(yA d M e).void=true:=by show(zU d M e).1=true;rw[hT]
 have bl:(zw d (M++[yA d M e]))=(zw d M):=(xT am).1
 have bm:(yK (M++[yA d M e]))=(yK M):=(xT (d:=d) am).2
 try simp+zetaDelta only at bs
 rw[←bl,←bm]at bs
 have gn:Sep _ _ (jZ::_) _:=ViewO.close (d:=d) (L:=L) (M:=(M++[yA d M e])) (bs.s12_ibkljacdefgh)
 rw[hT]
 refine⟨rfl,?_,(gn.s7_a)⟩
 exact⟨bw.origin,bw.seq⟩
 have ag:=zz ag
 have hT:zU d M e=(true,0,0):=WM ag
 refine zg rfl (za (WD4 ((fun TT=>WF [fun vals B=>Sep G W ((RwT l d.types)::TT) B,fun vals B=>Sep G W ((RwT l d.types)::TT) B]) ((RwP O d.projs)::jU::bG::(BkV b l O T P R)::(RwN T L)::jV::jX::(RwI ve0 e.deps)::Rs)) (AF [Vl 0 (.agg #[Iv 0,Iv 0]),Vl 1 (.bool true),fun _=>True]) [[],[],[0,1]] [2] [(0,0),(0,0),(0,0)] cV ⟨ob1 0 fun _ _ (go:Sep _ _ _ _) _=>obl rfl (zh (k:=2) pT mT rfl rfl (CellsAt.all (go.b2)) dR),fun _ _ _ _ _ _ _=>obl rfl (aS (.bool true) dR),?_,trivial⟩ ?_))
 refine ob1 0 fun _ _ (cN:Sep _ _ _ _) gp=>(obl rfl ((zp (v:=.agg #[Iv 0,Iv 0]) (c':=#[Iv 0,Iv 0]) mT rfl (gp 0 dc) (cN.b2) (zX ⟨rfl,rfl,trivial⟩) yqc rfl ?_)))
 intro w1895 gq
 exact fun C Q D=>⟨(cN.pt2 gq),trivial⟩
 intro vals w1911 gr gs
 have aF:Sep _ _ _ _:=gr
 have jk:=gs 1 dc
 refine zT (kv:=[(0,Ix b 0),(1,.agg (e.cells ve0).toArray),(3,Ix s 0),(4,.bool true),(5,Ix I 0),(25,.bool true)]) ⟨rfl,rfl,rfl,(by exact jk),rfl,rfl,trivial⟩ (fun ρw1911=>(zb (zk (Yv (b:=I) oY pT mT rfl rfl (CellsAt.all (aF.b2)) (show _=(.bool true:Value)from rfl) ?_))))
 have am:(yA d M e).void=true:=by show(zU d M e).1=true;rw[hT]
 have bl:(zw d (M++[yA d M e]))=(zw d M):=(xT am).1
 have bm:(yK (M++[yA d M e]))=(yK M):=(xT (d:=d) am).2
 try simp+zetaDelta only at aF
 rw[←bl,←bm]at aF
 have gt:Sep _ _ (jZ::_) _:=ViewO.close (d:=d) (L:=L) (M:=(M++[yA d M e])) (aF.s9_eabfghcdi)
 rw[hT]
 refine⟨rfl,?_,(gt.s4_a)⟩
 exact⟨by decide,by decide⟩
end
section
set_option maxRecDepth 8000
set_option maxHeartbeats 4000000
open Go.Proofs Go.RowKit
def XR (d:Dcl)(k:Int×Int)(L:List Ent):Sta:=⟨((yh k L:Nat):Int),stL d k L⟩
theorem ZL (d:Dcl)(l:List Ev):(zD d l).length=l.length:=by
 induction l using YA with
 |h0=>rfl
 |h1 l e ih=>rw[Zp,List.length_append,List.length_append,ih];rfl
theorem Vs {d:Dcl}{l:List Ev}{k:Nat}(h:k<l.length):zD d (l.take (k+1))=zD d (l.take k)++[yA d (zD d (l.take k)) (l.getD k default)]:=by rw[List.take_getD (d:=default) h,Zp]
theorem KZ {d:Dcl}{l:List Ev}{k:Nat}(h:l.length≤1000000):(zD d (l.take k)).length≤1000000:=by rw[ZL,List.length_take];omega
set_option maxHeartbeats 8000000 in
theorem D_Add {b:Nat}{d:Dcl}{L:List Ent}{e:Ev}{de0:Value}(hde0:RdS W G de0 e.deps)(oe:e.Ok)(hKN:RdS W G (.slice (some ⟨0,0,none⟩) 6 6) kindsL)(hS0:Sep G W ((ViewO b d L L)::Rs) w)(hd:DclOk d)(hinv:Inv d L)(hml:L.length≤1000000):Ret Tryz.prog 60 [.pointer (some ⟨b,0,none⟩),.agg (e.cells de0).toArray] w (fun r w'=> ∃(v:Value),r=(.agg ((yA d L e).cells v).toArray:Value)∧Sep G W ((ViewO b d (L++[yA d L e]) (L++[yA d L e]))::(RowE (α:=Int) own 3 v e.deps)::Rs) w'):=by
 refine zi Tryz.func60 rfl rfl ?_
 refine za (R0 fun _=>st (zM rfl ?_))
 intro w3 b2 bz
 let bF:=Blk b2 (e.cells de0).toArray 44
 refine st (zq vY ?_)
 intro w7 U bA
 let bo:=Blk U #[Iv 0,Iv 0,Iv 0,(Iz),Iv 0,Iv 0,Iv 0,Iv 0,Iv 0,Iv 0,.bool false,Iv 0,Iv 0] 96
 have bb:=(hS0.new bz).new bA
 refine zb (za (R0 fun _=>st (mV (Ix b 0) (st (zh nT lT rfl rfl (CellsAt.all (bb.b1)) (st (cL pY (XT hde0 oe bb) ?_)))))))
 rintro _ w10 ⟨v9,rfl,ah⟩
 have bd:=ah.r0
 refine st (cL Tryz.call91 (D_try oe hKN (ah.mv3) (hd) (hinv) (hml)) ?_)
 rintro _ w15 ⟨rfl,V,be⟩
 refine st (mV (.tuple #[.bool ((zU d L e).1),.agg #[Iv ((zU d L e).2.1),Iv ((zU d L e).2.2)]]) (st (zm rfl rfl (st (zm rfl rfl (st (zq pB ?_)))))))
 intro w19 T bf
 let bB:=Blk T #[Iv ((zU d L e).2.1),Iv ((zU d L e).2.2)] 41
 have ai:=be.new bf
 refine st (aS (.bool ((zU d L e).1)) (stn (zp (v:=.agg #[Iv ((zU d L e).2.1),Iv ((zU d L e).2.2)]) (c':=#[Iv ((zU d L e).2.1),Iv ((zU d L e).2.2)]) mT rfl rfl (ai.b0) (zX ⟨rfl,rfl,trivial⟩) yqc rfl ?_)))
 intro bC bg
 refine zb (za ?_)
 have hek:Ent.Ok (yA d L e):=⟨oe,V.1,V.2⟩
 obtain⟨q,s,t,A,B,bh⟩:=ViewO.open ((ai.pt0 bg).mv1)
 let bE:=MapO xZ E2 B (yK (L++[yA d L e]))
 let bD:=MapO xh E1 A (zw d (L++[yA d L e]))
 have H:Sep G W ((BkV b q s t A B)::(RwT q d.types)::(RwP s d.projs)::(RwN t L)::bD::bE::bB::bo::bF::Rs) bC:=bh
 have bi:=H.r1
 have bj:=H.r2
 have bk:=H.r3
 refine WD4 ((fun TT F C D I=>WF [fun vals z=>Sep G W (F::C::D::I::TT) z,fun vals z=> ∃(g:Value),(vals 6=(.agg (e.cells g).toArray:Value))∧Sep G W ((RwI g e.deps)::F::C::D::I::TT) z,fun vals z=> ∃(g:Value) (l:Nat),(vals 6=(.agg (e.cells g).toArray:Value))∧(vals 10=((Iy l 1 1):Value))∧Sep G W ((Blk l ((yA d L e).cells g).toArray 96)::(RwI g e.deps)::F::C::D::I::TT) z,fun vals z=> ∃(g:Value) (l:Nat) (j:Value),(vals 6=(.agg (e.cells g).toArray:Value))∧(vals 10=((Iy l 1 1):Value))∧(vals 11=(j:Value))∧Sep G W ((RwN j (L++[(yA d L e)]))::F::C::D::TT) z,fun vals z=> ∃(g:Value) (l:Nat) (j:Value),(vals 6=(.agg (e.cells g).toArray:Value))∧(vals 10=((Iy l 1 1):Value))∧(vals 11=(j:Value))∧Sep G W ((RwN j (L++[(yA d L e)]))::(BkV b q s j A B)::C::D::TT) z]) (bD::bE::bB::bo::bF::Rs) (BkV b q s t A B) (RwT q d.types) (RwP s d.projs) (RwN t L)) (AF [Vl 0 (Ix b 0),Vl 1 (Ix b 0),Vl 2 (Ix b 0),Vl 3 (Ix b 2),Vl 4 (t),Vl 5 (.agg (e.cells de0).toArray),fun _=>True,Vl 7 (.bool ((zU d L e).1)),Vl 8 (.agg #[Iv ((zU d L e).2.1),Iv ((zU d L e).2.2)]),fun vals=> ∀(g:Value),vals 6=(.agg (e.cells g).toArray:Value)→vals 9=(.agg ((yA d L e).cells g).toArray:Value),fun _=>True,fun _=>True,Vl 12 (Ix b 0),Vl 13 (Ix b 2),fun _=>True]) [[],[],[1],[1,2],[1,2,3],[],[5],[],[],[5,6,7,8],[5,6,7,8,9],[1,2,3,4,5,6,7,8,9,10],(rg 12),(rg 13),(rg 14)] [6,10,11,14] [(0,3),(0,2),(0,2),(0,2),(0,2),(0,0),(0,0),(0,1),(0,1),(1,1),(1,1),(2,2),(3,3),(3,3),(3,3)] H ⟨fun _ _ _ _ _ _ _=>obl rfl (mV (Ix b 0) dR),fun _ _ _ _ _ _ _=>obl rfl (mV (Ix b 0) dR),fun _ _ _ _ _ _ ao=>obl rfl (zo (b:=b) (o:=0) (ao 1 dc) dR),fun _ _ _ _ _ _ ap=>obl rfl (Uj (ap 2 dc) dR),?_,ob1 0 fun _ _ (aq:Sep _ _ _ _) _=>obl rfl (zh (k:=10) nT lT rfl rfl (CellsAt.all (aq.b8)) dR),?_,fun _ _ _ _ _ _ _=>obl rfl (mV (.bool ((zU d L e).1)) dR),?_,?_,?_,?_,fun _ _ _ _ _ _ ar=>obl rfl (zo (b:=b) (o:=0) (ar 0 dc) dR),fun _ _ _ _ _ _ au=>obl rfl (Uj (au 12 dc) dR),?_,trivial⟩ ?_ (hlocA:=yX ⟨dA,dA,dA,dA,dA,dA,dT,dA,dA,fun vals p u h=>fun g E=>(u 9 (.inl rfl)).trans (h g ((u 6 (.inr dc)).symm.trans E)),dT,dT,dA,dA,dT,trivial⟩)
 refine fun J _ _ bl bm K N=>?_
 have hkk:=JP bl bm
 rcases hkk with rfl|rfl|rfl
 have av:=K
 exact obl rfl (lD t qY (N 3 dc) (zd (av.b0) rfl) dR)
 obtain⟨g,m,aw⟩:=K
 exact obl rfl (lD t qY (N 3 dc) (zd (aw.b1) rfl) dR)
 obtain⟨g,l,m,y,ax⟩:=K
 exact obl rfl (lD t qY (N 3 dc) (zd (ax.b2) rfl) dR)
 refine ob1 0 fun vals _ (bn:Sep _ _ _ _) bp=>(obl rfl ((zH (f:=58) (vals:=[.agg (e.cells de0).toArray]) (cap:=[]) rfl (yE ⟨(bp 5 dc),trivial⟩) pY (XT hde0 oe bn) ?_)))
 rintro _ w84 ⟨g,rfl,aj⟩
 have bq:=aj.r0
 exact fun p u n=>⟨(exiA g (zx u aj)),trivial⟩
 refine fun O _ _ br bs X _=>?_
 have hkk:=xk br bs
 rcases hkk with rfl|rfl
 have ay:=X
 exact obl rfl (zh pT mT rfl rfl (CellsAt.all (ay.b6)) dR)
 obtain⟨g,m,az⟩:=X
 exact obl rfl (zh pT mT rfl rfl (CellsAt.all (az.b7)) dR)
 refine ob1 1 fun _ _ aA Y=>?_
 obtain⟨g,m,hS229⟩:=aA
 refine obl rfl (zL (parts':=[(0,.agg (e.cells g).toArray),(1,.bool ((zU d L e).1)),(2,.agg #[Iv ((zU d L e).2.1),Iv ((zU d L e).2.2)])]) (v:=.agg ((yA d L e).cells g).toArray) (Zi ⟨rfl,m,rfl,(Y 7 (by decide)),rfl,(Y 8 (by decide)),trivial⟩) (by simp+zetaDelta [Instr.build,Instr.fill,go_sem,Ent.cells,Ev.cells,yA]) (fun p u n=>⟨rfl,?_⟩))
 intro v83q E
 rw[n 6 (by decide)]at E;cases m.symm.trans E
 exact u
 refine ob1 1 fun vals _ aB aC=>?_
 obtain⟨g,m,aD⟩:=aB
 have bt:=aC 9 dc g m
 refine obl rfl ((zI (k:=13) (parts':=[(0,.agg ((yA d L e).cells g).toArray)]) (c:=((yA d L e).cells g).toArray) kR oR vY dc (Zi ⟨rfl,bt,trivial⟩) kr ?_))
 intro w120 l aE
 exact fun p u n=>⟨(exiA g (exiA l (zx ((n 6 dc).trans m) (zx u (aD.new aE))))),trivial⟩
 refine ob1 2 fun _ _ aF aG=>?_
 obtain⟨g,l,m,y,Z⟩:=aF
 refine obl rfl ?_
 have ak:=Z.b0
 refine(yj (Z.s11_fbcdeghijk) zcc (aG 4 (by decide)) y ak (fun _ _ hN=>⟨_,rfl,RowE.soft hN,hek⟩) yqb rfl ?_)
 intro j w131 aa
 have aH:=aa.r0
 exact fun p u n=>⟨(exiA g (exiA l (exiA j (zx ((n 6 dc).trans m) (zx ((n 10 dc).trans y) (zx u aa)))))),trivial⟩
 refine ob1 3 fun _ _ aI aJ=>?_
 obtain⟨g,l,j,m,y,P,Q⟩:=aI
 refine obl rfl ?_
 have ab:=Q.r0
 refine(ym Tryz.sizeOf56 (aJ 13 dc) P (Q.b1) ab.1.one rfl rfl ?_)
 intro w160 aK
 exact fun p u n=>⟨(exiA g (exiA l (exiA j (zx ((n 6 dc).trans m) (zx ((n 10 dc).trans y) (zx ((n 11 dc).trans P) (Q.pt1 aK))))))),trivial⟩
 intro vals w246 aL hA248
 obtain⟨g,l,j,m,y,P,aM⟩:=aL
 refine zT (kv:=[(0,Ix b 0),(1,.agg (e.cells de0).toArray),(3,Ix b2 0),(4,Ix U 0),(8,Ix b 0),(9,.agg (e.cells de0).toArray),(10,.agg (e.cells v9).toArray),(11,.tuple #[.bool ((zU d L e).1),.agg #[Iv ((zU d L e).2.1),Iv ((zU d L e).2.2)]]),(7,.tuple #[.bool ((zU d L e).1),.agg #[Iv ((zU d L e).2.1),Iv ((zU d L e).2.2)]]),(12,.bool ((zU d L e).1)),(13,.agg #[Iv ((zU d L e).2.1),Iv ((zU d L e).2.2)]),(6,Ix T 0),(5,.bool ((zU d L e).1))]) sEv (fun ρw246=>(zb (za ?_)))
 refine WD4 ((fun TT F C D I al am an bc=>WF [fun vals z=>Sep G W (F::C::D::I::al::am::an::bc::TT) z,fun vals z=> ∃(a:Value),(vals 1=(.agg (e.cells a).toArray:Value))∧Sep G W ((RwI a e.deps)::F::C::D::I::al::am::an::bc::TT) z,fun vals z=> ∃(a:Value),(vals 1=(.agg (e.cells a).toArray:Value))∧Sep G W ((RwI a e.deps)::F::C::D::I::al::am::an::(Blk U ((yA d L e).cells a).toArray 96)::TT) z]) (bF::Rs) (RwN j (L++[(yA d L e)])) (BkV b q s j A B) (RwT q d.types) (RwP s d.projs) bD bE bB bo) (AF [Vl 0 (.agg (e.cells de0).toArray),fun _=>True,Vl 2 (.bool ((zU d L e).1)),Vl 3 (.agg #[Iv ((zU d L e).2.1),Iv ((zU d L e).2.2)]),fun vals=> ∀(a:Value),vals 1=(.agg (e.cells a).toArray:Value)→vals 4=(.agg ((yA d L e).cells a).toArray:Value),fun _=>True]) [[],[0],[],[],(rg 4),(rg 5)] [1,5] [(0,0),(0,0),(0,1),(0,1),(1,1),(1,1)] aM ⟨ob1 0 fun _ _ (aN:Sep _ _ _ _) _=>obl rfl (zh (k:=10) nT lT rfl rfl (CellsAt.all (aN.b8)) dR),?_,fun _ _ _ _ _ _ _=>obl rfl (mV (.bool ((zU d L e).1)) dR),?_,?_,?_,trivial⟩ ?_ (hlocA:=yX ⟨dA,dT,dA,dA,fun vals p u h=>fun a E=>(u 4 (.inl rfl)).trans (h a ((u 1 (.inr dc)).symm.trans E)),dT,trivial⟩)
 refine ob1 0 fun vals _ (aO:Sep _ _ _ _) aP=>(obl rfl ((zH (f:=58) (vals:=[.agg (e.cells de0).toArray]) (cap:=[]) rfl (yE ⟨(aP 0 dc),trivial⟩) pY (XT hde0 oe aO) ?_)))
 rintro _ w266 ⟨a,rfl,ac⟩
 have aQ:=ac.r0
 exact fun p u n=>⟨(exiA a (zx u ac)),trivial⟩
 refine fun R _ _ bu bv ad _=>?_
 have hkk:=xk bu bv
 rcases hkk with rfl|rfl
 have aR:=ad
 exact obl rfl (zh pT mT rfl rfl (CellsAt.all (aR.b6)) dR)
 obtain⟨a,x,aT⟩:=ad
 exact obl rfl (zh pT mT rfl rfl (CellsAt.all (aT.b7)) dR)
 refine ob1 1 fun _ _ aU ae=>?_
 obtain⟨a,x,hS331⟩:=aU
 refine obl rfl (zL (parts':=[(0,.agg (e.cells a).toArray),(1,.bool ((zU d L e).1)),(2,.agg #[Iv ((zU d L e).2.1),Iv ((zU d L e).2.2)])]) (v:=.agg ((yA d L e).cells a).toArray) (Zi ⟨rfl,x,rfl,(ae 2 (by decide)),rfl,(ae 3 (by decide)),trivial⟩) (by simp+zetaDelta [Instr.build,Instr.fill,go_sem,Ent.cells,Ev.cells,yA]) (fun p u n=>⟨rfl,?_⟩))
 intro v265q E
 rw[n 1 (by decide)]at E;cases x.symm.trans E
 exact u
 refine ob1 1 fun vals _ aV aW=>?_
 obtain⟨a,x,S⟩:=aV
 have bw:=aW 4 dc a x
 refine obl rfl ?_
 have af:=S.r0
 refine(zp (v:=.agg ((yA d L e).cells a).toArray) (c':=((yA d L e).cells a).toArray) oR rfl bw (S.b8) (zX ⟨rfl,rfl,rfl,af.1.one,rfl,rfl,rfl,rfl,rfl,rfl,rfl,rfl,rfl,trivial⟩) yqc rfl ?_)
 intro w300 aX
 exact fun p u n=>⟨(exiA a (zx ((n 1 dc).trans x) (S.pt8 aX))),trivial⟩
 intro vals bx aY hA336
 obtain⟨a,x,ag⟩:=aY
 refine zT (kv:=[(0,Ix b 0),(1,.agg (e.cells de0).toArray),(3,Ix b2 0),(4,Ix U 0),(8,Ix b 0),(9,.agg (e.cells de0).toArray),(10,.agg (e.cells v9).toArray),(11,.tuple #[.bool ((zU d L e).1),.agg #[Iv ((zU d L e).2.1),Iv ((zU d L e).2.2)]]),(7,.tuple #[.bool ((zU d L e).1),.agg #[Iv ((zU d L e).2.1),Iv ((zU d L e).2.2)]]),(12,.bool ((zU d L e).1)),(13,.agg #[Iv ((zU d L e).2.1),Iv ((zU d L e).2.2)]),(6,Ix T 0),(5,.bool ((zU d L e).1))]) sEv (fun ρw334=>(zb (zk (Ve Tryz.results60 Tryz.isAgg96 oR rfl rfl (CellsAt.all (ag.b8)) ?_))))
 have aZ:Sep _ _ ((ViewO b d (L++[yA d L e]) (L++[yA d L e]))::_) _:=ViewO.close (ag.s10_cdebfgahij)
 have ba:Sep G W ((ViewO b d (L++[yA d L e]) (L++[yA d L e]))::(RwI a e.deps)::Rs) bx:=aZ.sel 5 [0,1] (Nat.le_add_left _ _) rfl rfl
 refine⟨a,rfl,ba⟩
theorem zcn {b:Nat}{d:Dcl}{L:List Ent}{ty:Int}(hty:InR ty){no:Int}(hno:InR no)(hS0:Sep G W ((ViewO b d L L)::Rs) w):Ret Tryz.prog 36 [.pointer (some ⟨b,0,none⟩),.int .i64 (ty),.int .i64 (no)] w (fun r w'=> ∃(v:Value),r=(.tuple #[.agg ((XR d (ty,no) L).cells v).toArray,.bool ((zw d L (ty,no)).isSome)]:Value)∧Sep G W ((ViewO b d L L)::(RowE (α:=Cel) own 140 v (stL d (ty,no) L))::Rs) w'):=by
 refine zi Tryz.func36 rfl rfl ?_
 refine za (R0 fun _=>st (zq lR ?_))
 intro U b2 V
 refine st (aS (.bool false) (zb (za (R0 fun _=>?_))))
 obtain⟨f,g,h,m,j,B⟩:=ViewO.open ((hS0.new V).mv1)
 let aa:=Blk b #[f,g,h,.map (some m),.map (some j)] 101
 have c:Sep G W (aa::(RowE (α:=Typ) own 74 f d.types)::(RowE own 112 g d.projs)::(RowE own 96 h L)::(MapO xh E1 m (zw d L))::(MapO xZ E2 j (yK L))::(Blk b2 #[Iv 0,(Iz)] 77)::Rs) U:=B
 have C:=c.r1
 have hr12s:_*24≤_:=C.2
 have D:=c.r2
 have hr13s:_*40≤_:=D.2
 have E:=c.r3
 have hr14s:_*120≤_:=E.2
 obtain⟨vs16,A,F⟩:=(c.mv4).mapoTake Qr (ty,no)
 obtain⟨a,rfl,H⟩:=VI (F.mv1) A
 have e:Sep G W ((RowE (α:=Cel) own 140 a (stL d (ty,no) L))::(Zs xh E1 Qr m (zw d L) (ty,no) (.agg #[Iw (yh (ty,no) L),a]))::aa::(RowE own 74 f d.types)::(RowE own 112 g d.projs)::(RowE own 96 h L)::(MapO xZ E2 j (yK L))::(Blk b2 #[Iv 0,(Iz)] 77)::Rs) U:=H
 have p:=e.r0
 have hr22s:_*32≤_:=p.2
 have hve9:=Xa (ty,no) L
 refine st (mV (Ix b 0) (st (zo (b:=b) (o:=0) rfl (st (VY rfl (st (lD (.map (some m)) sR rfl (zd (e.b2) rfl) (st (mV (Iv ty) (st (mV (Iv no) (st (zL (parts':=[(0,Iv ty),(1,Iv no)]) (v:=.agg #[Iv ty,Iv no]) rfl (by simp+zetaDelta [Instr.build,Instr.fill,Ev.cells,go_sem,Mv.cells,Fld.cells,Typ.cells,Prj.cells,Dcl.cells,Cel.cells,AskR.cells,CelS.cells,Ev.cells,Ent.cells,Sta.cells]) (st (Yl e (i:=1) rfl K2 nY lR rfl rfl (st (mV (.tuple #[.agg #[Iw (yh (ty,no) L),a],.bool (((zw d L) (ty,no)).isSome)]) (st (zm (vs:=[.agg #[Iw (yh (ty,no) L),a],.bool (((zw d L) (ty,no)).isSome)]) (i:=0) (v:=.agg #[Iw (yh (ty,no) L),a]) rfl rfl ?_)))))))))))))))))))
 refine st (zm rfl rfl (st (zq lR ?_)))
 intro w25 X I
 have q:=e.new I
 refine stn (zp (v:=.agg #[Iw (yh (ty,no) L),a]) (c':=#[Iw (yh (ty,no) L),a]) tT rfl rfl (q.b0) (zX ⟨rfl,p.1.one,trivial⟩) yqc rfl ?_)
 intro w27 J
 have K:Sta.Ok (⟨((yh (ty,no) L:Nat):Int),stL d (ty,no) L⟩:Sta):=⟨(show InR (((yh (ty,no) L:Nat):Int))from om)⟩
 have s:=q.pt0 J
 refine st (aS (.bool (((zw d L) (ty,no)).isSome)) (zb (za (R0 fun _=>st (zh vR tT rfl rfl (CellsAt.all (s.b0)) ?_)))))
 obtain⟨G32,N,hB35,O,P⟩:=(s.mv1).lend
 have n:=RowE.rd N
 refine st (cL Tryz.call78 (zbW n K O) ?_)
 rintro _ w40 ⟨l,rfl,t⟩
 let Z:=((⟨((yh (ty,no) L:Nat):Int),stL d (ty,no) L⟩:Sta).cells l)
 have u:=t.r0
 have y:=P _ _ t
 refine st (mV (.bool (((zw d L) (ty,no)).isSome)) (stn (zp (v:=.agg Z.toArray) (c':=Z.toArray) tT rfl rfl (y.b9) (zX ⟨rfl,u.1.one,trivial⟩) yqc rfl ?_)))
 intro Y Q
 have z:=y.pt9 Q
 refine st (aS (.bool (((zw d L) (ty,no)).isSome)) (zb (zk (xD Tryz.results36 vR tT rfl rfl (CellsAt.all (z.b9)) rfl ?_))))
 have R:Sep _ _ ((Xs E1 (.agg #[Iw (yh (ty,no) L),a]) ((zw d L) (ty,no)))::_) _:=Ka z
 have S:Sep G W ((MapO xh E1 m (zw d L))::(RowE (α:=Cel) own 140 l ((⟨((yh (ty,no) L:Nat):Int),stL d (ty,no) L⟩:Sta).cls))::(Blk X ((⟨((yh (ty,no) L:Nat):Int),stL d (ty,no) L⟩:Sta).cells a).toArray 77)::aa::(RowE own 74 f d.types)::(RowE own 112 g d.projs)::(RowE own 96 h L)::(MapO xZ E2 j (yK L))::(Blk b2 Z.toArray 77)::Rs) Y:=(R.mv3).mapoPut
 have T:Sep _ _ ((ViewO b d L L)::_) _:=ViewO.close (S.s9_defgahbci)
 refine⟨l,rfl,(T.s4_ab)⟩
theorem JK {b:Nat}{d:Dcl}{L:List Ent}(hS0:Sep G W ((ViewO b d L L)::Rs) w):Ret Tryz.prog 19 [.pointer (some ⟨b,0,none⟩)] w (fun r w'=> ∃(v:Value),r=(v:Value)∧Sep G W ((ViewO b d L L)::(RowE (α:=Ent) own 96 v L)::Rs) w'):=by
 refine zi (args:=[Ix b 0]) Tryz.func19 rfl rfl ?_
 refine za (R0 fun _=>st (aS (Iz) (zb (za ?_))))
 obtain⟨g,h,m,D,E,ac⟩:=ViewO.open hS0
 have q:Sep G W ((Blk b #[g,h,m,.map (some D),.map (some E)] 101)::(RowE (α:=Typ) own 74 g d.types)::(RowE (α:=Prj) own 112 h d.projs)::(RowE (α:=Ent) own 96 m L)::(MapO xh E1 D (zw d L))::(MapO xZ E2 E (yK L))::Rs) w:=ac
 have ad:=q.r1
 have hr7s:_*24≤_:=ad.2
 have ae:=q.r2
 have hr8s:_*40≤_:=ae.2
 have af:=q.r3
 have hr9s:_*120≤_:=af.2
 obtain⟨F,R,hB14,H,S⟩:=(q.mv3).lend
 have B:=RowE.rd R
 have hrd17s:_*120≤_:=B.small
 refine R0 fun _=>st (mV (Ix b 0) (st (zo (b:=b) (o:=0) rfl (st (Uj rfl (st (lD m qY rfl (zd (H.b0) rfl) (st (cL Tryz.call57 (QI (l:=L) (vl:=m) B H) ?_)))))))))
 rintro c w19 ⟨_,rfl,I⟩
 have J:=I.r0
 have hr21s:_*120≤_:=J.2
 refine st (aS c (zb (za (za (R0 fun _=>st (mV c (st (zJ (n:=L.length) kR rfl J.1 (st (mV (Iv 0) (zb (zn ?_))))))))))))
 have T:=I.toMix
 refine zZ (fun mq σ wq=> ∃(k:Nat) (ρ:Env),mq=L.length-k∧σ=yd ρ [(0,Ix b 0),(2,(Iz)),(3,c),(11,Iw L.length),(12,Iw k)]∧(k≤L.length)∧Sep F w ((RowE (α:=Bool×Ent) (mix (α:=Ent) F w) 96 c (Zu k L))::(Blk b #[g,h,m,.map (some D),.map (some E)] 101)::(RowE (α:=Typ) own 74 g d.types)::(RowE (α:=Prj) own 112 h d.projs)::(MapO xh E1 D (zw d L))::(MapO xZ E2 E (yK L))::Rs) wq) ⟨0,_,rfl,sSf,Nat.zero_le _,T⟩ ?_
 rintro m24 σ25 ag ⟨k,ρl1,rfl,rfl,hkk,s⟩
 have z:=s.r0
 rw[xV]at z
 refine za (R0 fun _=>st (zC (k:=.i64) (a:=((k:Nat):Int)) (b:=((L.length:Nat):Int)) rfl rfl (zb (za ?_))))
 cases t:decide (((k:Nat):Int)<((L.length:Nat):Int))
 have t:=fD t
 have K:Sep F w ((RowE (α:=Ent) own 96 c L)::(Blk b #[g,h,m,.map (some D),.map (some E)] 101)::(RowE (α:=Typ) own 74 g d.types)::(RowE (α:=Prj) own 112 h d.projs)::(MapO xh E1 D (zw d L))::(MapO xZ E2 E (yK L))::Rs) ag:=s.ofMix om
 have U:=K.r0
 have hr30s:_*120≤_:=U.2
 refine ze rfl (ya (zS (za (R0 fun _=>st (mV c (st (aS c (zb (zk (zG Tryz.results19 (show _=(c:Value)from rfl) ?_))))))))))
 have V:=S _ _ K
 have X:Sep _ _ ((ViewO b d L L)::_) _:=ViewO.close (d:=d) (L:=L) (M:=L) (V.s7_cdeafgb)
 refine⟨c,rfl,X⟩
 have t:=tD t
 refine zg rfl (zl (za (zn (za (R0 fun _=>st (mV (Iw k) (st (aS (Iw k) (zb (R0 fun _=>st (mV c (st (mV (Iw k) (st (mV c (st (mV (Iw k) ?_)))))))))))))))))
 have Y:k<L.length:=bo
 refine st (zj (k:=13) (i:=k) kR oR rfl z.1 rfl Y (st (Yr rfl ?_)))
 have N:k<L.length:=bo
 obtain⟨_,C,x,rfl,p,y⟩:=s.mixAt (i:=0) (j:=k) rfl (Nat.le_refl _) N
 rw[←zB default N]at C p y
 refine st (zh (k:=10) (cs:=[Iv ((L.getD k default).ev.origin),Iv ((L.getD k default).ev.seq),Iv ((L.getD k default).ev.lam),x,Iv ((L.getD k default).ev.typ),Iv ((L.getD k default).ev.agg),Iv ((L.getD k default).ev.field),Iv ((L.getD k default).ev.op),Iv ((L.getD k default).ev.arg),Iv ((L.getD k default).ev.key)]) nT lT rfl rfl (CellsAt.sub C 0 (cs2:=[Iv ((L.getD k default).ev.origin),Iv ((L.getD k default).ev.seq),Iv ((L.getD k default).ev.lam),x,Iv ((L.getD k default).ev.typ),Iv ((L.getD k default).ev.agg),Iv ((L.getD k default).ev.field),Iv ((L.getD k default).ev.op),Iv ((L.getD k default).ev.arg),Iv ((L.getD k default).ev.key)]) rfl) (st (cL pY (XT (e:=((L.getD k default).ev)) p y.ev s) ?_)))
 rintro _ w38 ⟨Q,rfl,O⟩
 have P:=O.r0
 have hr40s:_*8≤_:=P.2
 have Z:k<L.length:=bo
 refine st (zj (k:=13) (i:=k) kR oR rfl z.1 rfl Z (st (Yr rfl ?_)))
 have A:k<L.length:=bo
 refine stn (Xq (α:=Ent) (j:=k) (o:=0) (u:=.agg (((L.getD k default).ev).cells Q).toArray) (us:=((L.getD k default).ev).cells Q) (O.mv1) lT A rfl rfl rfl (Nat.le_of_ble_eq_true rfl) (zX ⟨rfl,rfl,rfl,P.1.one,rfl,rfl,rfl,rfl,rfl,rfl,trivial⟩) (fun w f cs0 hr hN=>(by obtain⟨d,rfl,hd,hok⟩:=hr;rw[zB default A];exact⟨_,rfl,(by rw[←zB default A];exact RowE.soft hN),hok⟩)) ?_)
 intro w42 aa
 refine zb (R0 fun _=>?_)
 have ab:InR ((k+1:Nat):Int):=bo
 refine st (zP (r:=((k+1:Nat):Int)) (k:=.i64) (a:=((k:Nat):Int)) (b:=1) rfl rfl (by rw[show(((k:Nat):Int)+1:Int)=((k+1:Nat):Int)from bo];exact zF ab) (st (mV (Iw (k+1)) (zb ?_))))
 exact⟨_,by omega,k+1,_,rfl,sSf,by omega,aa⟩
theorem D_All {d:Dcl}{dd0:Value}(hdd0:RdS W G dd0 d.types){dd1:Value}(hdd1:RdS W G dd1 d.projs)(od:d.Ok){vl:Value}{l:List Ev}(hl:RdS W G vl l)(hKN:RdS W G (.slice (some ⟨0,0,none⟩) 6 6) kindsL)(hS0:Sep G W Rs w)(hd:DclOk d)(hfew:l.length≤1000000):Ret Tryz.prog 30 [.agg (d.cells dd0 dd1).toArray,vl] w (fun r w'=> ∃(b:Nat),r=(.pointer (some ⟨b,0,none⟩):Value)∧Sep G W ((ViewO b d (zD d l) (zD d l))::Rs) w'):=by
 refine zi Tryz.func30 rfl rfl ?_
 refine za (R0 fun _=>st (zM rfl ?_))
 intro w3 b2 F
 have y:=hS0.new F
 refine st (aS (.pointer none) (zb (za (R0 fun _=>st (zh rR mR rfl rfl (CellsAt.all (y.b0)) (st (cL Tryz.call70 (zdr hdd0 hdd1 od y) ?_)))))))
 rintro _ w6 ⟨g,rfl,H⟩
 refine st (aS (Ix g 0) (zb (za (za (R0 fun _=>st (mV vl (st (zJ qR rfl hl.sl (st (mV (Iv 0) (zb (zn (zZ (fun mq σ I=> ∃k ρ,mq=l.length-k∧σ=yd ρ [(2,Ix b2 0),(5,Ix g 0),(10,vl),(11,Iw l.length),(12,Iw k)]∧(k≤l.length)∧Sep G W ((ViewO g d (zD d (l.take k)) (zD d (l.take k)))::(Blk b2 (d.cells dd0 dd1).toArray 25)::Rs) I) ⟨0,_,rfl,sSf,Nat.zero_le _,H⟩ ?_)))))))))))))
 rintro m9 σ10 w8 ⟨k,ρl1,rfl,rfl,hkk,h⟩
 refine za (R0 fun _=>st (zC rfl rfl (zb (za ?_))))
 cases f:decide (((k:Nat):Int)<((l.length:Nat):Int))
 have f:=fD f
 refine ze rfl (ya (zS (za (R0 fun _=>st (mV (Ix g 0) (st (aS (Ix g 0) (zb (zk (zG Tryz.results30 rfl ?_))))))))))
 have j:=h.s2_a
 have hkn:k=l.length:=by omega
 rw[hkn,List.take_length]at j
 refine⟨g,rfl,j⟩
 have f:=tD f
 refine zg rfl (zl (za (zn (za (R0 fun _=>?_)))))
 have z:k<l.length:=bo
 refine st (zj qR lT rfl hl.sl rfl z ?_)
 have m:k<l.length:=bo
 obtain⟨u,c,o⟩:=hl.evD m
 have x:=h.cells u (hl.foot (ne_of_lt m))
 refine st (zh nT lT rfl rfl x (st (zq uR ?_)))
 intro w21 b20 A
 have p:=h.new A
 refine stn (zp (v:=.agg ((l.getD k default).cells (zN W (sb vl) (so vl+k*10+3))).toArray) (c':=((l.getD k default).cells (zN W (sb vl) (so vl+k*10+3))).toArray) lT rfl rfl (p.b0) (zX ⟨rfl,rfl,rfl,c.sl.one,rfl,rfl,rfl,rfl,rfl,rfl,trivial⟩) yqc rfl ?_)
 intro w23 B
 have q:=p.pt0 B
 refine zb (R0 fun _=>st (mV (Ix g 0) (st (zh nT lT rfl rfl (CellsAt.all (q.b0)) (st (cL Tryz.call60 (D_Add c o hKN (q.mv1) (hd) ((Inv.run hd _)) ((KZ hfew))) ?_))))))
 rintro _ w28 ⟨v27,rfl,s⟩
 have C:=s.r1
 refine zb (R0 fun _=>?_)
 have D:InR ((k+1:Nat):Int):=bo
 refine st (zP (r:=((k+1:Nat):Int)) (k:=.i64) (a:=((k:Nat):Int)) (b:=1) rfl rfl (by rw[show(((k:Nat):Int)+1:Int)=((k+1:Nat):Int)from bo];exact zF D) (st (mV (Iw (k+1)) (zb ?_))))
 have t:=s.s4_ad
 have E:(zD d (l.take (k+1)))=((zD d (l.take k))++[yA d (zD d (l.take k)) (l.getD k default)]):=(Vs om)
 rw[←E]at t
 exact⟨_,by omega,k+1,_,rfl,sSf,by omega,t⟩
end
end Go.Proofs.YtbcdijeggfoabaaGreatDoor
