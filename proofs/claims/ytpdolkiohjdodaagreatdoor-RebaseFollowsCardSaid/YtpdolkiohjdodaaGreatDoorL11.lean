import Derived.Test.YtpdolkiohjdodaaGreatDoorL10
set_option maxRecDepth 8000
set_option maxHeartbeats 4000000
set_option linter.unusedSimpArgs false
set_option linter.unusedVariables false
set_option linter.unusedSectionVars false
set_option linter.deprecated false
open Go.Proofs.Tryz renaming isAgg3→kT,sizeOf105→lT,sizeOf87→mT,results100→nT,sizeOf55→oT,underlying53→pT,sizeOf3→qT,isAgg55→rT,underlying46→sT,isAgg105→tT,sizeOf48→uT,sizeOf83→vT,sizeOf90→wT,results102→kR,sizeOf57→lR,isAgg53→mR,isAgg87→nR,underlying85→oR,results77→pR,underlying42→qR,isAgg22→rR,underlying22→sR,isAgg81→tR,underlying81→uR,isAgg85→vR,results120→wR,results101→kY,zeroValue87→lY,isAgg42→mY,isAgg48→nY,results119→oY,sizeOf53→pY,isAgg83→qY,results50→rY,results145→sY,call138→tY,results55→uY,isAgg90→vY,zeroValue90→wY,isAgg25→kA,sizeOf25→lA,results121→mA,zeroValue105→nA,isAgg4→pA,zeroValue55→qA,isAgg57→rA,zeroValue57→sA,zeroValue48→tA
namespace Go.Proofs.YtpdolkiohjdodaaGreatDoor
variable {G:Nat→Prop}{W w:World}{Rs:List HP}
section
open Go.Proofs Go.RowKit
theorem xn (d:Dcl)(ty f op arg:Int):xm d ty f op arg=if yG d ty f=false then 8 else if op=1 then(if ¬(yj d ty f).kind=1 then 2 else if arg=0 then 1 else 0)else if op=2 then(if ¬(yj d ty f).kind=2 then 2 else 0)
 else if op=3∨op=4 then(if ¬(yj d ty f).kind=3 then 2 else 0)else if op=5 then(if ¬(yj d ty f).kind=4 then 2 else if arg<0∨((yj d ty f).moves.length:Int)≤arg then 1 else 0)else 2:=by
 unfold xm
 cases hB:yG d ty f
 ·rfl
 ·generalize yj d ty f=F
  by_cases h1:op=1
  ·subst h1
   simp only[show kindsL.getD (1:Int).toNat 0=1 from rfl]
   by_cases h:F.kind=1<;>by_cases h2:arg=0<;>simp[h,h2,eq_comm]
  by_cases h2:op=2
  ·subst h2
   simp only[show kindsL.getD (2:Int).toNat 0=2 from rfl]
   by_cases h:F.kind=2<;>simp[h,eq_comm]
  by_cases h3:op=3
  ·subst h3
   simp only[show kindsL.getD (3:Int).toNat 0=3 from rfl]
   by_cases h:F.kind=3<;>simp[h,eq_comm]
  by_cases h4:op=4
  ·subst h4
   simp only[show kindsL.getD (4:Int).toNat 0=3 from rfl]
   by_cases h:F.kind=3<;>simp[h,eq_comm]
  by_cases h5:op=5
  ·subst h5
   simp only[show kindsL.getD (5:Int).toNat 0=4 from rfl]
   by_cases h:F.kind=4
   ·by_cases h6:arg<0∨(F.moves.length:Int)≤arg
    ·have:(decide (0≤arg)&&decide (arg≤(F.moves.length:Int)-1))=false:=by
      rw[Bool.and_eq_false_iff]
      rcases h6 with h6|h6
      ·exact .inl (decide_eq_false (by omega))
      ·exact .inr (decide_eq_false (by omega))
     rw[this,if_pos h6];simp[h]
    ·have:(decide (0≤arg)&&decide (arg≤(F.moves.length:Int)-1))=true:=by
      rw[decide_eq_true (by omega),decide_eq_true (by omega)];rfl
     rw[this,if_neg h6];simp[h]
   ·simp[h,eq_comm]
  ·have:(decide (1≤op)&&decide (op≤5))=false:=by
    rw[Bool.and_eq_false_iff]
    rcases Int.lt_or_le op 1 with h6|h6
    ·exact .inl (decide_eq_false (by omega))
    ·exact .inr (decide_eq_false (by omega))
   simp[this,h1,h2,h3,h4,h5]
theorem UP {v:List Int}{o:Int}(h: ¬((0≤o∧o<v.length)∧0<v.getD o.toNat 0)):Zi v o=0:=by
 unfold Zi;split
 ·rfl
 ·omega
theorem KH {v:List Int}{o:Int}(h:(0≤o∧o<v.length)∧0<v.getD o.toNat 0):Zi v o=v.getD o.toNat 0:=by
 unfold Zi;rw[if_neg (by omega)];omega
theorem YU {f:Fld}{x e:Ev}:xj f x e=if((!xP x e)||(!YA f.kind x.op x.arg e.op e.arg))=true then false else if decide (f.policy=3)=true then decide (e.arg<x.arg)else decide (f.policy=2):=by
 unfold xj
 cases xP x e<;>cases YA f.kind x.op x.arg e.op e.arg<;>simp
 by_cases h:f.policy=3
 ·simp[h]
 ·simp[h]
theorem XW {a b:Ev}:xP a b=if(decide (a.origin=b.origin)&&decide (a.seq=b.seq))=true then false else((!ZO a b)&&(!ZO b a)):=by
 unfold xP
 by_cases h:a.origin=b.origin<;>by_cases h2:a.seq=b.seq<;>simp[h,h2]
theorem WC {k oA aA oB aB:Int}:YA k oA aA oB aB=if decide (k=2)=true then((decide (oA=2)&&decide (oB=2))&& !decide (aA=aB))else if decide (k=4)=true then((decide (oA=5)&&decide (oB=5))&& !decide (aA=aB))
 else if(decide (k=3)&&decide (aA=aB))=true then((decide (oA=3)&&decide (oB=4))||(decide (oA=4)&&decide (oB=3)))else false:=by
 unfold YA
 by_cases h2:k=2
 ·subst h2
  by_cases ha:oA=2<;>by_cases hb:oB=2<;>simp[ha,hb]
 by_cases h4:k=4
 ·subst h4
  by_cases ha:oA=5<;>by_cases hb:oB=5<;>simp[ha,hb]
 by_cases h3:k=3
 ·subst h3
  by_cases ha:aA=aB
  ·subst ha;simp
  ·have ha': ¬aB=aA:=fun e=>ha e.symm
   simp[ha,ha']
 ·simp[h2,h3,h4]
theorem zag {vv:Value}{v:List Int}(hv:RdS W G vv v){o:Int}(ho:InR o)(hS0:Sep G W Rs w):Ret Tryz.prog 145 [vv,.int .i64 (o)] w (fun r w'=>r=(.int .i64 (Zi v o):Value)∧(InR (Zi v o))∧Sep G W Rs w'):=by
 refine zk Tryz.func145 rfl rfl ?_
 refine za (R0 fun _=>st (aS (Iv 0) (zb (za (za (zG kr (st (mV (Iv o) (st (xw rfl rfl (st (mV (.bool (decide (0≤o))) (stc (V:=Iv o) rfl rfl (fun C=>?_) ?_)))))))))))))
 exact mV (Iv o) rflB
 refine stc (V:=vv) rfl rfl (fun D=>?_) ?_
 exact mV vv rflB
 refine stc (V:=Iw v.length) rfl rfl (fun t=>?_) ?_
 exact zF pT (ifpC t) hv.sl rflB
 refine stc (V:=.bool (decide (o<((v.length:Nat):Int)))) rfl rfl (fun d=>?_) ?_
 exact zL (ifpC d) (ifpC d) rflB
 refine st (zv rfl (fun hbp=>(ifpC hbp)) (st (mV (.bool ((decide (0≤o))&&(decide (o<((v.length:Nat):Int))))) (stc (V:=vv) rfl rfl (fun E=>?_) ?_))))
 have u:=E
 try simp only[zh]at u
 exact mV vv rflB
 refine stc (V:=Iv o) rfl rfl (fun x=>?_) ?_
 have y:=x
 try simp only[zh]at y
 exact mV (Iv o) rflB
 refine stc (V:=Ix (sb vv) (so vv+o.toNat*1)) rfl rfl (fun c=>?_) ?_
 have z:=c
 try simp only[zh]at z
 exact zx pT qT (ifpC c) hv.sl (ifpC c) ⟨by omega,by omega⟩ rflB
 refine stc (V:=Iv ((v.getD o.toNat 0))) rfl rfl (fun e=>?_) ?_
 have A:=e
 try simp only[zh]at A
 have f:o.toNat<v.length:=bo
 obtain⟨m,hxe18⟩:=hv.intD f
 have p:=hS0.cells m (hv.foot (ne_of_lt f))
 exact lD (Iv ((v.getD o.toNat 0))) kT (ifpC e) (p.get (j:=0) rfl) rflB
 refine stc (V:=.bool (decide (0<(v.getD o.toNat 0)))) rfl rfl (fun g=>?_) ?_
 have B:=g
 try simp only[zh]at B
 exact xi (k:=.i64) (a:=(v.getD o.toNat 0)) (b:=0) (ifpC g) rfl rflB
 refine st (zv rfl (fun hbp=>(ifpC hbp)) (zb ?_))
 cases h:((decide (0≤o))&&(decide (o<((v.length:Nat):Int))))&&(decide (0<(v.getD o.toNat 0)))
 try simp only[zh]at h
 refine ze rfl (zr (za (R0 fun _=>st (aS (Iv 0) (zb (zp (zU sY (show _=(Iv 0:Value)from rfl) ?_)))))))
 refine⟨?_,?_,hS0⟩
 congr 1;exact(UP om).symm
 rw[UP (by omega)];decide
 try simp only[zh]at h
 refine zf rfl (za (R0 fun _=>st (mV vv (st (mV (Iv o) ?_)))))
 refine st (zx pT qT rfl hv.sl rfl ⟨by omega,by omega⟩ ?_)
 have l:o.toNat<v.length:=bo
 obtain⟨q,hxe25⟩:=hv.intD l
 have s:=hS0.cells q (hv.foot (ne_of_lt l))
 refine st (lD (Iv ((v.getD o.toNat 0))) kT rfl (s.get (j:=0) rfl) (st (aS (Iv ((v.getD o.toNat 0))) (zb (zp (zU sY (show _=(Iv ((v.getD o.toNat 0)):Value)from rfl) ?_))))))
 refine⟨?_,?_,hS0⟩
 congr 1;exact(KH om).symm
 rw[KH (by omega)];assumption
theorem Wk {a:Ev}{da0:Value}(hda0:RdS W G da0 a.deps)(oa:a.Ok){b:Ev}{db0:Value}(hdb0:RdS W G db0 b.deps)(ob:b.Ok)(hS0:Sep G W Rs w):Ret Tryz.prog 138 [.agg (a.cells da0).toArray,.agg (b.cells db0).toArray] w (fun r w'=>r=(.bool ((ZO a b)):Value)∧Sep G W Rs w'):=by
 refine zk Tryz.func138 rfl rfl ?_
 refine za (R0 fun _=>st (zW rfl ?_))
 intro w3 b2 L
 refine st (zW rfl ?_)
 intro w7 D M
 refine st (aS (.bool false) (zb (za ?_)))
 refine WD4 ((fun TT C=>WF [fun vals E=>Sep G W (C::TT) E,fun vals E=>(vals 5=(Iv (Zi b.deps a.origin):Value))∧(InR (Zi b.deps a.origin))∧Sep G W (C::TT) E]) ((Blk b2 (a.cells da0).toArray 55)::Rs) (Blk D (b.cells db0).toArray 55)) (AF [Vl 0 (Ix D 3),Vl 1 db0,Vl 2 (Ix b2 0),Vl 3 (Ix b2 0),Vl 4 (Iv (a.origin)),fun _=>True,Vl 6 (Ix b2 0),Vl 7 (Ix b2 1),Vl 8 (Iv (a.seq)),Vl 9 (.bool (decide (a.seq≤(Zi b.deps a.origin)))),Vl 10 (.bool (decide (a.seq≤(Zi b.deps a.origin))))]) [[],[0],[],[2],[2,3],(rg 5),[],[6],[6,7],(rg 9),(rg 10)] [5] [(0,0),(0,0),(0,0),(0,0),(0,0),(0,0),(0,1),(0,1),(0,1),(1,1),(1,1)] ((hS0.new L).new M) ⟨fun _ _ _ _ _ _ _=>obl rfl (xQ rfl dR),ob1 0 fun _ _ (j:Sep _ _ _ _) l=>obl rfl (lD db0 mR (l 0 dc) (zd (j.b0) rfl) dR),fun _ _ _ _ _ _ _=>obl rfl (xc rfl dR),fun _ _ _ _ _ _ m=>obl rfl (Xo (m 2 dc) dR),ob1 0 fun _ _ (n:Sep _ _ _ _) p=>obl rfl (lD (Iv (a.origin)) kT (p 3 dc) (zd (n.b1) rfl) dR),?_,fun _ _ _ _ _ _ _=>obl rfl (xc rfl dR),fun _ _ _ _ _ _ q=>obl rfl (XN (q 6 dc) dR),?_,?_,fun _ _ _ _ _ _ s=>obl rfl (zM (s 9 dc) dR),zl⟩ ?_
 refine ob1 0 fun vals _ (F:Sep _ _ _ _) i=>(obl rfl ((zV (vals:=[db0,Iv (a.origin)]) rfl (yM ⟨(i 1 dc),(i 4 dc),zl⟩) Tryz.call145 (zag hdb0 oa.origin F) ?_)))
 rintro _ w54 ⟨rfl,c,H⟩
 exact fun vals' N hv'=>⟨(zA N (zA c H)),zl⟩
 refine fun d _ _ I J g h=>?_
 have hkk:=xE I J
 rcases hkk with rfl|rfl
 have t:=g
 exact obl rfl (lD (Iv (a.seq)) kT (h 7 dc) (zd (t.b1) rfl) dR)
 obtain⟨e,c,u⟩:=g
 exact obl rfl (lD (Iv (a.seq)) kT (h 7 dc) (zd (u.b1) rfl) dR)
 refine ob1 1 fun _ _ x y=>?_
 obtain⟨e,c,hS157⟩:=x
 exact obl rfl (xw e (y 8 dc) dR)
 intro vals w166 z A
 obtain⟨e,c,B⟩:=z
 have K:=A 10 dc
 refine yi (kv:=[(0,.agg (a.cells da0).toArray),(1,.agg (b.cells db0).toArray),(2,Ix b2 0),(3,Ix D 0),(4,.bool (decide (a.seq≤(Zi b.deps a.origin))))]) ⟨rfl,rfl,rfl,rfl,(by exact K),zl⟩ (fun ρw166=>(zb (zp (zU Tryz.results138 (show _=(.bool (decide (a.seq≤(Zi b.deps a.origin))):Value)from rfl) ?_))))
 refine⟨rfl,(B.s2_)⟩
theorem QF {a:Ev}{da0:Value}(hda0:RdS W G da0 a.deps)(oa:a.Ok){b:Ev}{db0:Value}(hdb0:RdS W G db0 b.deps)(ob:b.Ok)(hS0:Sep G W Rs w):Ret Tryz.prog 119 [.agg (a.cells da0).toArray,.agg (b.cells db0).toArray] w (fun r w'=>r=(.bool ((xP a b)):Value)∧Sep G W Rs w'):=by
 refine zk Tryz.func119 rfl rfl ?_
 refine za (R0 fun _=>st (zW rfl ?_))
 intro w3 b2 x
 refine st (zW rfl ?_)
 intro w7 y z
 have e:=(hS0.new x).new z
 refine st (aS (.bool false) (zb (za (za (zG kr (st (xc rfl (st (Xo rfl (st (lD (Iv (a.origin)) kT rfl (zd (e.b1) rfl) (st (xc rfl (st (Xo rfl (st (lD (Iv (b.origin)) kT rfl (zd (e.b0) rfl) (st (zQ rfl rfl (st (mV (.bool (decide (a.origin=b.origin))) (stc (V:=Ix b2 0) rfl rfl (fun A=>?_) ?_))))))))))))))))))))))
 exact xc rfl rflB
 refine stc (V:=Ix b2 1) rfl rfl (fun j=>?_) ?_
 exact XN (ifpC j) rflB
 refine stc (V:=Iv (a.seq)) rfl rfl (fun l=>?_) ?_
 exact lD (Iv (a.seq)) kT (ifpC l) (zd (e.b1) rfl) rflB
 refine stc (V:=Ix y 0) rfl rfl (fun o=>?_) ?_
 exact xc rfl rflB
 refine stc (V:=Ix y 1) rfl rfl (fun m=>?_) ?_
 exact XN (ifpC m) rflB
 refine stc (V:=Iv (b.seq)) rfl rfl (fun n=>?_) ?_
 exact lD (Iv (b.seq)) kT (ifpC n) (zd (e.b0) rfl) rflB
 refine stc (V:=.bool (decide (a.seq=b.seq))) rfl rfl (fun i=>?_) ?_
 exact zQ (ifpC i) (ifpC i) rflB
 refine st (zv rfl (fun hbp=>(ifpC hbp)) (zb ?_))
 cases f:(decide (a.origin=b.origin))&&(decide (a.seq=b.seq))
 have c:=f
 try simp only[zh]at f
 refine ze rfl (zr (za (zG kr (st (zi rT oT rfl rfl (zo (e.b1)) (st (zi rT oT rfl rfl (zo (e.b0)) (st (cL tY (Wk hda0 oa hdb0 ob e) ?_)))))))))
 rintro _ w24 ⟨rfl,g⟩
 refine st (yH rfl (st (mV (.bool (!(ZO a b))) (stc (V:=.agg (b.cells db0).toArray) rfl rfl (fun p=>?_) ?_))))
 have q:=p
 try simp only[zh]at q
 exact zi rT oT rfl rfl (zo (g.b0)) rflB
 refine stc (V:=.agg (a.cells da0).toArray) rfl rfl (fun s=>?_) ?_
 have t:=s
 try simp only[zh]at t
 exact zi rT oT rfl rfl (zo (g.b1)) rflB
 cases h: !(ZO a b)
 have d:=h
 try simp only[zh]at h
 refine stx rfl rfl (stx rfl rfl (st (yw rfl rfl (st (aS (.bool false) (zb (zp (zU oY (show _=(.bool false:Value)from rfl) ?_))))))))
 refine⟨?_,(g.s2_)⟩
 rw[XW]
 ·first|rfl|(simp only[c,d,xM,↓reduceIte];done)|(simp only[c,d,xM,↓reduceIte];rfl)
 have d:=h
 try simp only[zh]at h
 refine sty rfl rfl (cL tY (Wk hdb0 ob hda0 oa g) ?_)
 rintro _ w32 ⟨rfl,u⟩
 refine sty rfl rfl (yH rfl (st (yE rfl rfl (st (aS (.bool (!(ZO b a))) (zb (zp (zU oY (show _=(.bool (!(ZO b a)):Value)from rfl) ?_))))))))
 refine⟨?_,(u.s2_)⟩
 rw[XW]
 ·first|rfl|(simp only[c,d,xM,↓reduceIte];done)|(simp only[c,d,xM,↓reduceIte];rfl)
 have c:=f
 try simp only[zh]at f
 refine zf rfl (za (R0 fun _=>st (aS (.bool false) (zb (zp (zU oY (show _=(.bool false:Value)from rfl) ?_))))))
 refine⟨?_,(e.s2_)⟩
 rw[XW]
 ·first|rfl|(simp only[c,xM,↓reduceIte];done)|(simp only[c,xM,↓reduceIte];rfl)
theorem Ug {f:Fld}{df0:Value}(hdf0:RdS W G df0 f.moves)(of:f.Ok){oA:Int}(hoA:InR oA){aA:Int}(haA:InR aA){oB:Int}(hoB:InR oB){aB:Int}(haB:InR aB)(hS0:Sep G W Rs w):Ret Tryz.prog 120 [.agg (f.cells df0).toArray,.int .i64 (oA),.int .i64 (aA),.int .i64 (oB),.int .i64 (aB)] w (fun r w'=>r=(.bool ((YA f.kind oA aA oB aB)):Value)∧Sep G W Rs w'):=by
 refine zk Tryz.func120 rfl rfl ?_
 refine za (R0 fun _=>st (zW rfl ?_))
 intro w3 b2 U
 have g:=hS0.new U
 refine st (aS (.bool false) (zb (za (za (R0 fun _=>st (xD rfl (st (lD (Iv (f.kind)) kT rfl (zd (g.b0) rfl) (st (zQ rfl rfl (zb ?_)))))))))))
 cases h:decide (f.kind=2)
 have c:=h
 have h:=fD h
 refine ze rfl (zr (za (za (R0 fun _=>st (xD rfl (st (lD (Iv (f.kind)) kT rfl (zd (g.b0) rfl) (st (zQ rfl rfl (zb ?_))))))))))
 cases i:decide (f.kind=4)
 have d:=i
 have i:=fD i
 refine ze rfl (zr (za (za (zG kr (st (xD rfl (st (lD (Iv (f.kind)) kT rfl (zd (g.b0) rfl) (st (zQ rfl rfl (st (mV (.bool (decide (f.kind=3))) (stc (V:=Iv aA) rfl rfl (fun X=>?_) ?_)))))))))))))
 exact mV (Iv aA) rflB
 refine stc (V:=Iv aB) rfl rfl (fun Y=>?_) ?_
 exact mV (Iv aB) rflB
 refine stc (V:=.bool (decide (aA=aB))) rfl rfl (fun m=>?_) ?_
 exact zQ (ifpC m) (ifpC m) rflB
 refine st (zv rfl (fun hbp=>(ifpC hbp)) (zb ?_))
 cases j:(decide (f.kind=3))&&(decide (aA=aB))
 have e:=j
 try simp only[zh]at j
 refine ze rfl (zr (za (R0 fun _=>st (aS (.bool false) (zb (zp (zU wR (show _=(.bool false:Value)from rfl) ?_)))))))
 refine⟨?_,(g.s1_)⟩
 rw[WC]
 ·first|rfl|(simp only[c,d,e,xM,↓reduceIte];done)|(simp only[c,d,e,xM,↓reduceIte];rfl)
 have e:=j
 try simp only[zh]at j
 refine zf rfl (za (zG kr (st (mV (Iv oA) (st (zQ rfl rfl (st (mV (.bool (decide (oA=3))) (stc (V:=Iv oB) rfl rfl (fun z=>?_) ?_)))))))))
 exact mV (Iv oB) rflB
 refine stc (V:=.bool (decide (oB=4))) rfl rfl (fun q=>?_) ?_
 exact zQ (ifpC q) rfl rflB
 refine st (zv rfl (fun hbp=>(ifpC hbp)) (st (mV (.bool ((decide (oA=3))&&(decide (oB=4)))) (stc (V:=Iv oA) rfl rfl (fun A=>?_) ?_))))
 have B:=A
 try simp only[zh]at B
 exact mV (Iv oA) rflB
 refine stc (V:=.bool (decide (oA=4))) rfl rfl (fun s=>?_) ?_
 have C:=s
 try simp only[zh]at C
 exact zQ (ifpC s) rfl rflB
 refine stc (V:=.bool (decide (oA=4))) rfl rfl (fun t=>?_) ?_
 have D:=t
 try simp only[zh]at D
 exact zN (ifpC t) rflB
 refine yY (V:=Iv oB) rfl rfl (fun u=>?_) ?_
 have E:=u.1
 try simp only[zh]at E
 exact mV (Iv oB) rflB
 refine yY (V:=.bool (decide (oB=3))) rfl rfl (fun l=>?_) ?_
 have F:=l.1
 try simp only[zh]at F
 exact zQ (ifpC ⟨l.1,l.2⟩) rfl rflB
 refine stc (V:=.bool ((decide (oA=4))&&(decide (oB=3)))) rfl rfl (fun n=>?_) ?_
 have H:=n
 try simp only[zh]at H
 exact zv (ifpC n) (fun hbp=>(ifpC ⟨n,hbp⟩)) rflB
 refine st (zC rfl (fun hbp=>(ifpC hbp)) (st (aS (.bool (((decide (oA=3))&&(decide (oB=4)))||((decide (oA=4))&&(decide (oB=3))))) (zb (zp (zU wR (show _=(.bool (((decide (oA=3))&&(decide (oB=4)))||((decide (oA=4))&&(decide (oB=3)))):Value)from rfl) ?_))))))
 refine⟨?_,(g.s1_)⟩
 rw[WC]
 ·first|rfl|(simp only[c,d,e,xM,↓reduceIte];done)|(simp only[c,d,e,xM,↓reduceIte];rfl)
 have d:=i
 have i:=tD i
 refine zf rfl (za (zG kr (st (mV (Iv oA) (st (zQ rfl rfl (st (mV (.bool (decide (oA=5))) (stc (V:=Iv oB) rfl rfl (fun I=>?_) ?_)))))))))
 exact mV (Iv oB) rflB
 refine stc (V:=.bool (decide (oB=5))) rfl rfl (fun x=>?_) ?_
 exact zQ (ifpC x) rfl rflB
 refine st (zv rfl (fun hbp=>(ifpC hbp)) (st (mV (.bool ((decide (oA=5))&&(decide (oB=5)))) (stc (V:=Iv aA) rfl rfl (fun J=>?_) ?_))))
 have K:=J
 try simp only[zh]at K
 exact mV (Iv aA) rflB
 refine stc (V:=Iv aB) rfl rfl (fun L=>?_) ?_
 have M:=L
 try simp only[zh]at M
 exact mV (Iv aB) rflB
 refine stc (V:=.bool (!decide (aA=aB))) rfl rfl (fun o=>?_) ?_
 have N:=o
 try simp only[zh]at N
 exact yx (ifpC o) (ifpC o) rflB
 refine st (zv rfl (fun hbp=>(ifpC hbp)) (st (aS (.bool (((decide (oA=5))&&(decide (oB=5)))&&(!decide (aA=aB)))) (zb (zp (zU wR (show _=(.bool (((decide (oA=5))&&(decide (oB=5)))&&(!decide (aA=aB))):Value)from rfl) ?_))))))
 refine⟨?_,(g.s1_)⟩
 rw[WC]
 ·first|rfl|(simp only[c,d,xM,↓reduceIte];done)|(simp only[c,d,xM,↓reduceIte];rfl)
 have c:=h
 have h:=tD h
 refine zf rfl (za (zG kr (st (mV (Iv oA) (st (zQ rfl rfl (st (mV (.bool (decide (oA=2))) (stc (V:=Iv oB) rfl rfl (fun O=>?_) ?_)))))))))
 exact mV (Iv oB) rflB
 refine stc (V:=.bool (decide (oB=2))) rfl rfl (fun y=>?_) ?_
 exact zQ (ifpC y) rfl rflB
 refine st (zv rfl (fun hbp=>(ifpC hbp)) (st (mV (.bool ((decide (oA=2))&&(decide (oB=2)))) (stc (V:=Iv aA) rfl rfl (fun P=>?_) ?_))))
 have Q:=P
 try simp only[zh]at Q
 exact mV (Iv aA) rflB
 refine stc (V:=Iv aB) rfl rfl (fun R=>?_) ?_
 have S:=R
 try simp only[zh]at S
 exact mV (Iv aB) rflB
 refine stc (V:=.bool (!decide (aA=aB))) rfl rfl (fun p=>?_) ?_
 have T:=p
 try simp only[zh]at T
 exact yx (ifpC p) (ifpC p) rflB
 refine st (zv rfl (fun hbp=>(ifpC hbp)) (st (aS (.bool (((decide (oA=2))&&(decide (oB=2)))&&(!decide (aA=aB)))) (zb (zp (zU wR (show _=(.bool (((decide (oA=2))&&(decide (oB=2)))&&(!decide (aA=aB))):Value)from rfl) ?_))))))
 refine⟨?_,(g.s1_)⟩
 rw[WC]
 ·first|rfl|(simp only[c,xM,↓reduceIte];done)|(simp only[c,xM,↓reduceIte];rfl)
theorem QO {f:Fld}{df0:Value}(hdf0:RdS W G df0 f.moves)(of:f.Ok){x:Ev}{dx0:Value}(hdx0:RdS W G dx0 x.deps)(ox:x.Ok){e:Ev}{de0:Value}(hde0:RdS W G de0 e.deps)(oe:e.Ok)(hS0:Sep G W Rs w):Ret Tryz.prog 101 [.agg (f.cells df0).toArray,.agg (x.cells dx0).toArray,.agg (e.cells de0).toArray] w (fun r w'=>r=(.bool ((xj f x e)):Value)∧Sep G W Rs w'):=by
 refine zk Tryz.func101 rfl rfl ?_
 refine za (R0 fun _=>st (zW rfl ?_))
 intro w3 b2 M
 refine st (zW rfl ?_)
 intro w7 N O
 refine st (zW rfl ?_)
 intro w11 t P
 have n:=((hS0.new M).new O).new P
 refine st (aS (.bool false) (zb (za (za (zG kr (st (zi rT oT rfl rfl (zo (n.b1)) (st (zi rT oT rfl rfl (zo (n.b0)) (st (cL Tryz.call119 (QF hdx0 ox hde0 oe n) ?_)))))))))))
 rintro _ w13 ⟨rfl,g⟩
 refine st (yH rfl (st (mV (.bool (!(xP x e))) (stc (V:=.agg (f.cells df0).toArray) rfl rfl (fun u=>?_) ?_))))
 have y:=u
 try simp only[zh]at y
 exact zi nR mT rfl rfl (zo (g.b2)) rflB
 refine stc (V:=Ix N 7) rfl rfl (fun z=>?_) ?_
 have A:=z
 try simp only[zh]at A
 exact xZ rfl rflB
 refine stc (V:=Iv (x.op)) rfl rfl (fun o=>?_) ?_
 have B:=o
 try simp only[zh]at B
 exact lD (Iv (x.op)) kT (ifpC o) (zd (g.b1) rfl) rflB
 refine stc (V:=Ix N 8) rfl rfl (fun C=>?_) ?_
 have D:=C
 try simp only[zh]at D
 exact xu rfl rflB
 refine stc (V:=Iv (x.arg)) rfl rfl (fun p=>?_) ?_
 have E:=p
 try simp only[zh]at E
 exact lD (Iv (x.arg)) kT (ifpC p) (zd (g.b1) rfl) rflB
 refine stc (V:=Ix t 7) rfl rfl (fun F=>?_) ?_
 have H:=F
 try simp only[zh]at H
 exact xZ rfl rflB
 refine stc (V:=Iv (e.op)) rfl rfl (fun q=>?_) ?_
 have I:=q
 try simp only[zh]at I
 exact lD (Iv (e.op)) kT (ifpC q) (zd (g.b0) rfl) rflB
 refine stc (V:=Ix t 8) rfl rfl (fun J=>?_) ?_
 have K:=J
 try simp only[zh]at K
 exact xu rfl rflB
 refine stc (V:=Iv (e.arg)) rfl rfl (fun s=>?_) ?_
 have L:=s
 try simp only[zh]at L
 exact lD (Iv (e.arg)) kT (ifpC s) (zd (g.b0) rfl) rflB
 cases l: !(xP x e)
 have c:=l
 try simp only[zh]at l
 refine sty rfl rfl (cL Tryz.call120 (Ug hdf0 of ox.op ox.arg oe.op oe.arg g) ?_)
 rintro _ w34 ⟨rfl,h⟩
 refine sty rfl rfl (yH rfl (st (yw rfl rfl (zb ?_))))
 cases m: !(YA f.kind x.op x.arg e.op e.arg)
 have d:=m
 try simp only[zh]at m
 refine ze rfl (zr (za (za (R0 fun _=>st (Xl rfl (st (lD (Iv (f.policy)) kT rfl (zd (h.b2) rfl) (st (zQ rfl rfl (zb ?_))))))))))
 cases j:decide (f.policy=3)
 have i:=j
 have j:=fD j
 refine ze rfl (zr (za (R0 fun _=>st (Xl rfl (st (lD (Iv (f.policy)) kT rfl (zd (h.b2) rfl) (st (zQ rfl rfl (st (aS (.bool (decide (f.policy=2))) (zb (zp (zU kY (show _=(.bool (decide (f.policy=2)):Value)from rfl) ?_)))))))))))))
 refine⟨?_,(h.s3_)⟩
 rw[YU]
 ·first|rfl|(simp only[c,d,i,xM,↓reduceIte];done)|(simp only[c,d,i,xM,↓reduceIte];rfl)
 have i:=j
 have j:=tD j
 refine zf rfl (za (R0 fun _=>st (xu rfl (st (lD (Iv (x.arg)) kT rfl (zd (h.b1) rfl) (st (xu rfl (st (lD (Iv (e.arg)) kT rfl (zd (h.b0) rfl) (st (xi (k:=.i64) (a:=x.arg) (b:=e.arg) rfl rfl (st (aS (.bool (decide (e.arg<x.arg))) (zb (zp (zU kY (show _=(.bool (decide (e.arg<x.arg)):Value)from rfl) ?_))))))))))))))))
 refine⟨?_,(h.s3_)⟩
 rw[YU]
 ·first|rfl|(simp only[c,d,i,xM,↓reduceIte];done)|(simp only[c,d,i,xM,↓reduceIte];rfl)
 have d:=m
 try simp only[zh]at m
 refine zf rfl (za (R0 fun _=>st (aS (.bool false) (zb (zp (zU kY (show _=(.bool false:Value)from rfl) ?_))))))
 refine⟨?_,(h.s3_)⟩
 rw[YU]
 ·first|rfl|(simp only[c,d,xM,↓reduceIte];done)|(simp only[c,d,xM,↓reduceIte];rfl)
 have c:=l
 try simp only[zh]at l
 refine stx rfl rfl (stx rfl rfl (st (yE rfl rfl (zb (zf rfl (za (R0 fun _=>st (aS (.bool false) (zb (zp (zU kY (show _=(.bool false:Value)from rfl) ?_)))))))))))
 refine⟨?_,(g.s3_)⟩
 rw[YU]
 ·first|rfl|(simp only[c,xM,↓reduceIte];done)|(simp only[c,xM,↓reduceIte];rfl)
theorem QY {d:Dcl}{dd0:Value}(hdd0:RdS W G dd0 d.types){dd1:Value}(hdd1:RdS W G dd1 d.projs)(od:d.Ok){ty:Int}(hty:InR ty){f:Int}(hf:InR f)(hS0:Sep G W Rs w):Ret Tryz.prog 55 [.agg (d.cells dd0 dd1).toArray,.int .i64 (ty),.int .i64 (f)] w (fun r w'=> ∃(v:Value),r=(.tuple #[.agg ((yj d ty f).cells v).toArray,.bool ((yG d ty f))]:Value)∧((yj d ty f).Ok)∧Sep G W ((RowE (α:=Mv) own 90 v ((yj d ty f).moves))::Rs) w'):=by
 let aU:=zP W (sb dd0) (so dd0+ty.toNat*1+0)
 let aV:=zP W (sb aU) (so aU+f.toNat*4+3)
 refine zk Tryz.func55 rfl rfl ?_
 refine za (R0 fun _=>st (zW rfl ?_))
 intro w3 b2 aQ
 refine st (zB lY ?_)
 intro w7 U aR
 have l:=(hS0.new aQ).new aR
 refine st (aS (.bool false) (zb (za (za (zG kr (st (mV (Iv ty) (st (zL rfl rfl (st (mV (.bool (decide (ty<0))) (stc (V:=Iv ty) rfl rfl (fun aT=>?_) ?_))))))))))))
 exact mV (Iv ty) rflB
 refine stc (V:=Ix b2 0) rfl rfl (fun an=>?_) ?_
 exact yD rfl rflB
 refine stc (V:=dd0) rfl rfl (fun B=>?_) ?_
 exact lD dd0 rR (ifpC B) (zd (l.b1) rfl) rflB
 refine stc (V:=Iw d.types.length) rfl rfl (fun C=>?_) ?_
 exact zF sR (ifpC C) hdd0.sl rflB
 refine stc (V:=.bool (decide (((d.types.length:Nat):Int)≤ty))) rfl rfl (fun q=>?_) ?_
 exact xw (ifpC q) (ifpC q) rflB
 refine st (zC rfl (fun hbp=>(ifpC hbp)) (st (mV (.bool ((decide (ty<0))||(decide (((d.types.length:Nat):Int)≤ty)))) (stc (V:=Iv f) rfl rfl (fun ao=>?_) ?_))))
 have ap:=ao
 try simp only[zh]at ap
 exact mV (Iv f) rflB
 refine stc (V:=.bool (decide (f<0))) rfl rfl (fun D=>?_) ?_
 have aq:=D
 try simp only[zh]at aq
 exact zL (ifpC D) rfl rflB
 refine st (zC rfl (fun hbp=>(ifpC hbp)) (st (mV (.bool (((decide (ty<0))||(decide (((d.types.length:Nat):Int)≤ty)))||(decide (f<0)))) (stc (V:=Iv f) rfl rfl (fun ar=>?_) ?_))))
 have au:=ar
 try simp only[zh]at au
 exact mV (Iv f) rflB
 refine stc (V:=Ix b2 0) rfl rfl (fun av=>?_) ?_
 have aw:=av
 try simp only[zh]at aw
 exact yD rfl rflB
 refine stc (V:=dd0) rfl rfl (fun E=>?_) ?_
 have ax:=E
 try simp only[zh]at ax
 exact lD dd0 rR (ifpC E) (zd (l.b1) rfl) rflB
 refine stc (V:=Iv ty) rfl rfl (fun ay=>?_) ?_
 have az:=ay
 try simp only[zh]at az
 exact mV (Iv ty) rflB
 refine stc (V:=Ix (sb dd0) (so dd0+ty.toNat*1)) rfl rfl (fun s=>?_) ?_
 have aA:=s
 try simp only[zh]at aA
 exact zx sR vT (ifpC s) hdd0.sl (ifpC s) ⟨by omega,by omega⟩ rflB
 refine stc (V:=Ix (sb dd0) (so dd0+ty.toNat*1)) rfl rfl (fun F=>?_) ?_
 have aB:=F
 try simp only[zh]at aB
 exact yT (ifpC F) rflB
 refine stc (V:=aU) rfl rfl (fun H=>?_) ?_
 have aC:=H
 try simp only[zh]at aC
 have I:ty.toNat<d.types.length:=bo
 obtain⟨X,A,hoke38⟩:=hdd0.typD I
 have Y:=l.cells X (hdd0.foot (ne_of_lt I))
 exact lD aU tR (ifpC H) (Y.get (j:=0) rfl) rflB
 refine stc (V:=Iw (((d.types.getD ty.toNat default).fields).length)) rfl rfl (fun J=>?_) ?_
 have aD:=J
 try simp only[zh]at aD
 have K:ty.toNat<d.types.length:=bo
 obtain⟨Z,m,hoke44⟩:=hdd0.typD K
 exact zF uR (ifpC J) m.sl rflB
 refine stc (V:=.bool (decide (((((d.types.getD ty.toNat default).fields).length:Nat):Int)≤f))) rfl rfl (fun t=>?_) ?_
 have aE:=t
 try simp only[zh]at aE
 exact xw (ifpC t) (ifpC t) rflB
 refine st (zC rfl (fun hbp=>(ifpC hbp)) (zb ?_))
 cases L:(((decide (ty<0))||(decide (((d.types.length:Nat):Int)≤ty)))||(decide (f<0)))||(decide (((((d.types.getD ty.toNat default).fields).length:Nat):Int)≤f))
 try simp only[zh]at L
 refine ze rfl (zr (za (R0 fun _=>st (yD rfl (st (lD dd0 rR rfl (zd (l.b1) rfl) (st (mV (Iv ty) ?_))))))))
 refine st (zx sR vT rfl hdd0.sl rfl ⟨by omega,by omega⟩ (st (yT rfl ?_)))
 have M:ty.toNat<d.types.length:=bo
 obtain⟨aa,h,hoke52⟩:=hdd0.typD M
 have hsm54:((d.types.getD ty.toNat default).fields).length*48≤140737488355328:=h.small
 have ab:=l.cells aa (hdd0.foot (ne_of_lt M))
 refine st (lD aU tR rfl (ab.get (j:=0) rfl) (st (mV (Iv f) ?_)))
 have hi56:f.toNat<((d.types.getD ty.toNat default).fields).length:=bo
 refine st (zx uR mT rfl h.sl rfl ⟨by omega,by omega⟩ ?_)
 have N:f.toNat<((d.types.getD ty.toNat default).fields).length:=bo
 obtain⟨ac,e,p⟩:=h.fldD N
 have hsm59:((((d.types.getD ty.toNat default).fields).getD f.toNat default).moves).length*32≤140737488355328:=e.small
 have ad:=l.cells ac (h.foot (ne_of_lt N))
 refine st (zi nR mT rfl rfl ad (st (zB lY ?_)))
 intro w63 al aF
 have O:=l.new aF
 refine stn (zw (v:=.agg ((((d.types.getD ty.toNat default).fields).getD f.toNat default).cells aV).toArray) mT rfl rfl (O.b0) (yo ⟨rfl,rfl,rfl,e.sl.one,zl⟩) yqc rfl ?_)
 intro w65 aG
 refine zb (za (R0 fun _=>st (aS Iz (zb (za (za (R0 fun _=>st (aS (Iv 0) (zb (zu ?_))))))))))
 have aH:Sep _ _ ((RowE (α:=Mv) own 90 Iz [])::_) _:=(O.pt0 aG).rowNil own 90
 refine yd (fun mq σ wq=> ∃k vm ρ,mq=((d.types.getD ty.toNat default).fields.getD f.toNat default).moves.length-k∧σ=yg ρ [(3,Ix b2 0),(6,Ix U 0),(8,Ix al 0),(10,Iw k),(9,vm)]∧(k≤((d.types.getD ty.toNat default).fields.getD f.toNat default).moves.length)∧Sep G W ((RowE own 90 vm (((d.types.getD ty.toNat default).fields.getD f.toNat default).moves.take k))::(Blk al ((((d.types.getD ty.toNat default).fields).getD f.toNat default).cells (zP W (sb (zP W (sb dd0) (so dd0+ty.toNat*1+0))) (so (zP W (sb dd0) (so dd0+ty.toNat*1+0))+f.toNat*4+3))).toArray 87)::(Blk U #[Iv 0,Iv 0,.bool false,(Iz)] 87)::(Blk b2 (d.cells dd0 dd1).toArray 25)::Rs) wq) ⟨0,(Iz),_,rfl,sSf,yc _,aH⟩ ?_
 rintro m70 σ71 w69 ⟨k,vm,ρl1,rfl,rfl,hkk,g⟩
 have aI:=g.r0
 have hr73s:_*32≤_:=aI.2
 refine za (za (R0 fun _=>st (mV (Iw k) (st (yS rfl (st (lD aV vR rfl (zd (g.b1) rfl) (st (zF oR rfl e.sl (st (zL rfl rfl (zb ?_))))))))))))
 cases o:decide (((k:Nat):Int)<((((((d.types.getD ty.toNat default).fields).getD f.toNat default).moves).length:Nat):Int))
 have o:=fD o
 have hkn:k=((d.types.getD ty.toNat default).fields.getD f.toNat default).moves.length:=by omega
 rw[hkn,List.take_of_length_le (Nat.le_refl ((d.types.getD ty.toNat default).fields.getD f.toNat default).moves.length)]at g
 have u:=g.r0
 have hr75s:_*32≤_:=u.2
 refine ze rfl (ye (zT (za (R0 fun _=>st (mV vm (st (yS rfl (stn (ym (v:=vm) Tryz.sizeOf85 rfl rfl (g.b1) u.1.one rfl rfl ?_)))))))))
 intro w76 aJ
 have aK:Fld.Ok (⟨(((d.types.getD ty.toNat default).fields).getD f.toNat default).kind,(((d.types.getD ty.toNat default).fields).getD f.toNat default).policy,(((d.types.getD ty.toNat default).fields).getD f.toNat default).floor,((d.types.getD ty.toNat default).fields.getD f.toNat default).moves⟩:Fld):=⟨(show InR ((((d.types.getD ty.toNat default).fields).getD f.toNat default).kind)from p.kind),(show InR ((((d.types.getD ty.toNat default).fields).getD f.toNat default).policy)from p.policy)⟩
 have x:=g.pt1 aJ
 refine zb (za (R0 fun _=>st (zi nR mT rfl rfl (zo (x.b1)) (stn (zw (v:=.agg ((⟨(((d.types.getD ty.toNat default).fields).getD f.toNat default).kind,(((d.types.getD ty.toNat default).fields).getD f.toNat default).policy,(((d.types.getD ty.toNat default).fields).getD f.toNat default).floor,((d.types.getD ty.toNat default).fields.getD f.toNat default).moves⟩:Fld).cells vm).toArray) mT rfl rfl (x.b2) (yo ⟨rfl,rfl,rfl,u.1.one,zl⟩) yqc rfl ?_)))))
 intro w80 aL
 have P:=x.pt2 aL
 refine st (aS (.bool true) (zb (zp (ZT uY nR mT rfl rfl (zo (P.b2)) (show _=(.bool true:Value)from rfl) ?_))))
 have Q:yG d ty f=true:=by unfold yG;simp only[Bool.and_eq_true,decide_eq_true_eq];omega
 have hz:yj d ty f=(⟨(((d.types.getD ty.toNat default).fields).getD f.toNat default).kind,(((d.types.getD ty.toNat default).fields).getD f.toNat default).policy,(((d.types.getD ty.toNat default).fields).getD f.toNat default).floor,((d.types.getD ty.toNat default).fields.getD f.toNat default).moves⟩:Fld):=by unfold yj;rw[Q];rfl
 rw[hz,Q]
 refine⟨vm,rfl,?_,(P.s4_a)⟩
 exact aK
 have o:=tD o
 refine zf rfl (zr (za (zu (R0 fun _=>st (mV vm (st (yS rfl (st (lD aV vR rfl (zd (g.b1) rfl) (st (mV (Iw k) ?_)))))))))))
 have aM:k<((((d.types.getD ty.toNat default).fields).getD f.toNat default).moves).length:=bo
 refine st (zg (k:=4) oR wT rfl e.sl rfl aM ?_)
 have R:k<((((d.types.getD ty.toNat default).fields).getD f.toNat default).moves).length:=bo
 obtain⟨ae,S⟩:=e.mvD R
 have af:=g.cells ae (e.foot (ne_of_lt R))
 refine st (zi vY wT rfl rfl af (st (zD (c:=((((((d.types.getD ty.toNat default).fields).getD f.toNat default).moves).getD k default).cells).toArray) oR wT wY dc rfl kr ?_)))
 intro w90 b89 aN
 have T:=g.new aN
 have ag:=T.b0
 refine st (yq (src:=own) (bytes:=32) (x1:=(((((d.types.getD ty.toNat default).fields).getD f.toNat default).moves).getD k default)) ((T.s5_bcde).emp1) zbL rfl rfl ag (fun _ _ _=>(show _ from⟨rfl,S⟩)) yqb rfl ?_)
 intro am w92 y
 have aO:=y.r0
 have hr98s:_*32≤_:=aO.2
 refine st (aS am (zb (R0 fun _=>st (mV (Iw k) ?_))))
 have aP:InR ((k+1:Nat):Int):=bo
 refine st (zR (r:=((k+1:Nat):Int)) rfl rfl (by rw[show(((k:Nat):Int)+1:Int)=((k+1:Nat):Int)from bo];exact zz aP) (st (aS (Iw (k+1)) (zb ?_))))
 have ah:(((d.types.getD ty.toNat default).fields.getD f.toNat default).moves.take (k+1))=(((d.types.getD ty.toNat default).fields.getD f.toNat default).moves.take k)++[(((((d.types.getD ty.toNat default).fields).getD f.toNat default).moves).getD k default)]:=(List.take_getD om)
 rw[←ah]at y
 exact⟨_,by omega,k+1,am,_,rfl,sSf,by omega,y⟩
 try simp only[zh]at L
 refine zf rfl (za (R0 fun _=>?_))
 have ai:Fld.Ok (⟨0,0,false,[]⟩:Fld):=⟨(show InR (0)from dc),(show InR (0)from dc)⟩
 refine st (zX (v:=.agg ((⟨0,0,false,[]⟩:Fld).cells Iz).toArray) rfl (by simp+zetaDelta [Instr.build,Instr.fill,go_sem,Zc]) (stn (zw (v:=.agg ((⟨0,0,false,[]⟩:Fld).cells Iz).toArray) mT rfl rfl (l.b0) (yo ⟨rfl,rfl,rfl,rfl,zl⟩) yqc rfl ?_)))
 intro w102 aj
 have z:=l.pt0 aj
 refine st (aS (.bool false) (zb (zp (ZT uY nR mT rfl rfl (zo (z.b0)) (show _=(.bool false:Value)from rfl) ?_))))
 have ak:Sep _ _ ((RowE (α:=Mv) own 90 Iz [])::_) _:=z.rowNil own 90
 have Q:yG d ty f=false:=by unfold yG;rw[Bool.eq_false_iff];intro h9;simp only[Bool.and_eq_true,decide_eq_true_eq]at h9;omega
 have hz:yj d ty f=(⟨0,0,false,[]⟩:Fld):=by unfold yj;rw[Q];rfl
 rw[hz,Q]
 refine⟨(Iz),rfl,?_,(ak.s3_a)⟩
 exact ai
theorem Jf {d:Dcl}{dd0:Value}(hdd0:RdS W G dd0 d.types){dd1:Value}(hdd1:RdS W G dd1 d.projs)(od:d.Ok){ty:Int}(hty:InR ty){f:Int}(hf:InR f){op:Int}(hop:InR op){arg:Int}(harg:InR arg)(hS0:Sep G W Rs w):Ret Tryz.prog 100 [.agg (d.cells dd0 dd1).toArray,.int .i64 (ty),.int .i64 (f),.int .i64 (op),.int .i64 (arg)] w (fun r w'=>r=(.int .i64 (xm d ty f op arg):Value)∧Sep G W Rs w'):=by
 refine zk Tryz.func100 rfl rfl ?_
 refine za (R0 fun _=>st (zW rfl ?_))
 intro w3 b2 L
 have E:=hS0.new L
 refine st (aS (Iv 0) (zb (za (R0 fun _=>st (zi kA lA rfl rfl (zo (E.b0)) (st (mV (Iv ty) (st (mV (Iv f) (st (cL Tryz.call55 (QY hdd0 hdd1 od hty hf E) ?_)))))))))))
 rintro _ w7 ⟨u,rfl,hfok6,F⟩
 let N:=(yj d ty f).cells u
 have y:=F.r0
 refine st (mV (.tuple #[.agg N.toArray,.bool ((yG d ty f))]) (st (zH rfl rfl (st (zH rfl rfl (st (zB lY ?_)))))))
 intro w12 M H
 have z:=F.new H
 refine stn (zw (v:=.agg N.toArray) mT rfl rfl (z.b0) (yo ⟨rfl,rfl,rfl,y.1.one,zl⟩) yqc rfl ?_)
 intro w14 I
 have c:=z.pt0 I
 refine st (aS (.bool ((yG d ty f))) (zb (za (za (R0 fun _=>st (mV (.bool ((yG d ty f))) (st (yH rfl (zb ?_)))))))))
 cases A: !(yG d ty f)
 try simp only[zh]at A
 refine ze rfl (zr (za (za (R0 fun _=>st (mV (Iv op) (zb (zu (za (R0 fun _=>st (zQ rfl rfl (st (aS (.bool (decide (op=1))) (zb ?_)))))))))))))
 cases e:decide (op=1)
 have e:=fD e
 refine ze rfl (za (R0 fun _=>st (zQ rfl rfl (st (aS (.bool (decide (op=2))) (zb ?_))))))
 cases g:decide (op=2)
 have g:=fD g
 refine ze rfl (za (za (R0 fun _=>st (zQ rfl rfl (st (aS (.bool (decide (op=3))) (zb ?_)))))))
 cases h:decide (op=3)
 have h:=fD h
 refine ze rfl (R0 fun _=>st (zQ rfl rfl (st (aS (.bool (decide (op=4))) (zb ?_)))))
 cases j:decide (op=4)
 have j:=fD j
 refine ze rfl (za (R0 fun _=>st (zQ rfl rfl (st (aS (.bool (decide (op=5))) (zb ?_))))))
 cases l:decide (op=5)
 have l:=fD l
 refine ze rfl (za (R0 fun _=>st (aS (Iv 2) (zb (zp (zU nT (show _=(Iv 2:Value)from rfl) ?_))))))
 refine⟨?_,(c.s3_)⟩
 congr 1
 rw[xn]
 ·repeat first|rfl|rw[ifpC (by first|assumption|omega)]|rw[ifnC (by first|assumption|omega|simp_all)]
 have l:=tD l
 refine zf rfl (za (za (R0 fun _=>st (xD rfl (st (lD (Iv ((yj d ty f).kind)) kT rfl (zd (c.b0) rfl) (st (yx rfl rfl (zb ?_)))))))))
 cases m: !decide (((yj d ty f).kind)=4)
 have m:=zO m
 refine ze rfl (zr (za (zG kr (st (mV (Iv arg) (st (zL rfl rfl (st (mV (.bool (decide (arg<0))) (stc (V:=Iv arg) rfl rfl (fun J=>?_) ?_))))))))))
 exact mV (Iv arg) rflB
 refine stc (V:=Ix M 3) rfl rfl (fun K=>?_) ?_
 exact yS rfl rflB
 refine stc (V:=u) rfl rfl (fun B=>?_) ?_
 exact lD u vR (ifpC B) (zd (c.b0) rfl) rflB
 refine stc (V:=Iw (((yj d ty f).moves).length)) rfl rfl (fun C=>?_) ?_
 exact zF oR (ifpC C) y.1 rflB
 refine stc (V:=.bool (decide (((((yj d ty f).moves).length:Nat):Int)≤arg))) rfl rfl (fun x=>?_) ?_
 exact xw (ifpC x) (ifpC x) rflB
 refine st (zC rfl (fun hbp=>(ifpC hbp)) (zb ?_))
 cases D:(decide (arg<0))||(decide (((((yj d ty f).moves).length:Nat):Int)≤arg))
 try simp only[zh]at D
 refine ze rfl (zr (za (R0 fun _=>st (aS (Iv 0) (zb (zp (zU nT (show _=(Iv 0:Value)from rfl) ?_)))))))
 refine⟨?_,(c.s3_)⟩
 congr 1
 rw[xn]
 ·repeat first|rfl|rw[ifpC (by first|assumption|omega)]|rw[ifnC (by first|assumption|omega|simp_all)]
 try simp only[zh]at D
 refine zf rfl (za (R0 fun _=>st (aS (Iv 1) (zb (zp (zU nT (show _=(Iv 1:Value)from rfl) ?_))))))
 refine⟨?_,(c.s3_)⟩
 congr 1
 rw[xn]
 ·repeat first|rfl|rw[ifpC (by first|assumption|omega)]|rw[ifnC (by first|assumption|omega|simp_all)]
 have m:=yn m
 refine zf rfl (za (R0 fun _=>st (aS (Iv 2) (zb (zp (zU nT (show _=(Iv 2:Value)from rfl) ?_))))))
 refine⟨?_,(c.s3_)⟩
 congr 1
 rw[xn]
 ·repeat first|rfl|rw[ifpC (by first|assumption|omega)]|rw[ifnC (by first|assumption|omega|simp_all)]
 have j:=tD j
 refine zf rfl (za (R0 fun _=>st (xD rfl (st (lD (Iv ((yj d ty f).kind)) kT rfl (zd (c.b0) rfl) (st (yx rfl rfl (zb ?_))))))))
 cases o: !decide (((yj d ty f).kind)=3)
 have o:=zO o
 refine ze rfl (zr (za (R0 fun _=>st (aS (Iv 0) (zb (zp (zU nT (show _=(Iv 0:Value)from rfl) ?_)))))))
 refine⟨?_,(c.s3_)⟩
 congr 1
 rw[xn]
 ·repeat first|rfl|rw[ifpC (by first|assumption|omega)]|rw[ifnC (by first|assumption|omega|simp_all)]
 have o:=yn o
 refine zf rfl (za (R0 fun _=>st (aS (Iv 2) (zb (zp (zU nT (show _=(Iv 2:Value)from rfl) ?_))))))
 refine⟨?_,(c.s3_)⟩
 congr 1
 rw[xn]
 ·repeat first|rfl|rw[ifpC (by first|assumption|omega)]|rw[ifnC (by first|assumption|omega|simp_all)]
 have h:=tD h
 refine zf rfl (zr (zf rfl (za (R0 fun _=>st (xD rfl (st (lD (Iv ((yj d ty f).kind)) kT rfl (zd (c.b0) rfl) (st (yx rfl rfl (zb ?_))))))))))
 cases p: !decide (((yj d ty f).kind)=3)
 have p:=zO p
 refine ze rfl (zr (za (R0 fun _=>st (aS (Iv 0) (zb (zp (zU nT (show _=(Iv 0:Value)from rfl) ?_)))))))
 refine⟨?_,(c.s3_)⟩
 congr 1
 rw[xn]
 ·repeat first|rfl|rw[ifpC (by first|assumption|omega)]|rw[ifnC (by first|assumption|omega|simp_all)]
 have p:=yn p
 refine zf rfl (za (R0 fun _=>st (aS (Iv 2) (zb (zp (zU nT (show _=(Iv 2:Value)from rfl) ?_))))))
 refine⟨?_,(c.s3_)⟩
 congr 1
 rw[xn]
 ·repeat first|rfl|rw[ifpC (by first|assumption|omega)]|rw[ifnC (by first|assumption|omega|simp_all)]
 have g:=tD g
 refine zf rfl (za (R0 fun _=>st (xD rfl (st (lD (Iv ((yj d ty f).kind)) kT rfl (zd (c.b0) rfl) (st (yx rfl rfl (zb ?_))))))))
 cases q: !decide (((yj d ty f).kind)=2)
 have q:=zO q
 refine ze rfl (zr (za (R0 fun _=>st (aS (Iv 0) (zb (zp (zU nT (show _=(Iv 0:Value)from rfl) ?_)))))))
 refine⟨?_,(c.s3_)⟩
 congr 1
 rw[xn]
 ·repeat first|rfl|rw[ifpC (by first|assumption|omega)]|rw[ifnC (by first|assumption|omega|simp_all)]
 have q:=yn q
 refine zf rfl (za (R0 fun _=>st (aS (Iv 2) (zb (zp (zU nT (show _=(Iv 2:Value)from rfl) ?_))))))
 refine⟨?_,(c.s3_)⟩
 congr 1
 rw[xn]
 ·repeat first|rfl|rw[ifpC (by first|assumption|omega)]|rw[ifnC (by first|assumption|omega|simp_all)]
 have e:=tD e
 refine zf rfl (za (za (R0 fun _=>st (xD rfl (st (lD (Iv ((yj d ty f).kind)) kT rfl (zd (c.b0) rfl) (st (yx rfl rfl (zb ?_)))))))))
 cases s: !decide (((yj d ty f).kind)=1)
 have s:=zO s
 refine ze rfl (zr (za (R0 fun _=>st (mV (Iv arg) (st (zQ rfl rfl (zb ?_)))))))
 cases t:decide (arg=0)
 have t:=fD t
 refine ze rfl (zr (za (R0 fun _=>st (aS (Iv 0) (zb (zp (zU nT (show _=(Iv 0:Value)from rfl) ?_)))))))
 refine⟨?_,(c.s3_)⟩
 congr 1
 rw[xn]
 ·repeat first|rfl|rw[ifpC (by first|assumption|omega)]|rw[ifnC (by first|assumption|omega|simp_all)]
 have t:=tD t
 refine zf rfl (za (R0 fun _=>st (aS (Iv 1) (zb (zp (zU nT (show _=(Iv 1:Value)from rfl) ?_))))))
 refine⟨?_,(c.s3_)⟩
 congr 1
 rw[xn]
 ·repeat first|rfl|rw[ifpC (by first|assumption|omega)]|rw[ifnC (by first|assumption|omega|simp_all)]
 have s:=yn s
 refine zf rfl (za (R0 fun _=>st (aS (Iv 2) (zb (zp (zU nT (show _=(Iv 2:Value)from rfl) ?_))))))
 refine⟨?_,(c.s3_)⟩
 congr 1
 rw[xn]
 ·repeat first|rfl|rw[ifpC (by first|assumption|omega)]|rw[ifnC (by first|assumption|omega|simp_all)]
 try simp only[zh]at A
 refine zf rfl (za (R0 fun _=>st (aS (Iv 8) (zb (zp (zU nT (show _=(Iv 8:Value)from rfl) ?_))))))
 refine⟨?_,(c.s3_)⟩
 congr 1
 rw[xn]
 ·repeat first|rfl|rw[ifpC (by first|assumption|omega)]|rw[ifnC (by first|assumption|omega|simp_all)]
theorem Qe {a b:Int}(h1:InR a)(h2:InR b):Zk (a+b)=a+b∨(9223372036854775808≤a+b∧Zk (a+b)=a+b-18446744073709551616)∨(a+b< -9223372036854775808∧Zk (a+b)=a+b+18446744073709551616):=by
 unfold Zk
 rw[IntKind.wrap_i64]
 omega
theorem rem_t {l:List Int}{k:Nat}{n:Int}(hk:k<l.length)(h: ¬l.getD k 0=n):Zw (l.take (k+1)) n=Zw (l.take k) n++[l.getD k 0]:=by unfold Zw;rw[List.take_getD hk,List.filter_append];simp only[List.filter_cons,List.filter_nil];rw[if_pos (by simpa using h)]
theorem rem_f {l:List Int}{k:Nat}{n:Int}(hk:k<l.length)(h:l.getD k 0=n):Zw (l.take (k+1)) n=Zw (l.take k) n:=by unfold Zw;rw[List.take_getD (d:=0) hk,List.filter_append];simp only[List.filter_cons,List.filter_nil];rw[if_neg (by simpa using h)];simp
theorem zbW {l:List Int}{n:Int}:(Zw l n).length≤l.length:=List.length_filter_le _ _
theorem zcH {fl:Fld}{cs:List Cel}{c:Cel}{arg:Int}(h1:InR c.n)(h2:InR arg):xz fl cs c 1 arg=(((!((decide (0≤c.n)&&decide (0≤arg))&&decide (IntKind.i64.wrap (c.n+arg)<0)))&&(!((decide (c.n<0)&&decide (arg<0))&&decide (0≤IntKind.i64.wrap (c.n+arg)))))&&(!(fl.floor&&decide (IntKind.i64.wrap (c.n+arg)<0)))):=by
 have hs:=YF (c.n+arg)
 have hw:Zk (c.n+arg)=c.n+arg∨(9223372036854775808≤c.n+arg∧Zk (c.n+arg)=c.n+arg-18446744073709551616)∨(c.n+arg< -9223372036854775808∧Zk (c.n+arg)=c.n+arg+18446744073709551616):=Qe h1 h2
 unfold xz
 rw[if_pos rfl]
 show _=(((!((decide (0≤c.n)&&decide (0≤arg))&&decide (Zk (c.n+arg)<0)))&&(!((decide (c.n<0)&&decide (arg<0))&&decide (0≤Zk (c.n+arg)))))&&(!(fl.floor&&decide (Zk (c.n+arg)<0))))
 generalize Zk (c.n+arg)=s at*
 congr 1
 rw[Bool.eq_iff_iff]
 simp only[Bool.or_eq_true,Bool.and_eq_true,Bool.not_eq_true',decide_eq_true_eq,beq_iff_eq,Bool.and_eq_false_iff,decide_eq_false_iff_not,decide_eq_decide]
 omega
theorem zcF {fl:Fld}{cs:List Cel}{c:Cel}{arg:Int}:xz fl cs c 3 arg=(decide (((c.set.length:Nat):Int)<64)||decide (arg∈c.set)):=by
 unfold xz;rw[if_neg (by decide),if_pos rfl,Bool.or_comm]
theorem zcG {fl:Fld}{cs:List Cel}{c:Cel}{arg:Int}:xz fl cs c 5 arg=(decide (c.n=(Yb fl arg).frm)&&(decide ((Yb fl arg).need<0)||decide ((Yb fl arg).least≤(yz cs (Yb fl arg).need).n))):=by
 unfold xz;rw[if_neg (by decide),if_neg (by decide),if_pos rfl]
theorem may_o {fl:Fld}{cs:List Cel}{c:Cel}{op arg:Int}(h1: ¬op=1)(h3: ¬op=3)(h5: ¬op=5):xz fl cs c op arg=true:=by
 unfold xz;rw[if_neg h1,if_neg h3,if_neg h5]
theorem WR {t:Typ}{dt0:Value}(hdt0:RdS W G dt0 t.fields)(ot:t.Ok)(hS0:Sep G W Rs w):Ret Tryz.prog 76 [.agg (t.cells dt0).toArray] w (fun r w'=> ∃(v:Value),r=(v:Value)∧Sep G W ((RowE (α:=Cel) own 105 v (List.replicate t.fields.length (⟨0,[]⟩:Cel)))::Rs) w'):=by
 have hdt0s:_*48≤_:=hdt0.small
 refine zk Tryz.func76 rfl rfl ?_
 refine za (R0 fun _=>st (zW rfl ?_))
 intro w3 b2 e
 have c:=hS0.new e
 refine st (aS Iz (zb (za (R0 fun _=>st (yT rfl (st (lD dt0 tR rfl (zd (c.b0) rfl) (st (zF (n:=t.fields.length) uR rfl hdt0.sl (st (Yp (α:=Cel) (T:=105) (bytes:=32) (n:=t.fields.length) (x1:=(⟨0,[]⟩:Cel)) sT ⟨_,_,rfl,rfl,rfl,rfl,rfl,fun _ _=>⟨_,rfl,RdS.nil _ _,⟨by decide⟩⟩⟩ rfl rfl rfl (by show t.fields.length*32≤140737488355328;omega) ?_)))))))))))
 intro f b g he7 hl8 h
 let i:=Iy b t.fields.length t.fields.length
 have a:Sep G W ((RowE (α:=Cel) own 105 i (List.replicate t.fields.length (⟨0,[]⟩:Cel)))::(Blk b2 (t.cells dt0).toArray 83)::Rs) f:=c.made g h
 have d:=a.r0
 refine st (aS i (zb (zp (zU Tryz.results76 (show _=(i:Value)from rfl) ?_))))
 refine⟨i,rfl,(a.s2_a)⟩
theorem Jz {vl:Value}{l:List Int}(hl:RdS W G vl l){n:Int}(hn:InR n)(hS0:Sep G W Rs w)(hfew:l.length≤1000):Ret Tryz.prog 91 [vl,.int .i64 (n)] w (fun r w'=> ∃(v:Value),r=(v:Value)∧Sep G W ((RowE (α:=Int) own 3 v (Zw l n))::Rs) w'):=by
 refine zk Tryz.func91 rfl rfl ?_
 refine za (R0 fun _=>st (aS Iz (zb (za (R0 fun _=>st (aS Iz (zb (za (za (R0 fun _=>st (aS (Iv 0) (zb (zu ?_)))))))))))))
 have E:Sep G W ((RowE (α:=Int) own 3 Iz [])::Rs) w:=hS0.rowNil own 3
 refine yd (fun mq σ J=> ∃k vo ρ,mq=l.length-k∧σ=yg ρ [(0,vl),(1,Iv n),(6,Iw k),(5,vo)]∧(k≤l.length)∧Sep G W ((RowE own 3 vo (Zw (l.take k) n))::Rs) J) ⟨0,(Iz),_,rfl,sSf,yc _,E⟩ ?_
 rintro m3 σ4 w2 ⟨k,vo,ρl1,rfl,rfl,hkk,e⟩
 have F:=e.r0
 have hrl:=zbW (l:=l.take k) (n:=n)
 rw[List.length_take]at hrl
 refine za (za (R0 fun _=>st (mV (Iw k) (st (mV vl (st (zF pT rfl hl.sl (st (zL rfl rfl (zb ?_))))))))))
 cases h:decide (((k:Nat):Int)<((l.length:Nat):Int))
 have h:=fD h
 have H:k=l.length:=by omega
 rw[H,List.take_length]at e
 refine ze rfl (ye (zT (za (R0 fun _=>st (mV vo (st (aS vo (zb (zp (zU Tryz.results91 (show _=(vo:Value)from rfl) ?_))))))))))
 refine⟨vo,rfl,e⟩
 have h:=tD h
 refine zf rfl (zr (za (zu (za (R0 fun _=>st (mV vl (st (mV (Iw k) ?_))))))))
 have I:k<l.length:=bo
 refine st (zg (k:=1) pT qT rfl hl.sl rfl I ?_)
 have f:k<l.length:=bo
 obtain⟨m,u⟩:=hl.intD f
 have p:=e.cells m (hl.foot (ne_of_lt f))
 refine st (lD (Iv ((l.getD k 0))) kT rfl (p.get (j:=0) rfl) (st (mV (Iv n) (st (yx rfl rfl (zb ?_))))))
 cases d: !decide ((l.getD k 0)=n)
 have d:=zO d
 refine ze rfl (zr (R0 fun _=>st (mV (Iw k) ?_)))
 have x:InR ((k+1:Nat):Int):=bo
 refine st (zR (r:=((k+1:Nat):Int)) rfl rfl (by rw[show(((k:Nat):Int)+1:Int)=((k+1:Nat):Int)from bo];exact zz x) (st (aS (Iw (k+1)) (zb ?_))))
 have y:=(rem_f om d)
 rw[←y]at e
 exact⟨_,by omega,k+1,vo,_,rfl,sSf,by omega,e⟩
 have d:=yn d
 refine zf rfl (R0 fun _=>st (mV vo (st (mV vl (st (mV (Iw k) ?_))))))
 have z:k<l.length:=bo
 refine st (zg (k:=1) pT qT rfl hl.sl rfl z ?_)
 have q:=e.cells m (hl.foot (ne_of_lt f))
 refine st (lD (Iv ((l.getD k 0))) kT rfl (q.get (j:=0) rfl) (st (zD (c:=#[Iv ((l.getD k 0))]) pT qT Tryz.zeroValue3 dc rfl kr ?_)))
 intro w20 b19 A
 have o:=e.new A
 have s:=o.b0
 refine st (yq (src:=own) (bytes:=8) ((o.s2_b).emp1) QM rfl rfl s (fun _ _ _=>(show _ from⟨rfl,u⟩)) yqb rfl ?_)
 intro t w22 g
 have B:=g.r0
 refine st (aS t (zb (R0 fun _=>st (mV (Iw k) ?_))))
 have C:InR ((k+1:Nat):Int):=bo
 refine st (zR (r:=((k+1:Nat):Int)) rfl rfl (by rw[show(((k:Nat):Int)+1:Int)=((k+1:Nat):Int)from bo];exact zz C) (st (aS (Iw (k+1)) (zb ?_))))
 have D:=(rem_t om d)
 rw[←D]at g
 exact⟨_,by omega,k+1,t,_,rfl,sSf,by omega,g⟩
theorem zcm {vl:Value}{l:List Int}(hl:RdS W G vl l){n:Int}(hn:InR n)(hS0:Sep G W Rs w):Ret Tryz.prog 121 [vl,.int .i64 (n)] w (fun r w'=>r=(.bool (decide (n∈l)):Value)∧Sep G W Rs w'):=by
 have hls:_*8≤_:=hl.small
 refine zk Tryz.func121 rfl rfl ?_
 refine za (R0 fun _=>st (aS (.bool false) (zb (za (za (R0 fun _=>st (aS (Iv 0) (zb (zu (yd (fun mq σ q=> ∃k ρ,mq=l.length-k∧σ=yg ρ [(0,vl),(1,Iv n),(5,Iw k)]∧(k≤l.length)∧(∀i,i<k→ ¬l.getD i 0=n)∧Sep G W Rs q) ⟨0,_,rfl,sSf,yc _,(fun i h=>absurd h (yO i)),hS0⟩ ?_))))))))))
 rintro m2 σ3 w1 ⟨k,ρl1,rfl,rfl,hkk,hm,d⟩
 refine za (za (R0 fun _=>st (mV (Iw k) (st (mV vl (st (zF pT rfl hl.sl (st (zL rfl rfl (zb ?_))))))))))
 cases e:decide (((k:Nat):Int)<((l.length:Nat):Int))
 have e:=fD e
 refine ze rfl (ye (zT (za (R0 fun _=>st (aS (.bool false) (zb (zp (zU mA (show _=(.bool false:Value)from rfl) ?_))))))))
 refine⟨?_,d⟩
 rw[decide_eq_false (UE (fun i hi=>hm i (by omega)))]
 have e:=tD e
 refine zf rfl (zr (za (zu (za (R0 fun _=>st (mV vl (st (mV (Iw k) ?_))))))))
 have p:k<l.length:=bo
 refine st (zg (k:=1) pT qT rfl hl.sl rfl p ?_)
 have f:k<l.length:=bo
 obtain⟨g,hxe7⟩:=hl.intD f
 have m:=d.cells g (hl.foot (ne_of_lt f))
 refine st (lD (Iv ((l.getD k 0))) kT rfl (m.get (j:=0) rfl) (st (mV (Iv n) (st (zQ rfl rfl (zb ?_))))))
 cases c:decide ((l.getD k 0)=n)
 have c:=fD c
 refine ze rfl (zr (R0 fun _=>st (mV (Iw k) ?_)))
 have o:InR ((k+1:Nat):Int):=bo
 refine st (zR (r:=((k+1:Nat):Int)) rfl rfl (by rw[show(((k:Nat):Int)+1:Int)=((k+1:Nat):Int)from bo];exact zz o) (st (aS (Iw (k+1)) (zb ?_))))
 exact⟨_,by omega,k+1,_,rfl,sSf,by omega,(xe hm c),d⟩
 have c:=tD c
 refine zf rfl (za (R0 fun _=>st (aS (.bool true) (zb (zp (zU mA (show _=(.bool true:Value)from rfl) ?_))))))
 refine⟨?_,d⟩
 rw[decide_eq_true (zaM (by omega) c)]
theorem US {t:Typ}{dt0:Value}(hdt0:RdS W G dt0 t.fields)(ot:t.Ok){vc:Value}{c:List Cel}(hc:RdS W G vc c){fi:Int}(hfi:InR fi){op:Int}(hop:InR op){arg:Int}(harg:InR arg)(hS0:Sep G W Rs w)(hask:Wo t c fi op arg):Ret Tryz.prog 102 [.agg (t.cells dt0).toArray,vc,.int .i64 (fi),.int .i64 (op),.int .i64 (arg)] w (fun r w'=>r=(.int .i64 ((xy t c fi op arg)):Value)∧Sep G W Rs w'):=by
 let ci:=(((t.fields.gd fi.toNat).moves).gd arg.toNat).cells
 let ch:=zP W (sb dt0) (so dt0+fi.toNat*4+3)
 let cj:=(t.fields.gd fi.toNat).cells ch
 let ce:=zP W (sb vc) (so vc+fi.toNat*2+1)
 let ck:=(c.gd fi.toNat).cells ce
 have hdt0s:_*48≤_:=hdt0.small
 have hcs:_*32≤_:=hc.small
 have ha0:=hask.1
 have ha1:=hask.2.1
 have ha2:=hask.2.2.1
 refine zk Tryz.func102 rfl rfl ?_
 refine za (R0 fun _=>st (zW rfl ?_))
 intro w3 b2 cg
 have aK:=hS0.new cg
 refine st (aS (Iv 0) (zb (za (R0 fun _=>st (yT rfl (st (lD dt0 tR rfl (zd (aK.b0) rfl) (st (mV (Iv fi) ?_)))))))))
 have hi5:fi.toNat<t.fields.length:=bo
 refine st (zx (k:=4) (i:=fi) uR mT rfl hdt0.sl rfl ⟨by omega,by omega⟩ ?_)
 have bU:fi.toNat<t.fields.length:=bo
 obtain⟨bW,x,hoke6⟩:=hdt0.fldD bU
 have hsm8:((t.fields.gd fi.toNat).moves).length*32≤140737488355328:=x.small
 have bX:=aK.cells bW (hdt0.foot (ne_of_lt bU))
 refine st (zi nR mT rfl rfl bX (st (zB lY ?_)))
 intro w12 af bY
 have aL:=aK.new bY
 refine stn (zw (v:=.agg cj.toArray) mT rfl rfl (aL.b0) (yo ⟨rfl,rfl,rfl,x.sl.one,zl⟩) yqc rfl ?_)
 intro w14 bZ
 have aM:=aL.pt0 bZ
 refine zb (za (R0 fun _=>st (mV vc (st (mV (Iv fi) ?_)))))
 have hi17:fi.toNat<c.length:=bo
 refine st (zx (k:=2) (i:=fi) sT lT rfl hc.sl rfl ⟨by omega,by omega⟩ ?_)
 have aN:fi.toNat<c.length:=bo
 obtain⟨aU,z,ag⟩:=hc.celD aN
 have hsm20:((c.gd fi.toNat).set).length*8≤140737488355328:=z.small
 have aV:=aM.cells aU (hc.foot (ne_of_lt aN))
 refine st (zi tT lT rfl rfl aV (st (zB nA ?_)))
 intro w24 U ca
 have aO:=aM.new ca
 refine stn (zw (v:=.agg ck.toArray) lT rfl rfl (aO.b0) (yo ⟨rfl,z.sl.one,zl⟩) yqc rfl ?_)
 intro w26 cb
 have g:=aO.pt0 cb
 refine zb (za (R0 fun _=>st (aS (.bool true) (zb (za (za (R0 fun _=>st (mV (Iv op) (zb (zu (za (R0 fun _=>st (zQ rfl rfl (st (aS (.bool (decide (op=1))) (zb ?_))))))))))))))))
 cases B:decide (op=1)
 have hc29r:=B
 have B:=fD B
 refine ze rfl (za (R0 fun _=>st (zQ rfl rfl (st (aS (.bool (decide (op=3))) (zb ?_))))))
 cases C:decide (op=3)
 have hc30r:=C
 have C:=fD C
 refine ze rfl (za (R0 fun _=>st (zQ rfl rfl (st (aS (.bool (decide (op=5))) (zb ?_))))))
 cases y:decide (op=5)
 have hc31r:=y
 have y:=fD y
 refine ze rfl (zr (za (za (R0 fun _=>st (mV (.bool true) (zb (zf rfl (za (R0 fun _=>st (aS (Iv 0) (zb (zp (zU kR (show _=(Iv 0:Value)from rfl) ?_)))))))))))))
 refine⟨?_,(g.s3_)⟩
 congr 1
 have o:xz (xk t fi) c (yz c fi) op arg=true:=may_o om om om
 unfold xy
 rw[o];rfl
 have y:=tD y
 have bV:=hask.2.2.2.2 y
 have ha51:arg<(t.fields.gd fi.toNat).moves.length:=bV.2.1
 have ha52:((t.fields.gd fi.toNat).moves.gd arg.toNat).need<0∨((t.fields.gd fi.toNat).moves.gd arg.toNat).need<c.length:=bV.2.2
 refine zf rfl (za (R0 fun _=>st (yS rfl (st (lD ch vR rfl (zd (g.b1) rfl) (st (mV (Iv arg) ?_)))))))
 have hi33:arg.toNat<((t.fields.gd fi.toNat).moves).length:=bo
 refine st (zx oR wT rfl x.sl rfl ⟨by omega,by omega⟩ ?_)
 have aP:arg.toNat<((t.fields.gd fi.toNat).moves).length:=bo
 obtain⟨aW,hoke34⟩:=x.mvD aP
 have aX:=g.cells aW (x.foot (ne_of_lt aP))
 refine st (zi vY wT rfl rfl aX (st (zB wY ?_)))
 intro w39 X cc
 have aQ:=g.new cc
 refine stn (zw (v:=.agg ci.toArray) wT rfl rfl (aQ.b0) (yo ⟨rfl,rfl,rfl,rfl,zl⟩) yqc rfl ?_)
 intro w41 cd
 refine zb ?_
 refine WD4 (WF [fun vals wq=>Sep G W ((Blk X ci.toArray 90)::(Blk U ck.toArray 105)::(Blk af cj.toArray 87)::(Blk b2 (t.cells dt0).toArray 83)::Rs) wq]) (AF [Vl 0 (Ix U 0),Vl 1 (Iv ((c.gd fi.toNat).n)),Vl 2 (Ix X 0),Vl 3 (Iv ((((t.fields.gd fi.toNat).moves).gd arg.toNat).frm)),Vl 4 (.bool (decide (((c.gd fi.toNat).n)=((((t.fields.gd fi.toNat).moves).gd arg.toNat).frm)))),Vl 5 (.bool (decide (((c.gd fi.toNat).n)=((((t.fields.gd fi.toNat).moves).gd arg.toNat).frm)))),Vl 6 (if(decide (((c.gd fi.toNat).n)=((((t.fields.gd fi.toNat).moves).gd arg.toNat).frm)))=true then Ix X 2 else undef),Vl 7 (if(decide (((c.gd fi.toNat).n)=((((t.fields.gd fi.toNat).moves).gd arg.toNat).frm)))=true then Iv ((((t.fields.gd fi.toNat).moves).gd arg.toNat).need)else undef),Vl 8 (if(decide (((c.gd fi.toNat).n)=((((t.fields.gd fi.toNat).moves).gd arg.toNat).frm)))=true then .bool (decide (((((t.fields.gd fi.toNat).moves).gd arg.toNat).need)<0))else undef),Vl 9 (if(decide (((c.gd fi.toNat).n)=((((t.fields.gd fi.toNat).moves).gd arg.toNat).frm)))=true then .bool (decide (((((t.fields.gd fi.toNat).moves).gd arg.toNat).need)<0))else undef),Vl 10 (if((decide (((c.gd fi.toNat).n)=((((t.fields.gd fi.toNat).moves).gd arg.toNat).frm)))=true)∧(decide (((((t.fields.gd fi.toNat).moves).gd arg.toNat).need)<0))=false then vc else undef),Vl 11 (if((decide (((c.gd fi.toNat).n)=((((t.fields.gd fi.toNat).moves).gd arg.toNat).frm)))=true)∧(decide (((((t.fields.gd fi.toNat).moves).gd arg.toNat).need)<0))=false then Ix X 2 else undef),Vl 12 (if((decide (((c.gd fi.toNat).n)=((((t.fields.gd fi.toNat).moves).gd arg.toNat).frm)))=true)∧(decide (((((t.fields.gd fi.toNat).moves).gd arg.toNat).need)<0))=false then Iv ((((t.fields.gd fi.toNat).moves).gd arg.toNat).need)else undef),Vl 13 (if((decide (((c.gd fi.toNat).n)=((((t.fields.gd fi.toNat).moves).gd arg.toNat).frm)))=true)∧(decide (((((t.fields.gd fi.toNat).moves).gd arg.toNat).need)<0))=false then Ix (sb vc) (so vc+(((((t.fields.gd fi.toNat).moves).gd arg.toNat).need).toNat)*2)else undef),Vl 14 (if((decide (((c.gd fi.toNat).n)=((((t.fields.gd fi.toNat).moves).gd arg.toNat).frm)))=true)∧(decide (((((t.fields.gd fi.toNat).moves).gd arg.toNat).need)<0))=false then Ix (sb vc) (so vc+(((((t.fields.gd fi.toNat).moves).gd arg.toNat).need).toNat)*2)else undef),Vl 15 (if((decide (((c.gd fi.toNat).n)=((((t.fields.gd fi.toNat).moves).gd arg.toNat).frm)))=true)∧(decide (((((t.fields.gd fi.toNat).moves).gd arg.toNat).need)<0))=false then Iv ((c.gd (((((t.fields.gd fi.toNat).moves).gd arg.toNat).need).toNat)).n)else undef),Vl 16 (if((decide (((c.gd fi.toNat).n)=((((t.fields.gd fi.toNat).moves).gd arg.toNat).frm)))=true)∧(decide (((((t.fields.gd fi.toNat).moves).gd arg.toNat).need)<0))=false then Ix X 3 else undef),Vl 17 (if((decide (((c.gd fi.toNat).n)=((((t.fields.gd fi.toNat).moves).gd arg.toNat).frm)))=true)∧(decide (((((t.fields.gd fi.toNat).moves).gd arg.toNat).need)<0))=false then Iv ((((t.fields.gd fi.toNat).moves).gd arg.toNat).least)else undef),Vl 18 (if((decide (((c.gd fi.toNat).n)=((((t.fields.gd fi.toNat).moves).gd arg.toNat).frm)))=true)∧(decide (((((t.fields.gd fi.toNat).moves).gd arg.toNat).need)<0))=false then .bool (decide (((((t.fields.gd fi.toNat).moves).gd arg.toNat).least)≤((c.gd (((((t.fields.gd fi.toNat).moves).gd arg.toNat).need).toNat)).n)))else undef),Vl 19 (if(decide (((c.gd fi.toNat).n)=((((t.fields.gd fi.toNat).moves).gd arg.toNat).frm)))=true then .bool ((decide (((((t.fields.gd fi.toNat).moves).gd arg.toNat).need)<0))||(decide (((((t.fields.gd fi.toNat).moves).gd arg.toNat).least)≤((c.gd (((((t.fields.gd fi.toNat).moves).gd arg.toNat).need).toNat)).n))))else undef),Vl 20 (.bool ((decide (((c.gd fi.toNat).n)=((((t.fields.gd fi.toNat).moves).gd arg.toNat).frm)))&&((decide (((((t.fields.gd fi.toNat).moves).gd arg.toNat).need)<0))||(decide (((((t.fields.gd fi.toNat).moves).gd arg.toNat).least)≤((c.gd (((((t.fields.gd fi.toNat).moves).gd arg.toNat).need).toNat)).n)))))),Vl 21 (.bool ((decide (((c.gd fi.toNat).n)=((((t.fields.gd fi.toNat).moves).gd arg.toNat).frm)))&&((decide (((((t.fields.gd fi.toNat).moves).gd arg.toNat).need)<0))||(decide (((((t.fields.gd fi.toNat).moves).gd arg.toNat).least)≤((c.gd (((((t.fields.gd fi.toNat).moves).gd arg.toNat).need).toNat)).n))))))]) [[],[0],[],[2],(rg 4),(rg 5),(rg 6),(rg 7),(rg 8),(rg 9),(rg 10),(rg 10),[0,1,2,3,4,5,6,7,8,9,11],(rg 13),(rg 14),(rg 15),(rg 10),[0,1,2,3,4,5,6,7,8,9,16],(rg 18),(rg 19),(rg 20),(rg 21)] [] [(0,0),(0,0),(0,0),(0,0),(0,0),(0,0),(0,0),(0,0),(0,0),(0,0),(0,0),(0,0),(0,0),(0,0),(0,0),(0,0),(0,0),(0,0),(0,0),(0,0),(0,0),(0,0)] (aQ.pt0 cd) ⟨fun _ _ _ _ _ _ _=>obl rfl (yZ rfl dR),ob1 0 fun _ _ (aY:Sep _ _ _ _) aZ=>obl rfl (lD (Iv ((c.gd fi.toNat).n)) kT (aZ 0 dc) (zd (aY.b1) rfl) dR),fun _ _ _ _ _ _ _=>obl rfl (QG rfl dR),ob1 0 fun _ _ (ba:Sep _ _ _ _) bb=>obl rfl (lD (Iv ((((t.fields.gd fi.toNat).moves).gd arg.toNat).frm)) kT (bb 2 dc) (zd (ba.b0) rfl) dR),ob1 0 fun _ _ _ ai=>obl rfl (zQ (ai 1 dc) (ai 3 dc) dR),fun _ _ _ _ _ _ bc=>obl rfl (zN (bc 4 dc) dR),?_,?_,?_,?_,?_,?_,?_,?_,?_,?_,?_,?_,?_,?_,?_,fun _ _ _ _ _ _ bd=>obl rfl (zM (bd 20 dc) dR),zl⟩ ?_
 refine fun _ _ _ _ _ _ be=>(zJ rfl rfl (be 5 dc) (fun K=>?_) zZ)
 have hl315:=tD K
 exact Xi rfl (zY K)
 refine ob1 0 fun _ _ (bf:Sep _ _ _ _) aj=>(zJ rfl rfl (aj 5 dc) (fun D=>?_) zZ)
 have hl326:=tD D
 exact lD (Iv ((((t.fields.gd fi.toNat).moves).gd arg.toNat).need)) kT (zn (aj 6 dc) (ifpC D)) (zd (bf.b0) rfl) (zY D)
 refine ob1 0 fun _ _ _ ak=>(zJ rfl rfl (ak 5 dc) (fun E=>?_) zZ)
 have hl337:=tD E
 exact zL (zn (ak 7 dc) (ifpC E)) rfl (zY E)
 refine fun _ _ _ _ _ _ al=>(zJ rfl rfl (al 5 dc) (fun F=>?_) zZ)
 have hl347:=tD F
 exact zN (zn (al 8 dc) (ifpC F)) (zY F)
 refine fun _ _ _ _ _ _ bg=>(xN rfl rfl (bg 9 dc) (fun H=>?_) zZ)
 have hl356:=tD H.1
 have hl357:=fD H.2
 exact mV vc (zY H)
 refine fun _ _ _ _ _ _ bh=>(xN rfl rfl (bh 9 dc) (fun I=>?_) zZ)
 have hl366:=tD I.1
 have hl367:=fD I.2
 exact Xi rfl (zY I)
 refine ob1 0 fun _ _ (bi:Sep _ _ _ _) am=>(xN rfl rfl (am 9 dc) (fun p=>?_) zZ)
 have hl378:=tD p.1
 have hl379:=fD p.2
 exact lD (Iv ((((t.fields.gd fi.toNat).moves).gd arg.toNat).need)) kT (zn (am 11 dc) (ifpC ⟨p.1,p.2⟩)) (zd (bi.b0) rfl) (zY p)
 refine ob1 0 fun _ _ _ Y=>(xN rfl rfl (Y 9 dc) (fun h=>?_) zZ)
 have hl391:=tD h.1
 have hl392:=fD h.2
 have hi393:((((t.fields.gd fi.toNat).moves).gd arg.toNat).need).toNat<c.length:=bo
 exact zx sT lT (zn (Y 10 dc) (ifpC ⟨h.1,h.2⟩)) hc.sl (zn (Y 12 dc) (ifpC ⟨h.1,h.2⟩)) ⟨by omega,by omega⟩ (zY h)
 refine fun _ _ _ _ _ _ an=>(xN rfl rfl (an 9 dc) (fun q=>?_) zZ)
 have hl403:=tD q.1
 have hl404:=fD q.2
 exact yZ (zn (an 13 dc) (ifpC ⟨q.1,q.2⟩)) (zY q)
 refine ob1 0 fun _ _ (bj:Sep _ _ _ _) ao=>(xN rfl rfl (ao 9 dc) (fun s=>?_) zZ)
 have hl415:=tD s.1
 have hl416:=fD s.2
 have ap:((((t.fields.gd fi.toNat).moves).gd arg.toNat).need).toNat<c.length:=bo
 obtain⟨aR,ah,hoke417⟩:=hc.celD ap
 have hsm419:((c.gd (((((t.fields.gd fi.toNat).moves).gd arg.toNat).need).toNat)).set).length*8≤140737488355328:=ah.small
 have aT:=bj.cells aR (hc.foot (ne_of_lt ap))
 exact lD (Iv ((c.gd (((((t.fields.gd fi.toNat).moves).gd arg.toNat).need).toNat)).n)) kT (zn (ao 14 dc) (ifpC ⟨s.1,s.2⟩)) (aT.get (j:=0) rfl) (zY s)
 refine fun _ _ _ _ _ _ bk=>(xN rfl rfl (bk 9 dc) (fun J=>?_) zZ)
 have hl429:=tD J.1
 have hl430:=fD J.2
 exact Kh rfl (zY J)
 refine ob1 0 fun _ _ (bl:Sep _ _ _ _) aq=>(xN rfl rfl (aq 9 dc) (fun u=>?_) zZ)
 have hl441:=tD u.1
 have hl442:=fD u.2
 exact lD (Iv ((((t.fields.gd fi.toNat).moves).gd arg.toNat).least)) kT (zn (aq 16 dc) (ifpC ⟨u.1,u.2⟩)) (zd (bl.b0) rfl) (zY u)
 refine ob1 0 fun _ _ _ Z=>(xN rfl rfl (Z 9 dc) (fun m=>?_) zZ)
 have hl454:=tD m.1
 have hl455:=fD m.2
 exact xw (zn (Z 15 dc) (ifpC ⟨m.1,m.2⟩)) (zn (Z 17 dc) (ifpC ⟨m.1,m.2⟩)) (zY m)
 refine fun _ _ _ _ _ _ aa=>(zJ rfl rfl (aa 5 dc) (fun A=>?_) zZ)
 have hl466:=tD A
 exact zC (zn (aa 9 dc) (ifpC A)) (fun hbp=>(zn (aa 18 dc) (ifpC ⟨A,hbp⟩))) (zY A)
 exact fun _ _ _ _ _ _ ar=>obl rfl (zv (ar 5 dc) (fun hbp=>(zn (ar 19 dc) (ifpC hbp))) dR)
 intro vals w482 bm bn
 have au:=bm
 have cf:=bn 21 dc
 refine yi (kv:=[(0,.agg (t.cells dt0).toArray),(1,vc),(2,Iv fi),(3,Iv op),(4,Iv arg),(5,Ix b2 0),(10,Iv 0),(16,Ix b2 0),(17,dt0),(18,Iv fi),(19,Ix (sb dt0) (so dt0+fi.toNat*4)),(20,.agg ((t.fields.gd fi.toNat).cells (zP W (sb dt0) (so dt0+fi.toNat*4+3))).toArray),(11,Ix af 0),(21,vc),(22,Iv fi),(23,Ix (sb vc) (so vc+fi.toNat*2)),(24,.agg ((c.gd fi.toNat).cells (zP W (sb vc) (so vc+fi.toNat*2+1))).toArray),(12,Ix U 0),(13,.bool ((decide (((c.gd fi.toNat).n)=((((t.fields.gd fi.toNat).moves).gd arg.toNat).frm)))&&((decide (((((t.fields.gd fi.toNat).moves).gd arg.toNat).need)<0))||(decide (((((t.fields.gd fi.toNat).moves).gd arg.toNat).least)≤((c.gd (((((t.fields.gd fi.toNat).moves).gd arg.toNat).need).toNat)).n)))))),(25,Iv op),(27,.bool false),(26,.bool false),(68,.bool false),(67,.bool false),(80,.bool true),(79,.bool true),(81,Ix af 3),(82,(zP W (sb dt0) (so dt0+fi.toNat*4+3))),(83,Iv arg),(84,Ix (sb (zP W (sb dt0) (so dt0+fi.toNat*4+3))) (so (zP W (sb dt0) (so dt0+fi.toNat*4+3))+arg.toNat*4)),(85,.agg ((((t.fields.gd fi.toNat).moves).gd arg.toNat).cells).toArray),(15,Ix X 0)]) ⟨rfl,rfl,rfl,rfl,rfl,rfl,rfl,rfl,rfl,rfl,rfl,rfl,rfl,rfl,rfl,rfl,rfl,rfl,(by exact cf),rfl,rfl,rfl,rfl,rfl,rfl,rfl,rfl,rfl,rfl,rfl,rfl,rfl,zl⟩ (fun ρw482=>?_)
 refine zb (za (za (R0 fun _=>st (mV (.bool ((decide (((c.gd fi.toNat).n)=((((t.fields.gd fi.toNat).moves).gd arg.toNat).frm)))&&((decide (((((t.fields.gd fi.toNat).moves).gd arg.toNat).need)<0))||(decide (((((t.fields.gd fi.toNat).moves).gd arg.toNat).least)≤((c.gd (((((t.fields.gd fi.toNat).moves).gd arg.toNat).need).toNat)).n)))))) (zb ?_)))))
 cases L:(decide (((c.gd fi.toNat).n)=((((t.fields.gd fi.toNat).moves).gd arg.toNat).frm)))&&((decide (((((t.fields.gd fi.toNat).moves).gd arg.toNat).need)<0))||(decide (((((t.fields.gd fi.toNat).moves).gd arg.toNat).least)≤((c.gd (((((t.fields.gd fi.toNat).moves).gd arg.toNat).need).toNat)).n))))
 have R:=L
 try simp only[zh]at L
 refine ze rfl (zr (za (R0 fun _=>st (aS (Iv 10) (zb (zp (zU kR (show _=(Iv 10:Value)from rfl) ?_)))))))
 refine⟨?_,(au.s4_)⟩
 congr 1
 have o:xz (xk t fi) c (yz c fi) op arg=false:=by rw[y];exact(zcG).trans R
 unfold xy
 rw[o];rfl
 have R:=L
 try simp only[zh]at L
 refine zf rfl (za (R0 fun _=>st (aS (Iv 0) (zb (zp (zU kR (show _=(Iv 0:Value)from rfl) ?_))))))
 refine⟨?_,(au.s4_)⟩
 congr 1
 have o:xz (xk t fi) c (yz c fi) op arg=true:=by rw[y];exact(zcG).trans R
 unfold xy
 rw[o];rfl
 have C:=tD C
 refine zf rfl (zG kr (st (yX rfl (st (lD ce mR rfl (zd (g.b0) rfl) (st (zF pT rfl z.sl (st (zL rfl rfl (st (mV (.bool (decide (((((c.gd fi.toNat).set).length:Nat):Int)<64))) (stc (V:=Ix U 1) rfl rfl (fun bp=>?_) ?_))))))))))))
 have hl491:=fD bp
 exact yX rfl rflB
 refine stc (V:=ce) rfl rfl (fun av=>?_) ?_
 have hl493:=fD av
 exact lD ce mR (ifpC av) (zd (g.b0) rfl) rflB
 refine stc (V:=Iv arg) rfl rfl (fun bq=>?_) ?_
 have hl495:=fD bq
 exact mV (Iv arg) rflB
 refine zdu (V:=.bool (decide (arg∈((c.gd fi.toNat).set)))) (fun _ wq=>Sep G W ((Blk U ck.toArray 105)::(Blk af cj.toArray 87)::(Blk b2 (t.cells dt0).toArray 83)::Rs) wq) g rfl rfl (fun ab=>?_) (fun w500 aw=>?_)
 have hl497:=fD ab
 refine(zV (vals:=[ce,Iv arg]) rfl (yM ⟨(ifpC ab),(ifpC ab),zl⟩) Tryz.call121 (zcm z harg g) ?_)
 rintro _ w498 ⟨rfl,br⟩
 exact⟨rfl,br⟩
 refine st (zC rfl (fun hbp=>(ifpC hbp)) (st (aS (.bool ((decide (((((c.gd fi.toNat).set).length:Nat):Int)<64))||(decide (arg∈((c.gd fi.toNat).set))))) (zb (za (za (R0 fun _=>st (mV (.bool ((decide (((((c.gd fi.toNat).set).length:Nat):Int)<64))||(decide (arg∈((c.gd fi.toNat).set))))) (zb ?_)))))))))
 cases M:(decide (((((c.gd fi.toNat).set).length:Nat):Int)<64))||(decide (arg∈((c.gd fi.toNat).set)))
 have S:=M
 try simp only[zh]at M
 refine ze rfl (zr (za (R0 fun _=>st (aS (Iv 10) (zb (zp (zU kR (show _=(Iv 10:Value)from rfl) ?_)))))))
 refine⟨?_,(aw.s3_)⟩
 congr 1
 have o:xz (xk t fi) c (yz c fi) op arg=false:=by rw[C];exact(zcF).trans S
 unfold xy
 rw[o];rfl
 have S:=M
 try simp only[zh]at M
 refine zf rfl (za (R0 fun _=>st (aS (Iv 0) (zb (zp (zU kR (show _=(Iv 0:Value)from rfl) ?_))))))
 refine⟨?_,(aw.s3_)⟩
 congr 1
 have o:xz (xk t fi) c (yz c fi) op arg=true:=by rw[C];exact(zcF).trans S
 unfold xy
 rw[o];rfl
 have B:=tD B
 refine zf rfl (za (R0 fun _=>st (yZ rfl (st (lD (Iv ((c.gd fi.toNat).n)) kT rfl (zd (g.b0) rfl) (st (mV (Iv arg) (st (zR (r:=IntKind.i64.wrap (((c.gd fi.toNat).n)+arg)) rfl rfl rfl (st (aS (Iv (IntKind.i64.wrap (((c.gd fi.toNat).n)+arg))) (zb (zG kr (st (yZ rfl (st (lD (Iv ((c.gd fi.toNat).n)) kT rfl (zd (g.b0) rfl) (st (xw rfl rfl (st (mV (.bool (decide (0≤((c.gd fi.toNat).n)))) (stc (V:=Iv arg) rfl rfl (fun bs=>?_) ?_))))))))))))))))))))))
 have hl506:=tD bs
 exact mV (Iv arg) rflB
 refine stc (V:=.bool (decide (0≤arg))) rfl rfl (fun ax=>?_) ?_
 have hl508:=tD ax
 exact xw (ifpC ax) rfl rflB
 refine st (zv rfl (fun hbp=>(ifpC hbp)) (st (mV (.bool ((decide (0≤((c.gd fi.toNat).n)))&&(decide (0≤arg)))) (stc (V:=Iv (IntKind.i64.wrap (((c.gd fi.toNat).n)+arg))) rfl rfl (fun bt=>?_) ?_))))
 have bu:=bt
 try simp only[zh]at bu
 exact mV (Iv (IntKind.i64.wrap (((c.gd fi.toNat).n)+arg))) rflB
 refine stc (V:=.bool (decide ((IntKind.i64.wrap (((c.gd fi.toNat).n)+arg))<0))) rfl rfl (fun ay=>?_) ?_
 have bv:=ay
 try simp only[zh]at bv
 exact zL (ifpC ay) rfl rflB
 refine st (zv rfl (fun hbp=>(ifpC hbp)) (st (yH rfl (st (mV (.bool (!(((decide (0≤((c.gd fi.toNat).n)))&&(decide (0≤arg)))&&(decide ((IntKind.i64.wrap (((c.gd fi.toNat).n)+arg))<0))))) (stc (V:=Ix U 0) rfl rfl (fun bw=>?_) ?_))))))
 have bx:=bw
 try simp only[zh]at bx
 exact yZ rfl rflB
 refine stc (V:=Iv ((c.gd fi.toNat).n)) rfl rfl (fun az=>?_) ?_
 have bz:=az
 try simp only[zh]at bz
 exact lD (Iv ((c.gd fi.toNat).n)) kT (ifpC az) (zd (g.b0) rfl) rflB
 refine stc (V:=.bool (decide (((c.gd fi.toNat).n)<0))) rfl rfl (fun aA=>?_) ?_
 have bA:=aA
 try simp only[zh]at bA
 exact zL (ifpC aA) rfl rflB
 refine stc (V:=.bool (decide (((c.gd fi.toNat).n)<0))) rfl rfl (fun aB=>?_) ?_
 have bB:=aB
 try simp only[zh]at bB
 exact zN (ifpC aB) rflB
 refine yY (V:=Iv arg) rfl rfl (fun aC=>?_) ?_
 have bC:=aC.1
 try simp only[zh]at bC
 have hl523:=tD aC.2
 exact mV (Iv arg) rflB
 refine yY (V:=.bool (decide (arg<0))) rfl rfl (fun N=>?_) ?_
 have bD:=N.1
 try simp only[zh]at bD
 have hl526:=tD N.2
 exact zL (ifpC ⟨N.1,N.2⟩) rfl rflB
 refine stc (V:=.bool ((decide (((c.gd fi.toNat).n)<0))&&(decide (arg<0)))) rfl rfl (fun ac=>?_) ?_
 have bE:=ac
 try simp only[zh]at bE
 exact zv (ifpC ac) (fun hbp=>(ifpC ⟨ac,hbp⟩)) rflB
 refine stc (V:=.bool ((decide (((c.gd fi.toNat).n)<0))&&(decide (arg<0)))) rfl rfl (fun aD=>?_) ?_
 have bF:=aD
 try simp only[zh]at bF
 exact zN (ifpC aD) rflB
 refine yY (V:=Iv (IntKind.i64.wrap (((c.gd fi.toNat).n)+arg))) rfl rfl (fun aE=>?_) ?_
 have bG:=aE.1
 try simp only[zh]at bG
 have bH:=aE.2
 try simp only[zh]at bH
 exact mV (Iv (IntKind.i64.wrap (((c.gd fi.toNat).n)+arg))) rflB
 refine yY (V:=.bool (decide (0≤(IntKind.i64.wrap (((c.gd fi.toNat).n)+arg))))) rfl rfl (fun O=>?_) ?_
 have bI:=O.1
 try simp only[zh]at bI
 have bJ:=O.2
 try simp only[zh]at bJ
 exact xw (ifpC ⟨O.1,O.2⟩) rfl rflB
 refine stc (V:=.bool (((decide (((c.gd fi.toNat).n)<0))&&(decide (arg<0)))&&(decide (0≤(IntKind.i64.wrap (((c.gd fi.toNat).n)+arg)))))) rfl rfl (fun ad=>?_) ?_
 have bK:=ad
 try simp only[zh]at bK
 exact zv (ifpC ad) (fun hbp=>(ifpC ⟨ad,hbp⟩)) rflB
 refine stc (V:=.bool (!(((decide (((c.gd fi.toNat).n)<0))&&(decide (arg<0)))&&(decide (0≤(IntKind.i64.wrap (((c.gd fi.toNat).n)+arg))))))) rfl rfl (fun aF=>?_) ?_
 have bL:=aF
 try simp only[zh]at bL
 exact yH (ifpC aF) rflB
 refine st (zv rfl (fun hbp=>(ifpC hbp)) (st (mV (.bool ((!(((decide (0≤((c.gd fi.toNat).n)))&&(decide (0≤arg)))&&(decide ((IntKind.i64.wrap (((c.gd fi.toNat).n)+arg))<0))))&&(!(((decide (((c.gd fi.toNat).n)<0))&&(decide (arg<0)))&&(decide (0≤(IntKind.i64.wrap (((c.gd fi.toNat).n)+arg)))))))) (stc (V:=Ix af 2) rfl rfl (fun bM=>?_) ?_))))
 have bN:=bM
 try simp only[zh]at bN
 exact Uf rfl rflB
 refine stc (V:=.bool ((t.fields.gd fi.toNat).floor)) rfl rfl (fun aG=>?_) ?_
 have bO:=aG
 try simp only[zh]at bO
 exact lD (.bool ((t.fields.gd fi.toNat).floor)) pA (ifpC aG) (zd (g.b1) rfl) rflB
 refine stc (V:=.bool ((t.fields.gd fi.toNat).floor)) rfl rfl (fun aH=>?_) ?_
 have bP:=aH
 try simp only[zh]at bP
 exact zN (ifpC aH) rflB
 refine yY (V:=Iv (IntKind.i64.wrap (((c.gd fi.toNat).n)+arg))) rfl rfl (fun aI=>?_) ?_
 have bQ:=aI.1
 try simp only[zh]at bQ
 have hl549:=aI.2
 exact mV (Iv (IntKind.i64.wrap (((c.gd fi.toNat).n)+arg))) rflB
 refine yY (V:=.bool (decide ((IntKind.i64.wrap (((c.gd fi.toNat).n)+arg))<0))) rfl rfl (fun P=>?_) ?_
 have bR:=P.1
 try simp only[zh]at bR
 have hl552:=P.2
 exact zL (ifpC ⟨P.1,P.2⟩) rfl rflB
 refine stc (V:=.bool (((t.fields.gd fi.toNat).floor)&&(decide ((IntKind.i64.wrap (((c.gd fi.toNat).n)+arg))<0)))) rfl rfl (fun ae=>?_) ?_
 have bS:=ae
 try simp only[zh]at bS
 exact zv (ifpC ae) (fun hbp=>(ifpC ⟨ae,hbp⟩)) rflB
 refine stc (V:=.bool (!(((t.fields.gd fi.toNat).floor)&&(decide ((IntKind.i64.wrap (((c.gd fi.toNat).n)+arg))<0))))) rfl rfl (fun aJ=>?_) ?_
 have bT:=aJ
 try simp only[zh]at bT
 exact yH (ifpC aJ) rflB
 refine st (zv rfl (fun hbp=>(ifpC hbp)) (st (aS (.bool (((!(((decide (0≤((c.gd fi.toNat).n)))&&(decide (0≤arg)))&&(decide ((IntKind.i64.wrap (((c.gd fi.toNat).n)+arg))<0))))&&(!(((decide (((c.gd fi.toNat).n)<0))&&(decide (arg<0)))&&(decide (0≤(IntKind.i64.wrap (((c.gd fi.toNat).n)+arg)))))))&&(!(((t.fields.gd fi.toNat).floor)&&(decide ((IntKind.i64.wrap (((c.gd fi.toNat).n)+arg))<0)))))) (zb (za (za (R0 fun _=>?_)))))))
 refine st (mV (.bool (((!(((decide (0≤((c.gd fi.toNat).n)))&&(decide (0≤arg)))&&(decide ((IntKind.i64.wrap (((c.gd fi.toNat).n)+arg))<0))))&&(!(((decide (((c.gd fi.toNat).n)<0))&&(decide (arg<0)))&&(decide (0≤(IntKind.i64.wrap (((c.gd fi.toNat).n)+arg)))))))&&(!(((t.fields.gd fi.toNat).floor)&&(decide ((IntKind.i64.wrap (((c.gd fi.toNat).n)+arg))<0)))))) (zb ?_))
 cases Q:((!(((decide (0≤((c.gd fi.toNat).n)))&&(decide (0≤arg)))&&(decide ((IntKind.i64.wrap (((c.gd fi.toNat).n)+arg))<0))))&&(!(((decide (((c.gd fi.toNat).n)<0))&&(decide (arg<0)))&&(decide (0≤(IntKind.i64.wrap (((c.gd fi.toNat).n)+arg)))))))&&(!(((t.fields.gd fi.toNat).floor)&&(decide ((IntKind.i64.wrap (((c.gd fi.toNat).n)+arg))<0))))
 have T:=Q
 try simp only[zh]at Q
 refine ze rfl (zr (za (R0 fun _=>st (aS (Iv 10) (zb (zp (zU kR (show _=(Iv 10:Value)from rfl) ?_)))))))
 refine⟨?_,(g.s3_)⟩
 congr 1
 have o:xz (xk t fi) c (yz c fi) op arg=false:=by rw[B];exact(zcH (ag).n harg).trans T
 unfold xy
 rw[o];rfl
 have T:=Q
 try simp only[zh]at Q
 refine zf rfl (za (R0 fun _=>st (aS (Iv 0) (zb (zp (zU kR (show _=(Iv 0:Value)from rfl) ?_))))))
 refine⟨?_,(g.s3_)⟩
 congr 1
 have o:xz (xk t fi) c (yz c fi) op arg=true:=by rw[B];exact(zcH (ag).n harg).trans T
 unfold xy
 rw[o];rfl
theorem XP {t:Typ}{c:List Cel}{fi op arg a:Int}{S:List Int}(h:(⟨a,S⟩:Cel)=xb (xk t fi) (yz c fi) op arg):c.set fi.toNat (⟨a,S⟩:Cel)=doL t c fi op arg:=by unfold doL;rw[h]
theorem dc_1 {fl:Fld}{c:Cel}{arg:Int}:xb fl c 1 arg=⟨IntKind.i64.wrap (c.n+arg),c.set⟩:=rfl
theorem dc_2 {fl:Fld}{c:Cel}{arg:Int}:xb fl c 2 arg=⟨arg,c.set⟩:=rfl
theorem dc_3 {fl:Fld}{c:Cel}{arg:Int}:xb fl c 3 arg=⟨c.n,ZU c.set arg⟩:=rfl
theorem dc_4 {fl:Fld}{c:Cel}{arg:Int}:xb fl c 4 arg=⟨c.n,Zw c.set arg⟩:=rfl
theorem dc_5 {fl:Fld}{c:Cel}{arg:Int}:xb fl c 5 arg=⟨(Yb fl arg).to,c.set⟩:=rfl
theorem dc_o {fl:Fld}{c:Cel}{op arg:Int}(h1: ¬op=1)(h2: ¬op=2)(h3: ¬op=3)(h4: ¬op=4)(h5: ¬op=5):xb fl c op arg=c:=by unfold xb;rw[if_neg h1,if_neg h2,if_neg h3,if_neg h4,if_neg h5]
theorem zaY {t:Typ}{dt0:Value}(hdt0:RdS W G dt0 t.fields)(ot:t.Ok){vc:Value}{c:List Cel}(hc:RdS W G vc c){fi:Int}(hfi:InR fi){op:Int}(hop:InR op){arg:Int}(harg:InR arg)(hS0:Sep G W Rs w)(hask:Wo t c fi op arg)(hfew:(c.getD fi.toNat default).set.length≤1000):Ret Tryz.prog 77 [.agg (t.cells dt0).toArray,vc,.int .i64 (fi),.int .i64 (op),.int .i64 (arg)] w (fun r w'=> ∃(v:Value),r=(v:Value)∧Sep G W ((RowE (α:=Cel) own 105 v (doL t c fi op arg))::Rs) w'):=by
 let bj:=doL t c fi op arg
 let bi:=c.gd fi.toNat
 let bh:=((t.fields.gd fi.toNat).moves).gd arg.toNat
 have hdt0s:_*48≤_:=hdt0.small
 have hcs:_*32≤_:=hc.small
 have ha0:=hask.1
 have ha1:=hask.2.1
 have ha2:=hask.2.2.1
 refine zk (args:=[.agg (t.cells dt0).toArray,vc,Iv fi,Iv op,Iv arg]) Tryz.func77 rfl rfl ?_
 refine za (R0 fun _=>st (zW (v:=.agg (t.cells dt0).toArray) rfl ?_))
 intro w3 b2 bd
 refine st (aS Iz (zb (za (R0 fun _=>st (mV vc (st (cL Tryz.call89 (zdU (c:=c) (vc:=vc) hc (hS0.new bd)) ?_)))))))
 rintro e w6 ⟨_,rfl,bf⟩
 refine st (aS e (zb (za (R0 fun _=>?_))))
 obtain⟨d,g,aH⟩:=CelW.open bf
 let be:=d.gd fi.toNat
 have hsh9l:=g.1
 have J:Sep G W ((RowE (α:=CelS) own 105 e d)::(Star (SetRows 3 d c))::(Blk b2 (t.cells dt0).toArray 83)::Rs) w6:=aH
 have p:=J.r0
 have hr11s:_*32≤_:=p.2
 have K:=g.2 fi.toNat om
 have I:Sep G W ((RowE (α:=Int) own 3 ((d.gd fi.toNat).v) ((c.gd fi.toNat).set))::(Star ((SetRows 3 d c).set fi.toNat Emp))::(RowE (α:=CelS) own 105 e d)::(Blk b2 (t.cells dt0).toArray 83)::Rs) w6:=Sep.takeStar (J.mv1) (SetRows.get (i:=fi.toNat) om om)
 have m:=I.r0
 have hr14s:_*8≤_:=m.2
 refine st (mV e (st (mV (Iv fi) ?_)))
 have hi15:fi.toNat<d.length:=bo
 refine st (zx (k:=2) (i:=fi) sT lT rfl p.1 rfl ⟨by omega,by omega⟩ ?_)
 have aI:fi.toNat<d.length:=bo
 obtain⟨_,_,an,rfl,y⟩:=I.rowAtD (i:=2) (j:=fi.toNat) rfl aI
 refine st (zi (k:=2) tT lT rfl rfl an (st (zB nA ?_)))
 intro w20 b19 aJ
 have Y:=I.new aJ
 refine stn (zw (v:=.agg (be.cells).toArray) (c':=(be.cells).toArray) lT rfl rfl (Y.b0) (yo ⟨rfl,m.1.one,zl⟩) yqc rfl ?_)
 intro w22 aK
 have f:=Y.pt0 aK
 refine zb (za (za (R0 fun _=>st (mV (Iv op) (zb (zu (za (R0 fun _=>st (zQ (k:=.i64) (a:=op) (b:=1) rfl rfl (st (aS (.bool (decide (op=1))) (zb ?_))))))))))))
 cases z:decide (op=1)
 have z:=fD z
 refine ze rfl (za (R0 fun _=>st (zQ (k:=.i64) (a:=op) (b:=2) rfl rfl (st (aS (.bool (decide (op=2))) (zb ?_))))))
 cases A:decide (op=2)
 have A:=fD A
 refine ze rfl (za (R0 fun _=>st (zQ (k:=.i64) (a:=op) (b:=3) rfl rfl (st (aS (.bool (decide (op=3))) (zb ?_))))))
 cases B:decide (op=3)
 have B:=fD B
 refine ze rfl (za (R0 fun _=>st (zQ (k:=.i64) (a:=op) (b:=4) rfl rfl (st (aS (.bool (decide (op=4))) (zb ?_))))))
 cases C:decide (op=4)
 have C:=fD C
 refine ze rfl (za (R0 fun _=>st (zQ (k:=.i64) (a:=op) (b:=5) rfl rfl (st (aS (.bool (decide (op=5))) (zb ?_))))))
 cases x:decide (op=5)
 have x:=fD x
 refine ze rfl (zr (za (R0 fun _=>st (mV e (st (mV (Iv fi) (st (zi (k:=2) tT lT rfl rfl (zo (f.b0)) ?_))))))))
 have hi30:fi.toNat<d.length:=bo
 refine st (zx (k:=2) (i:=fi) sT lT rfl p.1 rfl ⟨by omega,by omega⟩ ?_)
 have aL:=(f.mv3).emp1
 refine stn (yI (α:=CelS) (j:=fi.toNat) (o:=0) (u:=.agg ((d.getD fi.toNat default).cells).toArray) (us:=(d.getD fi.toNat default).cells) (x1:=(⟨(d.getD fi.toNat default).n,(d.getD fi.toNat default).v⟩:CelS)) aL lT bo rfl rfl rfl (yQ rfl) (yo ⟨rfl,m.1.one,zl⟩) (fun _ _ _ hel _=>(by rw[←zI default (by omega)]at hel;obtain⟨rfl,hok⟩:=hel;exact⟨rfl,⟨y.n,m.1.one⟩⟩)) ?_)
 intro w31 Z
 have aM:=Z.r0
 have hr35s:_*32≤_:=aM.2
 refine zb (za ?_)
 have aa:Sep _ _ ((CelW e 105 3 (c.set fi.toNat (⟨(d.gd fi.toNat).n,(c.gd fi.toNat).set⟩:Cel)))::_) _:=CelW.close (i:=fi.toNat) (s:=(⟨(d.gd fi.toNat).n,(d.gd fi.toNat).v⟩:CelS)) (c:=(⟨(d.gd fi.toNat).n,(c.gd fi.toNat).set⟩:Cel)) g.1 g.2 om rfl (Z.s5_cdabe)
 have h:c.set fi.toNat (⟨(d.getD fi.toNat default).n,(c.getD fi.toNat default).set⟩:Cel)=doL t c fi op arg:=XP (by rw[K,dc_o (by omega) (by omega) (by omega) (by omega) (by omega)];rfl)
 rw[h]at aa
 have aN:Sep _ _ ((RowE (α:=Cel) own 105 e bj)::_) _:=CelW.row aa
 refine R0 fun _=>st (mV e (st (aS e (zb (zp (zU pR (show _=(e:Value)from rfl) ?_))))))
 refine⟨e,rfl,(aN.s3_a)⟩
 have x:=tD x
 have bg:=hask.2.2.2.2 x
 have ha51:arg<(t.fields.gd fi.toNat).moves.length:=bg.2.1
 refine zf rfl (R0 fun _=>st (yT rfl (st (lD dt0 tR rfl (zd (f.b4) rfl) (st (mV (Iv fi) ?_))))))
 have hi40:fi.toNat<t.fields.length:=bo
 refine st (zx (k:=4) (i:=fi) uR mT rfl hdt0.sl rfl ⟨by omega,by omega⟩ (st (yS rfl ?_)))
 have ab:fi.toNat<t.fields.length:=bo
 obtain⟨ao,q,hoke41⟩:=hdt0.fldD ab
 have hsm43:((t.fields.gd fi.toNat).moves).length*32≤140737488355328:=q.small
 have ap:=f.cells ao (hdt0.foot (ne_of_lt ab))
 refine st (lD (zP W (sb dt0) (so dt0+fi.toNat*4+3)) vR rfl (ap.get (j:=3) rfl) (st (mV (Iv arg) ?_)))
 have hi45:arg.toNat<((t.fields.gd fi.toNat).moves).length:=bo
 refine st (zx (k:=4) (i:=arg) oR wT rfl q.sl rfl ⟨by omega,by omega⟩ (st (Kc rfl ?_)))
 have ac:arg.toNat<((t.fields.gd fi.toNat).moves).length:=bo
 obtain⟨aq,ad⟩:=q.mvD ac
 have ar:=f.cells aq (q.foot (ne_of_lt ac))
 refine st (lD (Iv (bh.to)) kT rfl (ar.get (j:=1) rfl) (st (yZ rfl (stn (ym (v:=Iv (bh.to)) qT rfl rfl (f.b0) rfl rfl rfl ?_)))))
 intro w49 aO
 have ae:=f.pt0 aO
 refine zb (za (R0 fun _=>st (mV e (st (mV (Iv fi) (st (zi (k:=2) tT lT rfl rfl (zo (ae.b0)) ?_)))))))
 have hi52:fi.toNat<d.length:=bo
 refine st (zx (k:=2) (i:=fi) sT lT rfl p.1 rfl ⟨by omega,by omega⟩ ?_)
 have aP:=(ae.mv3).emp1
 refine stn (yI (α:=CelS) (j:=fi.toNat) (o:=0) (u:=.agg #[Iv ((((t.fields.getD fi.toNat default).moves).getD arg.toNat default).to),(d.getD fi.toNat default).v]) (us:=[Iv ((((t.fields.getD fi.toNat default).moves).getD arg.toNat default).to),(d.getD fi.toNat default).v]) (x1:=(⟨(((t.fields.getD fi.toNat default).moves).getD arg.toNat default).to,(d.getD fi.toNat default).v⟩:CelS)) aP lT bo rfl rfl rfl (yQ rfl) (yo ⟨rfl,m.1.one,zl⟩) (fun _ _ _ hel _=>(by rw[←zI default (by omega)]at hel;obtain⟨rfl,hok⟩:=hel;exact⟨rfl,⟨ad.to,m.1.one⟩⟩)) ?_)
 intro w53 af
 have aQ:=af.r0
 have hr57s:_*32≤_:=aQ.2
 refine zb (za ?_)
 have ag:Sep _ _ ((CelW e 105 3 (c.set fi.toNat (⟨(((t.fields.gd fi.toNat).moves).gd arg.toNat).to,(c.gd fi.toNat).set⟩:Cel)))::_) _:=CelW.close (i:=fi.toNat) (s:=(⟨(((t.fields.gd fi.toNat).moves).gd arg.toNat).to,(d.gd fi.toNat).v⟩:CelS)) (c:=(⟨(((t.fields.gd fi.toNat).moves).gd arg.toNat).to,(c.gd fi.toNat).set⟩:Cel)) g.1 g.2 om rfl (af.s5_cdabe)
 have h:c.set fi.toNat (⟨bh.to,bi.set⟩:Cel)=doL t c fi op arg:=XP (by rw[x,dc_5];rfl)
 rw[h]at ag
 have aR:Sep _ _ ((RowE (α:=Cel) own 105 e bj)::_) _:=CelW.row ag
 refine R0 fun _=>st (mV e (st (aS e (zb (zp (zU pR (show _=(e:Value)from rfl) ?_))))))
 refine⟨e,rfl,(aR.s3_a)⟩
 have C:=tD C
 have aG:Asc (c.gd fi.toNat).set:=hask.2.2.2.1 om
 refine zf rfl (R0 fun _=>st (yX rfl (st (lD (be.v) mR rfl (zd (f.b0) rfl) (st (mV (Iv arg) ?_))))))
 obtain⟨G63,aT,hB66,aU,aV⟩:=(f.mv1).lend
 have L:=RowE.rd aT
 have hrd69s:_*8≤_:=L.small
 refine st (cL Tryz.call91 (Jz (l:=bi.set) (vl:=be.v) (n:=arg) L harg aU hfew) ?_)
 rintro D w71 ⟨_,rfl,ah⟩
 have F:=ah.r0
 have hr73s:_*8≤_:=F.2
 have ai:=aV _ _ ah
 refine st (yX rfl (stn (ym (v:=D) pY rfl rfl (ai.b2) F.1.one rfl rfl ?_)))
 intro w75 aW
 have aj:=ai.pt2 aW
 refine zb (za (R0 fun _=>st (mV e (st (mV (Iv fi) (st (zi (k:=2) tT lT rfl rfl (zo (aj.b2)) ?_)))))))
 have hi78:fi.toNat<d.length:=bo
 refine st (zx (k:=2) (i:=fi) sT lT rfl p.1 rfl ⟨by omega,by omega⟩ ?_)
 have aX:=(aj.mv4).emp1
 refine stn (yI (α:=CelS) (j:=fi.toNat) (o:=0) (u:=.agg #[Iv ((d.getD fi.toNat default).n),D]) (us:=[Iv ((d.getD fi.toNat default).n),D]) (x1:=(⟨(d.getD fi.toNat default).n,D⟩:CelS)) aX lT bo rfl rfl rfl (yQ rfl) (yo ⟨rfl,F.1.one,zl⟩) (fun _ _ _ hel _=>(by rw[←zI default (by omega)]at hel;obtain⟨rfl,hok⟩:=hel;exact⟨rfl,⟨y.n,F.1.one⟩⟩)) ?_)
 intro w79 ak
 have aY:=ak.r0
 have hr83s:_*32≤_:=aY.2
 refine zb (za ?_)
 have al:Sep _ _ ((CelW e 105 3 (c.set fi.toNat (⟨(d.gd fi.toNat).n,(Zw ((c.gd fi.toNat).set) arg)⟩:Cel)))::_) _:=CelW.close (i:=fi.toNat) (s:=(⟨(d.gd fi.toNat).n,D⟩:CelS)) (c:=(⟨(d.gd fi.toNat).n,(Zw ((c.gd fi.toNat).set) arg)⟩:Cel)) g.1 g.2 om rfl (ak.s6_ceabdf)
 have h:c.set fi.toNat (⟨be.n,(Zw (bi.set) arg)⟩:Cel)=doL t c fi op arg:=XP (by rw[K,C,dc_4];rfl)
 rw[h]at al
 have aZ:Sep _ _ ((RowE (α:=Cel) own 105 e bj)::_) _:=CelW.row al
 refine R0 fun _=>st (mV e (st (aS e (zb (zp (zU pR (show _=(e:Value)from rfl) ?_))))))
 refine⟨e,rfl,(aZ.s4_a)⟩
 have B:=tD B
 have aG:Asc (c.gd fi.toNat).set:=hask.2.2.2.1 om
 refine zf rfl (R0 fun _=>st (yX rfl (st (lD (be.v) mR rfl (zd (f.b0) rfl) (st (mV (Iv arg) ?_))))))
 obtain⟨G89,ba,hB92,bb,bc⟩:=(f.mv1).lend
 have M:=RowE.rd ba
 have hrd95s:_*8≤_:=M.small
 refine st (cL Tryz.call90 (zdN (l:=bi.set) (vl:=be.v) (n:=arg) M harg bb aG hfew) ?_)
 rintro E w97 ⟨_,rfl,am⟩
 have H:=am.r0
 have hr99s:_*8≤_:=H.2
 have N:=bc _ _ am
 refine st (yX rfl (stn (ym (v:=E) pY rfl rfl (N.b2) H.1.one rfl rfl ?_)))
 intro w101 au
 have O:=N.pt2 au
 refine zb (za (R0 fun _=>st (mV e (st (mV (Iv fi) (st (zi (k:=2) tT lT rfl rfl (zo (O.b2)) ?_)))))))
 have hi104:fi.toNat<d.length:=bo
 refine st (zx (k:=2) (i:=fi) sT lT rfl p.1 rfl ⟨by omega,by omega⟩ ?_)
 have av:=(O.mv4).emp1
 refine stn (yI (α:=CelS) (j:=fi.toNat) (o:=0) (u:=.agg #[Iv ((d.getD fi.toNat default).n),E]) (us:=[Iv ((d.getD fi.toNat default).n),E]) (x1:=(⟨(d.getD fi.toNat default).n,E⟩:CelS)) av lT bo rfl rfl rfl (yQ rfl) (yo ⟨rfl,H.1.one,zl⟩) (fun _ _ _ hel _=>(by rw[←zI default (by omega)]at hel;obtain⟨rfl,hok⟩:=hel;exact⟨rfl,⟨y.n,H.1.one⟩⟩)) ?_)
 intro w105 P
 have aw:=P.r0
 have hr109s:_*32≤_:=aw.2
 refine zb (za ?_)
 have Q:Sep _ _ ((CelW e 105 3 (c.set fi.toNat (⟨(d.gd fi.toNat).n,(ZU ((c.gd fi.toNat).set) arg)⟩:Cel)))::_) _:=CelW.close (i:=fi.toNat) (s:=(⟨(d.gd fi.toNat).n,E⟩:CelS)) (c:=(⟨(d.gd fi.toNat).n,(ZU ((c.gd fi.toNat).set) arg)⟩:Cel)) g.1 g.2 om rfl (P.s6_ceabdf)
 have h:c.set fi.toNat (⟨be.n,(ZU (bi.set) arg)⟩:Cel)=doL t c fi op arg:=XP (by rw[K,B,dc_3];rfl)
 rw[h]at Q
 have ax:Sep _ _ ((RowE (α:=Cel) own 105 e bj)::_) _:=CelW.row Q
 refine R0 fun _=>st (mV e (st (aS e (zb (zp (zU pR (show _=(e:Value)from rfl) ?_))))))
 refine⟨e,rfl,(ax.s4_a)⟩
 have A:=tD A
 refine zf rfl (R0 fun _=>st (mV (Iv arg) (st (yZ rfl (stn (ym (v:=Iv arg) qT rfl rfl (f.b0) rfl rfl rfl ?_))))))
 intro w114 ay
 have R:=f.pt0 ay
 refine zb (za (R0 fun _=>st (mV e (st (mV (Iv fi) (st (zi (k:=2) tT lT rfl rfl (zo (R.b0)) ?_)))))))
 have hi117:fi.toNat<d.length:=bo
 refine st (zx (k:=2) (i:=fi) sT lT rfl p.1 rfl ⟨by omega,by omega⟩ ?_)
 have az:=(R.mv3).emp1
 refine stn (yI (α:=CelS) (j:=fi.toNat) (o:=0) (u:=.agg #[Iv arg,(d.getD fi.toNat default).v]) (us:=[Iv arg,(d.getD fi.toNat default).v]) (x1:=(⟨arg,(d.getD fi.toNat default).v⟩:CelS)) az lT bo rfl rfl rfl (yQ rfl) (yo ⟨rfl,m.1.one,zl⟩) (fun _ _ _ hel _=>(by rw[←zI default (by omega)]at hel;obtain⟨rfl,hok⟩:=hel;exact⟨rfl,⟨harg,m.1.one⟩⟩)) ?_)
 intro w118 S
 have aA:=S.r0
 have hr122s:_*32≤_:=aA.2
 refine zb (za ?_)
 have T:Sep _ _ ((CelW e 105 3 (c.set fi.toNat (⟨arg,(c.gd fi.toNat).set⟩:Cel)))::_) _:=CelW.close (i:=fi.toNat) (s:=(⟨arg,(d.gd fi.toNat).v⟩:CelS)) (c:=(⟨arg,(c.gd fi.toNat).set⟩:Cel)) g.1 g.2 om rfl (S.s5_cdabe)
 have h:c.set fi.toNat (⟨arg,bi.set⟩:Cel)=doL t c fi op arg:=XP (by rw[A,dc_2];rfl)
 rw[h]at T
 have aB:Sep _ _ ((RowE (α:=Cel) own 105 e bj)::_) _:=CelW.row T
 refine R0 fun _=>st (mV e (st (aS e (zb (zp (zU pR (show _=(e:Value)from rfl) ?_))))))
 refine⟨e,rfl,(aB.s3_a)⟩
 have z:=tD z
 refine zf rfl (R0 fun _=>st (yZ rfl (st (lD (Iv (be.n)) kT rfl (zd (f.b0) rfl) (st (mV (Iv arg) (st (zR (r:=IntKind.i64.wrap ((be.n)+arg)) (k:=.i64) (a:=be.n) (b:=arg) rfl rfl rfl (st (yZ rfl (stn (ym (v:=Iv (IntKind.i64.wrap ((be.n)+arg))) qT rfl rfl (f.b0) rfl rfl rfl ?_))))))))))))
 intro w127 aC
 have U:=f.pt0 aC
 refine zb (za (R0 fun _=>st (mV e (st (mV (Iv fi) (st (zi (k:=2) tT lT rfl rfl (zo (U.b0)) ?_)))))))
 have hi130:fi.toNat<d.length:=bo
 refine st (zx (k:=2) (i:=fi) sT lT rfl p.1 rfl ⟨by omega,by omega⟩ ?_)
 have aD:=(U.mv3).emp1
 refine stn (yI (α:=CelS) (j:=fi.toNat) (o:=0) (u:=.agg #[Iv (IntKind.i64.wrap (((d.getD fi.toNat default).n)+arg)),(d.getD fi.toNat default).v]) (us:=[Iv (IntKind.i64.wrap (((d.getD fi.toNat default).n)+arg)),(d.getD fi.toNat default).v]) (x1:=(⟨IntKind.i64.wrap (((d.getD fi.toNat default).n)+arg),(d.getD fi.toNat default).v⟩:CelS)) aD lT bo rfl rfl rfl (yQ rfl) (yo ⟨rfl,m.1.one,zl⟩) (fun _ _ _ hel _=>(by rw[←zI default (by omega)]at hel;obtain⟨rfl,hok⟩:=hel;exact⟨rfl,⟨(Yl _),m.1.one⟩⟩)) ?_)
 intro w131 V
 have aE:=V.r0
 have hr135s:_*32≤_:=aE.2
 refine zb (za ?_)
 have X:Sep _ _ ((CelW e 105 3 (c.set fi.toNat (⟨IntKind.i64.wrap (((d.gd fi.toNat).n)+arg),(c.gd fi.toNat).set⟩:Cel)))::_) _:=CelW.close (i:=fi.toNat) (s:=(⟨IntKind.i64.wrap (((d.gd fi.toNat).n)+arg),(d.gd fi.toNat).v⟩:CelS)) (c:=(⟨IntKind.i64.wrap (((d.gd fi.toNat).n)+arg),(c.gd fi.toNat).set⟩:Cel)) g.1 g.2 om rfl (V.s5_cdabe)
 have h:c.set fi.toNat (⟨IntKind.i64.wrap ((be.n)+arg),bi.set⟩:Cel)=doL t c fi op arg:=XP (by rw[K,z,dc_1];rfl)
 rw[h]at X
 have aF:Sep _ _ ((RowE (α:=Cel) own 105 e bj)::_) _:=CelW.row X
 refine R0 fun _=>st (mV e (st (aS e (zb (zp (zU pR (show _=(e:Value)from rfl) ?_))))))
 refine⟨e,rfl,(aF.s3_a)⟩
def RefV (b:Nat)(d:Dcl)(L:List Ent):HP:=Ex1 fun vt=>Ex1 fun vp=>Ex1 fun ve=>Star [Blk b #[vt,vp,ve] 130,RowE (α:=Typ) own 83 vt d.types,RowE (α:=Prj) own 73 vp d.projs,RowE (α:=Ent) own 57 ve L]
section
variable {G:Nat→Prop}{W w:World}{As:List HP}{b:Nat}{d:Dcl}{L:List Ent}
theorem RefV.open (h:Sep G W (RefV b d L::As) w): ∃vt vp ve,Sep G W (Blk b #[vt,vp,ve] 130::RowE (α:=Typ) own 83 vt d.types::RowE (α:=Prj) own 73 vp d.projs::RowE (α:=Ent) own 57 ve L::As) w:=by
 obtain⟨vt,h⟩:=h.openEx
 obtain⟨vp,h⟩:=h.openEx
 obtain⟨ve,h⟩:=h.openEx
 exact⟨vt,vp,ve,h.openStar⟩
theorem RefV.close {vt vp ve:Value}(h:Sep G W (Blk b #[vt,vp,ve] 130::RowE (α:=Typ) own 83 vt d.types::RowE (α:=Prj) own 73 vp d.projs::RowE (α:=Ent) own 57 ve L::As) w):Sep G W (RefV b d L::As) w:=by
 have h:=Sep.closeStar (Bs:=[Blk b #[vt,vp,ve] 130,RowE (α:=Typ) own 83 vt d.types,RowE (α:=Prj) own 73 vp d.projs,RowE (α:=Ent) own 57 ve L]) h
 exact Sep.closeEx (A:=fun vt=>Ex1 fun vp=>Ex1 fun ve=>Star [Blk b #[vt,vp,ve] 130,RowE (α:=Typ) own 83 vt d.types,RowE (α:=Prj) own 73 vp d.projs,RowE (α:=Ent) own 57 ve L]) vt (Sep.closeEx (A:=fun vp=>Ex1 fun ve=>Star [Blk b #[vt,vp,ve] 130,RowE (α:=Typ) own 83 vt d.types,RowE (α:=Prj) own 73 vp d.projs,RowE (α:=Ent) own 57 ve L]) vp (Sep.closeEx (A:=fun ve=>Star [Blk b #[vt,vp,ve] 130,RowE (α:=Typ) own 83 vt d.types,RowE (α:=Prj) own 73 vp d.projs,RowE (α:=Ent) own 57 ve L]) ve h))
theorem RefV.sh (h:(RefV b d L).p W G): ∃vt vp ve,(Blk b #[vt,vp,ve] 130).p W G∧RdS W G vt d.types∧RdS W G vp d.projs∧RdS W G ve L:=by
 obtain⟨vt,vp,ve,h⟩:=h
 exact⟨vt,vp,ve,Star.at_ h (i:=0) rfl,RowE.rd (T:=83) (Star.at_ h (i:=1) rfl),RowE.rd (T:=73) (Star.at_ h (i:=2) rfl),RowE.rd (T:=57) (Star.at_ h (i:=3) rfl)⟩
end
theorem Zq {e:Ev}{de0:Value}(hde0:RdS W G de0 e.deps)(oe:e.Ok)(hS0:Sep G W Rs w):Ret Tryz.prog 40 [.agg (e.cells de0).toArray] w (fun r w'=> ∃(v:Value),r=(.agg (e.cells v).toArray:Value)∧Sep G W ((RowE (α:=Int) own 3 v e.deps)::Rs) w'):=by
 refine zk Tryz.func40 rfl rfl ?_
 refine za (R0 fun _=>st (zW rfl ?_))
 intro w3 b2 n
 refine st (zB qA ?_)
 intro w7 p o
 have i:=(hS0.new n).new o
 refine zb (za (R0 fun _=>st (xQ rfl (st (lD de0 mR rfl (zd (i.b1) rfl) (st (cL Tryz.call62 (Vs hde0 i) ?_)))))))
 rintro g w10 ⟨_,rfl,a⟩
 have d:=a.r0
 refine st (xQ rfl (stn (ym (v:=g) pY rfl rfl (a.b2) d.1.one rfl rfl ?_)))
 intro w13 j
 have f:=a.pt2 j
 refine zb (za (R0 fun _=>st (zi rT oT rfl rfl (zo (f.b2)) (stn (zw (v:=.agg (e.cells g).toArray) oT rfl rfl (f.b1) (yo ⟨rfl,rfl,rfl,d.1.one,rfl,rfl,rfl,rfl,rfl,rfl,zl⟩) yqc rfl ?_)))))
 intro w17 m
 have h:=f.pt1 m
 refine zb (zp (ZY Tryz.results40 rT oT rfl rfl (zo (h.b1)) ?_))
 refine⟨g,rfl,(h.s3_a)⟩
theorem VE {vl:Value}{l:List Ent}(hl:RdS W G vl l)(hS0:Sep G W Rs w):Ret Tryz.prog 70 [vl] w (fun r w'=> ∃(v:Value),r=(v:Value)∧Sep G W ((RowE (α:=Ent) own 57 v l)::Rs) w'):=by
 have hls:_*120≤_:=hl.small
 refine zk Tryz.func70 rfl rfl ?_
 refine za (R0 fun _=>st (aS Iz (zb (za (R0 fun _=>st (aS Iz (zb (za (za (R0 fun _=>st (aS (Iv 0) (zb (zu ?_)))))))))))))
 have L:Sep G W ((RowE (α:=Ent) own 57 Iz [])::Rs) w:=hS0.rowNil own 57
 refine yd (fun mq σ P=> ∃k vo ρ,mq=l.length-k∧σ=yg ρ [(0,vl),(4,Iw k),(3,vo)]∧(k≤l.length)∧Sep G W ((RowE own 57 vo (l.take k))::Rs) P) ⟨0,(Iz),_,rfl,sSf,yc _,L⟩ ?_
 rintro m3 σ4 w2 ⟨k,vo,ρl1,rfl,rfl,hkk,f⟩
 let R:=zP W (sb vl) (so vl+k*13+3)
 have M:=f.r0
 have hr6s:_*120≤_:=M.2
 refine za (za (R0 fun _=>st (mV (Iw k) (st (mV vl (st (zF qR rfl hl.sl (st (zL rfl rfl (zb ?_))))))))))
 cases j:decide (((k:Nat):Int)<((l.length:Nat):Int))
 have j:=fD j
 have hkn:k=l.length:=by omega
 rw[hkn,List.take_of_length_le (Nat.le_refl l.length)]at f
 have N:=f.r0
 have hr8s:_*120≤_:=N.2
 refine ze rfl (ye (zT (za (R0 fun _=>st (mV vo (st (aS vo (zb (zp (zU Tryz.results70 (show _=(vo:Value)from rfl) ?_))))))))))
 refine⟨vo,rfl,f⟩
 have j:=tD j
 refine zf rfl (zr (za (zu (za (R0 fun _=>st (mV vl (st (mV (Iw k) ?_))))))))
 have O:k<l.length:=bo
 refine st (zg (k:=13) qR lR rfl hl.sl rfl O ?_)
 have o:k<l.length:=bo
 obtain⟨z,d,g⟩:=hl.entD o
 have hsm12:((l.getD k default).ev.deps).length*8≤140737488355328:=d.small
 have A:=f.cells z (hl.foot (ne_of_lt o))
 refine st (zi rA lR rfl rfl A (st (zB sA ?_)))
 intro w16 b15 D
 have p:=f.new D
 refine stn (zw (v:=.agg ((l.getD k default).cells R).toArray) lR rfl rfl (p.b0) (yo ⟨rfl,rfl,rfl,d.sl.one,rfl,rfl,rfl,rfl,rfl,rfl,rfl,rfl,rfl,zl⟩) yqc rfl ?_)
 intro w18 E
 have q:=p.pt0 E
 refine zb (za (R0 fun _=>st (xt rfl (st (zi rT oT rfl rfl (CellsAt.sub (zo (q.b0)) 0 rfl) (st (cL Tryz.call40 (Zq d g.ev q) ?_)))))))
 rintro _ w22 ⟨m,rfl,h⟩
 have s:=h.r0
 have hr24s:_*8≤_:=s.2
 refine st (xt rfl (stn (zw (v:=.agg (((l.getD k default).ev).cells m).toArray) oT rfl rfl (h.b1) (yo ⟨rfl,rfl,rfl,s.1.one,rfl,rfl,rfl,rfl,rfl,rfl,zl⟩) yqc rfl ?_)))
 intro w25 F
 have t:=h.pt1 F
 refine zb (R0 fun _=>st (mV vo (st (zi rA lR rfl rfl (zo (t.b1)) (st (zD (c:=((l.getD k default).cells m).toArray) qR lR sA dc rfl kr ?_))))))
 intro w30 b29 H
 have u:=t.new H
 have B:=u.b0
 refine st (yq (src:=own) (bytes:=120) (x1:=(l.getD k default)) (u.s4_dbc) zbE rfl rfl B (fun _ _ Q=>⟨_,rfl,RowE.soft Q,g⟩) yqb rfl ?_)
 intro C w32 x
 have I:=x.r0
 have hr37s:_*120≤_:=I.2
 refine st (aS C (zb (R0 fun _=>st (mV (Iw k) ?_))))
 have J:InR ((k+1:Nat):Int):=bo
 refine st (zR (r:=((k+1:Nat):Int)) rfl rfl (by rw[show(((k:Nat):Int)+1:Int)=((k+1:Nat):Int)from bo];exact zz J) (st (aS (Iw (k+1)) (zb ?_))))
 have y:=x.s2_a
 have K:(l.take (k+1))=(l.take k)++[(l.getD k default)]:=(List.take_getD om)
 rw[←K]at y
 exact⟨_,by omega,k+1,C,_,rfl,sSf,by omega,y⟩
theorem WS {d:Dcl}{dd0:Value}(hdd0:RdS W G dd0 d.types){dd1:Value}(hdd1:RdS W G dd1 d.projs)(od:d.Ok)(hS0:Sep G W Rs w):Ret Tryz.prog 68 [.agg (d.cells dd0 dd1).toArray] w (fun r w'=> ∃(b:Nat),r=(.pointer (some ⟨b,0,none⟩):Value)∧Sep G W ((RefV b d ([]:List Ent))::Rs) w'):=by
 refine zk Tryz.func68 rfl rfl ?_
 refine za (R0 fun _=>st (zW rfl ?_))
 intro w3 b2 m
 have f:=hS0.new m
 refine st (aS (.pointer none) (zb (za (R0 fun _=>st (zi kA lA rfl rfl (zo (f.b0)) (st (cL Tryz.call39 (Wm hdd0 hdd1 od f) ?_)))))))
 rintro _ w7 ⟨a,e,rfl,g⟩
 have n:=g.r1
 refine st (zX (parts':=[(0,.agg (d.cells a e).toArray)]) (v:=.agg #[a,e,(Iz)]) rfl yqe (st (zW rfl ?_)))
 intro w12 c h
 refine st (aS (Ix c 0) (zb (zp (zU Tryz.results68 (show _=(Ix c 0:Value)from rfl) ?_))))
 have i:Sep _ _ ((RowE (α:=Typ) own 83 a d.types)::_) _:=TypW.row ((g.new h).mv1)
 have j:Sep _ _ ((RowE (α:=Ent) own 57 Iz [])::_) _:=i.rowNil own 57
 have l:Sep _ _ ((RefV c d ([]:List Ent))::_) _:=RefV.close (j.s5_cbdae)
 refine⟨c,rfl,(l.s2_a)⟩
theorem Uk {b:Nat}{d:Dcl}{L:List Ent}(hb:(RefV b d L).p W G)(hS0:Sep G W Rs w):Ret Tryz.prog 46 [.pointer (some ⟨b,0,none⟩)] w (fun r w'=> ∃(v:Value),r=(v:Value)∧Sep G W ((RowE (α:=Ent) own 57 v L)::Rs) w'):=by
 refine zk Tryz.func46 rfl rfl ?_
 obtain⟨vt1,vp2,e,h,i,j,f⟩:=RefV.sh hb
 refine za (R0 fun _=>st (aS Iz (zb (za (R0 fun _=>st (mV (Ix b 0) (st (zj rfl (st (ZA rfl (st (lD e mY rfl (zd (hS0.gblk h) rfl) (st (cL Tryz.call70 (VE f hS0) ?_))))))))))))))
 rintro a w12 ⟨_,rfl,c⟩
 have g:=c.r0
 refine st (aS a (zb (zp (zU Tryz.results46 (show _=(a:Value)from rfl) ?_))))
 refine⟨a,rfl,c⟩
end
section
open Go.Proofs Go.RowKit
def Ran (d:Dcl)(L:List Ent):Prop:= ∃l,L=zq d l
theorem Ran.inv {d:Dcl}{L:List Ent}(hd:DclOk d)(h:Ran d L):Inv d L:=by
 obtain⟨l,rfl⟩:=h
 exact Inv.run hd l
theorem Ran.zero {d:Dcl}{L:List Ent}{ty no:Int}(h:Ran d L)(ht:ty<0∨(d.types.length:Int)≤ty):yu (ty,no) L=0:=by
 obtain⟨l,rfl⟩:=h
 by_cases hv:yu (ty,no) (zq d l)=0
 ·exact hv
 ·have:=zbH l hv
  omega
theorem Ran.done {d:Dcl}{L:List Ent}{ty no:Int}(hd:DclOk d)(h:Ran d L){i:Nat}(hi:i<L.length)(hon:onL (ty,no) (L.getD i default)=true):Wo (Yg d ty) (yr d (ty,no) (L.take i)) (L.getD i default).ev.field (L.getD i default).ev.op (L.getD i default).ev.arg∧((yr d (ty,no) (L.take i)).getD (L.getD i default).ev.field.toNat default).set.length≤1000:=by
 obtain⟨l,rfl⟩:=h
 rw[xp]at hi
 have hat:=KO (d:=d) hi
 have hev:=zbw (d:=d) hi
 unfold onL at hon
 simp only[Bool.and_eq_true,Bool.not_eq_true',decide_eq_true_eq]at hon
 obtain⟨hv,h1,h2⟩:=hon
 subst h1 h2
 rw[hat]at hv
 obtain⟨hf,hm⟩:=XY (d:=d) (L:=(zq d l).take i) (e:=l.getD i default) hv
 obtain⟨f1,f2,hft⟩:=XI hf
 rw[hev]
 have hR:Right (Yg d (l.getD i default).typ) (yr d ((l.getD i default).typ,(l.getD i default).agg) ((zq d l).take i)):=by rw[←JB];exact Inv.run hd _ _ _ f1 f2
 exact⟨hft.ask (hd.typ _ (by omega)) hR,zab hR hft.lo hft.hi⟩
theorem zbO {d:Dcl}{k:Int×Int}{L:List Ent}{j:Nat}(hj:j<L.length)(h:onL k (L.getD j default)=true):yr d k (L.take (j+1))=doL (Yg d k.1) (yr d k (L.take j)) (L.getD j default).ev.field (L.getD j default).ev.op (L.getD j default).ev.arg:=by
 have e:L.take (j+1)=L.take j++[L.getD j default]:=by rw[List.take_add_one,List.getElem?_eq_getElem hj,List.getD_eq_getElem?_getD,List.getElem?_eq_getElem hj];rfl
 rw[e,Zb,if_pos h]
theorem zcl {d:Dcl}{k:Int×Int}{L:List Ent}{j:Nat}(hj:j<L.length)(h:onL k (L.getD j default)=false):yr d k (L.take (j+1))=yr d k (L.take j):=by
 have e:L.take (j+1)=L.take j++[L.getD j default]:=by rw[List.take_add_one,List.getElem?_eq_getElem hj,List.getD_eq_getElem?_getD,List.getElem?_eq_getElem hj];rfl
 rw[e,Zb,h];rfl
theorem ZH {d:Dcl}{k:Int×Int}{L:List Ent}(h:yu k L=0):yA d k L=⟨0,[]⟩∧(zm d L k).isSome=false∧stL d k L=[]:=by
 have h1:stL d k L=[]:=if_pos h
 refine⟨?_,?_,h1⟩
 ·unfold yA;rw[h1,h];rfl
 ·unfold zm;rw[if_pos h];rfl
theorem Xw {d:Dcl}{k:Int×Int}{L:List Ent}(h: ¬yu k L=0):(zm d L k).isSome=true∧stL d k L=yr d k L:=by
 refine⟨?_,if_neg h⟩
 unfold zm;rw[if_neg h];rfl
theorem Xn {b:Nat}{d:Dcl}{L:List Ent}(hb:(RefV b d L).p W G){ty:Int}(hty:InR ty){no:Int}(hno:InR no)(hS0:Sep G W Rs w)(hd:DclOk d)(hrl:Ran d L)(hml:L.length≤1000000):Ret Tryz.prog 50 [.pointer (some ⟨b,0,none⟩),.int .i64 (ty),.int .i64 (no)] w (fun r w'=> ∃(v:Value),r=(.tuple #[.agg ((yA d (ty,no) L).cells v).toArray,.bool ((zm d L (ty,no)).isSome)]:Value)∧Sep G W ((RowE (α:=Cel) own 105 v (stL d (ty,no) L))::Rs) w'):=by
 refine zk (args:=[Ix b 0,Iv ty,Iv no]) Tryz.func50 rfl rfl ?_
 obtain⟨g,vp2,h,K,M,bz,y⟩:=RefV.sh hb
 let bA:=zP W (sb g) (so g+ty.toNat*1+0)
 let bB:=(d.types.gd ty.toNat).cells bA
 have hsm8:d.types.length*24≤140737488355328:=M.small
 have hsm9:d.projs.length*40≤140737488355328:=bz.small
 have hsm10:L.length*120≤140737488355328:=y.small
 refine za (R0 fun _=>st (zB tA ?_))
 intro w13 z aW
 have u:=hS0.new aW
 refine st (aS (.bool false) (zb (za (za (zG kr (st (mV (Iv ty) (st (zL (k:=.i64) (a:=ty) (b:=0) rfl rfl (st (mV (.bool (decide (ty<0))) (stc (V:=Iv ty) rfl rfl (fun aX=>?_) ?_))))))))))))
 have hl16:=fD aX
 exact mV (Iv ty) rflB
 refine stc (V:=Ix b 0) rfl rfl (fun aY=>?_) ?_
 have hl18:=fD aY
 exact mV (Ix b 0) rflB
 refine stc (V:=Ix b 0) rfl rfl (fun ac=>?_) ?_
 have hl20:=fD ac
 exact zj (b:=b) (o:=0) (ifpC ac) rflB
 refine stc (V:=Ix b 0) rfl rfl (fun ad=>?_) ?_
 have hl22:=fD ad
 exact Ym (ifpC ad) rflB
 refine stc (V:=Ix b 0) rfl rfl (fun ae=>?_) ?_
 have hl24:=fD ae
 exact yD (ifpC ae) rflB
 refine stc (V:=g) rfl rfl (fun af=>?_) ?_
 have hl26:=fD af
 exact lD g rR (ifpC af) (zd (u.gblk K) rfl) rflB
 refine stc (V:=Iw d.types.length) rfl rfl (fun ag=>?_) ?_
 have hl28:=fD ag
 exact zF (n:=d.types.length) sR (ifpC ag) M.sl rflB
 refine stc (V:=.bool (decide (((d.types.length:Nat):Int)≤ty))) rfl rfl (fun P=>?_) ?_
 have hl30:=fD P
 exact xw (k:=.i64) (a:=ty) (b:=((d.types.length:Nat):Int)) (ifpC P) (ifpC P) rflB
 refine st (zC (b:=decide (ty<0)) (b':=decide (((d.types.length:Nat):Int)≤ty)) rfl (fun hbp=>(ifpC hbp)) (zb ?_))
 cases Q:(decide (ty<0))||(decide (((d.types.length:Nat):Int)≤ty))
 have hc31r:=Q
 try simp only[zh]at Q
 refine ze rfl (zr (za (R0 fun _=>st (mV (Ix b 0) (st (zj (b:=b) (o:=0) rfl (st (Ym rfl (st (yD rfl (st (lD g rR rfl (zd (u.gblk K) rfl) (st (mV (Iv ty) ?_))))))))))))))
 have hi32:ty.toNat<d.types.length:=bo
 refine st (zx (k:=1) (i:=ty) sR vT rfl M.sl rfl ⟨by omega,by omega⟩ ?_)
 have ah:ty.toNat<d.types.length:=bo
 obtain⟨ax,m,N⟩:=M.typD ah
 have hsm35:((d.types.gd ty.toNat).fields).length*48≤140737488355328:=m.small
 have ay:=u.cells ax (M.foot (ne_of_lt ah))
 refine st (zi (k:=1) qY vT rfl rfl ay (st (zB Tryz.zeroValue83 ?_)))
 intro w39 ai aZ
 have aj:=u.new aZ
 refine stn (zw (v:=.agg bB.toArray) (c':=bB.toArray) vT rfl rfl (aj.b0) (yo ⟨m.sl.one,zl⟩) yqc rfl ?_)
 intro w41 ba
 have ak:=aj.pt0 ba
 refine zb (za (R0 fun _=>st (zi (k:=1) qY vT rfl rfl (zo (ak.b0)) (st (cL Tryz.call76 (WR (t:=(d.types.gd ty.toNat)) m N ak) ?_)))))
 rintro F w45 ⟨_,rfl,al⟩
 have R:=al.r0
 have hr47s:_*32≤_:=R.2
 refine st (zX (parts':=[(1,F)]) (v:=.agg #[Iv 0,F]) rfl (by obtain⟨_,_,bb,_⟩:=R.1;rw[show F=Value.slice _ _ _ from bb];simp[Instr.build,Instr.fill,go_sem,Zc]) (st (zB tA ?_)))
 intro w51 am bc
 have an:=al.new bc
 refine stn (zw (v:=.agg #[Iv 0,F]) (c':=#[Iv 0,F]) uT rfl rfl (an.b0) (yo ⟨rfl,R.1.one,zl⟩) yqc rfl ?_)
 intro w53 bd
 refine zb (za (za (R0 fun _=>st (aS (Iv 0) (zb (zu (yd (fun mq σ wq=> ∃(k:Nat) (vs:Value) (ρ:Env),mq=L.length-k∧σ=yg ρ [(0,Ix b 0),(1,Iv ty),(2,Iv no),(6,Ix z 0),(7,.bool false),(8,Ix ai 0),(9,Ix am 0),(10,Iw k)]∧(k≤L.length)∧Sep G W ((Blk am #[Iw (yu (ty,no) (L.take k)),vs] 48)::(RowE (α:=Cel) own 105 vs (yr d (ty,no) (L.take k)))::(Blk ai ((d.types.gd ty.toNat).cells (zP W (sb g) (so g+ty.toNat*1+0))).toArray 83)::(Blk z #[Iv 0,(Iz)] 48)::Rs) wq) ⟨0,F,_,rfl,sSf,yc _,(an.pt0 bd)⟩ ?_)))))))
 rintro m57 σ58 w56 ⟨k,vs,ρl1,rfl,rfl,hkk,e⟩
 let p:=zP W (sb h) (so h+k*13+3)
 have be:=e.r1
 have hr60s:_*32≤_:=be.2
 have ao:=WA (ty,no) (L.take k)
 rw[List.length_take]at ao
 refine za (za (R0 fun _=>st (mV (Iw k) (st (mV (Ix b 0) (st (zj (b:=b) (o:=0) rfl (st (ZA rfl (st (lD h mY rfl (zd (e.gblk K) rfl) (st (zF (n:=L.length) qR rfl y.sl (st (zL (k:=.i64) (a:=((k:Nat):Int)) (b:=((L.length:Nat):Int)) rfl rfl (zb ?_))))))))))))))))
 cases A:decide (((k:Nat):Int)<((L.length:Nat):Int))
 have hc61r:=A
 have A:=fD A
 have hkn:L.take k=L:=List.take_of_length_le om
 try simp+zetaDelta only at e
 rw[hkn]at e ao
 refine ze rfl (ye (zT (za (za (R0 fun _=>st (XQ rfl (st (lD (Iw (yu (ty,no) L)) kT rfl (zd (e.b0) rfl) (st (zQ (k:=.i64) (a:=((yu (ty,no) L:Nat):Int)) (b:=0) rfl rfl (zb ?_)))))))))))
 cases B:decide (((yu (ty,no) L:Nat):Int)=0)
 have hc62r:=B
 have B:=fD B
 have l: ¬yu (ty,no) L=0:=by omega
 refine ze rfl (zr (za (R0 fun _=>st (zi (k:=2) nY uT rfl rfl (zo (e.b0)) ?_))))
 have ap:=e.r1
 have hr65s:_*32≤_:=ap.2
 refine stn (zw (v:=.agg #[Iw (yu (ty,no) L),vs]) (c':=#[Iw (yu (ty,no) L),vs]) uT rfl rfl (e.b3) (yo ⟨rfl,ap.1.one,zl⟩) yqc rfl ?_)
 intro w63 bf
 have aq:=e.pt3 bf
 refine st (aS (.bool true) (zb (zp (ZT (b:=z) rY nY uT rfl rfl (zo (aq.b3)) (show _=(.bool true:Value)from rfl) ?_))))
 have S:=aq.s4_b
 try simp+zetaDelta only at S
 rw[←(Xw (d:=d) l).2]at S
 refine⟨vs,?_,S⟩
 rw[(Xw (d:=d) l).1];unfold yA;rw[(Xw (d:=d) l).2];rfl
 have B:=tD B
 have l:yu (ty,no) L=0:=by omega
 refine zf rfl (za (zK (by kernel_rfl) (fun _=>(st (zX (parts':=[]) (v:=.agg #[Iv 0,(Iz)]) rfl (by simp+zetaDelta [Instr.build,Instr.fill,go_sem,Zc]) (stn (zw (v:=.agg #[Iv 0,(Iz)]) (c':=#[Iv 0,(Iz)]) uT rfl rfl (e.b3) (yo ⟨rfl,rfl,zl⟩) yqc rfl ?_)))))))
 intro aU bg
 have ar:=e.pt3 bg
 refine st (aS (.bool false) (zb (zp (ZT (b:=z) rY nY uT rfl rfl (zo (ar.b3)) (show _=(.bool false:Value)from rfl) ?_))))
 have bh:Sep G W ((RowE (α:=Cel) own 105 Iz (stL d (ty,no) L))::(Blk am #[Iw (yu (ty,no) L),vs] 48)::(RowE (α:=Cel) own 105 vs (yr d (ty,no) L))::(Blk ai bB.toArray 83)::(Blk z #[Iv 0,(Iz)] 48)::Rs) aU:=(by rw[(ZH (d:=d) l).2.2];exact ar.rowNil own 105)
 have bi:Sep G W ((RowE (α:=Cel) own 105 Iz (stL d (ty,no) L))::Rs) aU:=bh.sel 5 [0] (xW _ _) rfl rfl
 refine⟨(Iz),?_,bi⟩
 rw[(ZH (d:=d) l).1,(ZH (d:=d) l).2.1];rfl
 have A:=tD A
 refine zf rfl (zr (za (zu (za (R0 fun _=>st (mV (Ix b 0) (st (zj (b:=b) (o:=0) rfl (st (ZA rfl (st (lD h mY rfl (zd (e.gblk K) rfl) (st (mV (Iw k) ?_))))))))))))))
 have bj:k<L.length:=bo
 refine st (zg (k:=13) (i:=k) qR lR rfl y.sl rfl bj (st (xt rfl ?_)))
 have T:k<L.length:=bo
 obtain⟨X,H,C⟩:=y.entD T
 have hsm76:((L.gd k).ev.deps).length*8≤140737488355328:=H.small
 have az:=e.cells X (y.foot (ne_of_lt T))
 refine st (zi (k:=10) (cs:=[Iv ((L.gd k).ev.origin),Iv ((L.gd k).ev.seq),Iv ((L.gd k).ev.lam),p,Iv ((L.gd k).ev.typ),Iv ((L.gd k).ev.agg),Iv ((L.gd k).ev.field),Iv ((L.gd k).ev.op),Iv ((L.gd k).ev.arg),Iv ((L.gd k).ev.key)]) rT oT rfl rfl (CellsAt.sub az 0 (cs2:=[Iv ((L.gd k).ev.origin),Iv ((L.gd k).ev.seq),Iv ((L.gd k).ev.lam),p,Iv ((L.gd k).ev.typ),Iv ((L.gd k).ev.agg),Iv ((L.gd k).ev.field),Iv ((L.gd k).ev.op),Iv ((L.gd k).ev.arg),Iv ((L.gd k).ev.key)]) rfl) (st (zB qA ?_)))
 intro w80 aV bk
 have au:=e.new bk
 refine stn (zw (v:=.agg (((L.gd k).ev).cells p).toArray) (c':=(((L.gd k).ev).cells p).toArray) oT rfl rfl (au.b0) (yo ⟨rfl,rfl,rfl,H.sl.one,rfl,rfl,rfl,rfl,rfl,rfl,zl⟩) yqc rfl ?_)
 intro w82 bl
 have f:=au.pt0 bl
 refine zb (za (zG kr (st (mV (Ix b 0) (st (zj (b:=b) (o:=0) rfl (st (ZA rfl (st (lD h mY rfl (zd (f.gblk K) rfl) (st (mV (Iw k) ?_))))))))))))
 have bm:k<L.length:=bo
 refine st (zg (k:=13) (i:=k) qR lR rfl y.sl rfl bm (st (Vf rfl ?_)))
 have aA:=f.cells X (y.foot (ne_of_lt T))
 refine st (lD (.bool ((L.gd k).void)) pA rfl (aA.get (j:=10) rfl) (st (yH (a:=(L.gd k).void) rfl (st (mV (.bool (!((L.gd k).void))) (stc (V:=Ix aV 4) rfl rfl (fun bn=>?_) ?_))))))
 have bp:=bn
 try simp only[zh]at bp
 exact xr rfl rflB
 refine stc (V:=Iv (((L.gd k).ev).typ)) rfl rfl (fun av=>?_) ?_
 have bq:=av
 try simp only[zh]at bq
 exact lD (Iv (((L.gd k).ev).typ)) kT (ifpC av) (zd (f.b0) rfl) rflB
 refine stc (V:=Iv ty) rfl rfl (fun br=>?_) ?_
 have bs:=br
 try simp only[zh]at bs
 exact mV (Iv ty) rflB
 refine stc (V:=.bool (decide ((((L.gd k).ev).typ)=ty))) rfl rfl (fun U=>?_) ?_
 have bt:=U
 try simp only[zh]at bt
 exact zQ (k:=.i64) (a:=((L.gd k).ev).typ) (b:=ty) (ifpC U) (ifpC U) rflB
 refine st (zv (b:= !((L.gd k).void)) (b':=decide ((((L.gd k).ev).typ)=ty)) rfl (fun hbp=>(ifpC hbp)) (st (mV (.bool ((!((L.gd k).void))&&(decide ((((L.gd k).ev).typ)=ty)))) (stc (V:=Ix aV 5) rfl rfl (fun bu=>?_) ?_))))
 have bv:=bu
 try simp only[zh]at bv
 exact Zl rfl rflB
 refine stc (V:=Iv (((L.gd k).ev).agg)) rfl rfl (fun aw=>?_) ?_
 have bw:=aw
 try simp only[zh]at bw
 exact lD (Iv (((L.gd k).ev).agg)) kT (ifpC aw) (zd (f.b0) rfl) rflB
 refine stc (V:=Iv no) rfl rfl (fun aB=>?_) ?_
 have aC:=aB
 try simp only[zh]at aC
 exact mV (Iv no) rflB
 refine stc (V:=.bool (decide ((((L.gd k).ev).agg)=no))) rfl rfl (fun I=>?_) ?_
 have aD:=I
 try simp only[zh]at aD
 exact zQ (k:=.i64) (a:=((L.gd k).ev).agg) (b:=no) (ifpC I) (ifpC I) rflB
 refine st (zv (b:=(!((L.gd k).void))&&(decide ((((L.gd k).ev).typ)=ty))) (b':=decide ((((L.gd k).ev).agg)=no)) rfl (fun hbp=>(ifpC hbp)) (zb ?_))
 cases x:((!((L.gd k).void))&&(decide ((((L.gd k).ev).typ)=ty)))&&(decide ((((L.gd k).ev).agg)=no))
 have D:=x
 try simp only[zh]at x
 have honfalse:onL (ty,no) (L.gd k)=false:=onL_raw.trans D
 refine ze rfl (zr (R0 fun _=>st (mV (Iw k) ?_)))
 have aE:InR ((k+1:Nat):Int):=bo
 refine st (zR (r:=((k+1:Nat):Int)) (k:=.i64) (a:=((k:Nat):Int)) (b:=1) rfl rfl (by rw[show(((k:Nat):Int)+1:Int)=((k+1:Nat):Int)from bo];exact zz aE) (st (aS (Iw (k+1)) (zb ?_))))
 have q:=f.s5_bcde
 have aF:yu (ty,no) (L.take (k+1))=yu (ty,no) (L.take k):=ver_f om honfalse
 try simp+zetaDelta only at q
 rw[←aF]at q
 have aG:yr d (ty,no) (L.take (k+1))=(yr d (ty,no) (L.take k)):=zcl om honfalse
 try simp+zetaDelta only at q
 rw[←aG]at q
 exact⟨_,by omega,k+1,vs,_,rfl,sSf,by omega,q⟩
 have D:=x
 try simp only[zh]at x
 have hontrue:onL (ty,no) (L.gd k)=true:=onL_raw.trans D
 have hdn:=Ran.done hd hrl om hontrue
 refine zf rfl (za (R0 fun _=>st (zi (k:=1) qY vT rfl rfl (zo (f.b3)) (st (xl rfl (st (lD vs Tryz.isAgg46 rfl (zd (f.b1) rfl) (st (xJ rfl (st (lD (Iv (((L.gd k).ev).field)) kT rfl (zd (f.b0) rfl) (st (xZ rfl (st (lD (Iv (((L.gd k).ev).op)) kT rfl (zd (f.b0) rfl) (st (xu rfl (st (lD (Iv (((L.gd k).ev).arg)) kT rfl (zd (f.b0) rfl) ?_)))))))))))))))))))
 obtain⟨G110,aH,aI,aJ,aK⟩:=(f.mv2).lend
 have O:=RowE.rd aH
 have hrd116s:_*32≤_:=O.small
 refine st (cL Tryz.call77 (zaY (t:=(d.types.gd ty.toNat)) (c:=(yr d (ty,no) (L.take k))) (vc:=vs) (fi:=((L.gd k).ev).field) (op:=((L.gd k).ev).op) (arg:=((L.gd k).ev).arg) (zS m aI) N O C.ev.field C.ev.op C.ev.arg aJ (hdn.1) (hdn.2)) ?_)
 rintro E w118 ⟨_,rfl,Y⟩
 have Z:=Y.r0
 have hr120s:_*32≤_:=Z.2
 have aa:=aK _ _ Y
 refine st (xl rfl (stn (ym (v:=E) (c:=[Iw (yu (ty,no) (L.take k)),vs]) (c':=[Iw (yu (ty,no) (L.take k)),E]) Tryz.sizeOf46 rfl rfl (aa.b3) Z.1.one rfl rfl ?_)))
 intro w122 aL
 have J:=aa.pt3 aL
 refine zb (R0 fun _=>st (XQ rfl (st (lD (Iw (yu (ty,no) (L.take k))) kT rfl (zd (J.b3) rfl) ?_))))
 have aM:InR ((yu (ty,no) (L.take k)+1:Nat):Int):=bo
 refine st (zR (r:=((yu (ty,no) (L.take k)+1:Nat):Int)) (k:=.i64) (a:=((yu (ty,no) (L.take k):Nat):Int)) (b:=1) rfl rfl (by rw[show(((yu (ty,no) (L.take k):Nat):Int)+1:Int)=((yu (ty,no) (L.take k)+1:Nat):Int)from bo];exact zz aM) (st (XQ rfl (stn (ym (v:=Iw (yu (ty,no) (L.take k)+1)) (c:=[Iw (yu (ty,no) (L.take k)),E]) (c':=[Iw (yu (ty,no) (L.take k)+1),E]) qT rfl rfl (J.b3) rfl rfl rfl ?_)))))
 intro w126 aN
 refine zb (R0 fun _=>st (mV (Iw k) ?_))
 have aO:InR ((k+1:Nat):Int):=bo
 refine st (zR (r:=((k+1:Nat):Int)) (k:=.i64) (a:=((k:Nat):Int)) (b:=1) rfl rfl (by rw[show(((k:Nat):Int)+1:Int)=((k+1:Nat):Int)from bo];exact zz aO) (st (aS (Iw (k+1)) (zb ?_))))
 have s:=(J.pt3 aN).s6_dbef
 have aP:yu (ty,no) (L.take (k+1))=yu (ty,no) (L.take k)+1:=ver_t om hontrue
 try simp+zetaDelta only at s
 rw[←aP]at s
 have aQ:yr d (ty,no) (L.take (k+1))=(doL (d.types.gd ty.toNat) (yr d (ty,no) (L.take k)) (((L.gd k).ev).field) (((L.gd k).ev).op) (((L.gd k).ev).arg)):=zbO om hontrue
 try simp+zetaDelta only at s
 rw[←aQ]at s
 exact⟨_,by omega,k+1,E,_,rfl,sSf,by omega,s⟩
 try simp only[zh]at Q
 have l:yu (ty,no) L=0:=hrl.zero om
 refine zf rfl (za (zK (by kernel_rfl) (fun _=>(st (zX (parts':=[]) (v:=.agg #[Iv 0,(Iz)]) rfl (by simp+zetaDelta [Instr.build,Instr.fill,go_sem,Zc]) (stn (zw (v:=.agg #[Iv 0,(Iz)]) (c':=#[Iv 0,(Iz)]) uT rfl rfl (u.b0) (yo ⟨rfl,rfl,zl⟩) yqc rfl ?_)))))))
 intro bx aR
 have ab:=u.pt0 aR
 refine st (aS (.bool false) (zb (zp (ZT (b:=z) rY nY uT rfl rfl (zo (ab.b0)) (show _=(.bool false:Value)from rfl) ?_))))
 have aT:Sep G W ((RowE (α:=Cel) own 105 Iz (stL d (ty,no) L))::(Blk z #[Iv 0,(Iz)] 48)::Rs) bx:=(by rw[(ZH (d:=d) l).2.2];exact ab.rowNil own 105)
 refine⟨(Iz),?_,(aT.s2_a)⟩
 rw[(ZH (d:=d) l).1,(ZH (d:=d) l).2.1];rfl
end
end Go.Proofs.YtpdolkiohjdodaaGreatDoor
