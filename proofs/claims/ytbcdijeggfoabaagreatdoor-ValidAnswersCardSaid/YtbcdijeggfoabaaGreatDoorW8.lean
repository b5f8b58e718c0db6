import Derived.Test.YtbcdijeggfoabaaGreatDoorW7
import Derived.Test.YtbcdijeggfoabaaGreatDoorW2
import Derived.Test.YtbcdijeggfoabaaGreatDoorW5
import Derived.RangeFuncLeaves
import Derived.RangeFuncMany
import Derived.OrdersIn
import Derived.TacticsIn
set_option linter.unusedSimpArgs false
set_option linter.unusedVariables false
set_option linter.unusedSectionVars false
set_option linter.deprecated false
open Go.Proofs.Tryz renaming isAgg3→kT,underlying42→lT,sizeOf44→mT,results83→nT,isAgg44→oT,sizeOf106→pT,sizeOf3→qT,isAgg42→rT,isAgg106→sT,results67→tT,results143→uT,results124→vT,underlying104→wT,zeroValue44→kR,results68→lR,call86→mR,results142→nR,zeroValue106→oR,isAgg22→pR,underlying22→qR,isAgg104→rR,sizeOf143→sR,results49→tR,results117→uR,results73→vR,results86→wR,call154→kY,sizeOf74→lY,isAgg72→mY,underlying72→nY,results65→oY,isAgg25→pY,sizeOf25→qY,results44→rY,call139→sY,results116→tY,call82→uY,results119→vY
namespace Go.Proofs.YtbcdijeggfoabaaGreatDoor
variable {G:Nat→Prop}{W w:World}{Rs:List HP}
section
set_option maxRecDepth 8000
set_option maxHeartbeats 4000000
open Go.Proofs Go.RowKit
theorem xn (d:Dcl)(ty f op arg:Int):yV d ty f op arg=if yD d ty f=false then 8 else if op=1 then(if ¬(zW d ty f).kind=1 then 2 else if arg=0 then 1 else 0)else if op=2 then(if ¬(zW d ty f).kind=2 then 2 else 0)
 else if op=3∨op=4 then(if ¬(zW d ty f).kind=3 then 2 else 0)else if op=5 then(if ¬(zW d ty f).kind=4 then 2 else if arg<0∨((zW d ty f).moves.length:Int)≤arg then 1 else 0)else 2:=by
 unfold yV
 cases hB:yD d ty f
 ·rfl
 ·generalize zW d ty f=F
  by_cases h1:op=1
  ·subst h1
   simp only[show kindsL.getD (1:Int).toNat 0=1 from rfl]
   by_cases h:F.kind=1<;>by_cases h2:arg=0<;>simp[h,h2,eq_comm]
  by_cases h2:op=2
  ·subst h2
   simp only[show kindsL.getD (2:Int).toNat 0=2 from rfl]
   by_cases h:F.kind=2<;>simp[h,eq_comm]
  by_cases h3:op=3
  ·subst h3
   simp only[show kindsL.getD (3:Int).toNat 0=3 from rfl]
   by_cases h:F.kind=3<;>simp[h,eq_comm]
  by_cases h4:op=4
  ·subst h4
   simp only[show kindsL.getD (4:Int).toNat 0=3 from rfl]
   by_cases h:F.kind=3<;>simp[h,eq_comm]
  by_cases h5:op=5
  ·subst h5
   simp only[show kindsL.getD (5:Int).toNat 0=4 from rfl]
   by_cases h:F.kind=4
   ·by_cases h6:arg<0∨(F.moves.length:Int)≤arg
    ·have:(decide (0≤arg)&&decide (arg≤(F.moves.length:Int)-1))=false:=by
      rw[Bool.and_eq_false_iff]
      rcases h6 with h6|h6
      ·exact .inl (decide_eq_false (by omega))
      ·exact .inr (decide_eq_false (by omega))
     rw[this,if_pos h6];simp[h]
    ·have:(decide (0≤arg)&&decide (arg≤(F.moves.length:Int)-1))=true:=by
      rw[decide_eq_true (by omega),decide_eq_true (by omega)];rfl
     rw[this,if_neg h6];simp[h]
   ·simp[h,eq_comm]
  ·have:(decide (1≤op)&&decide (op≤5))=false:=by
    rw[Bool.and_eq_false_iff]
    rcases Int.lt_or_le op 1 with h6|h6
    ·exact .inl (decide_eq_false (by omega))
    ·exact .inr (decide_eq_false (by omega))
   simp[this,h1,h2,h3,h4,h5]
theorem UJ {v:List Int}{o:Int}(h: ¬((0≤o∧o<v.length)∧0<v.getD o.toNat 0)):yu v o=0:=by
 unfold yu;split
 ·rfl
 ·omega
theorem Kw {v:List Int}{o:Int}(h:(0≤o∧o<v.length)∧0<v.getD o.toNat 0):yu v o=v.getD o.toNat 0:=by
 unfold yu;rw[if_neg (by omega)];omega
theorem YG {f:Fld}{x e:Ev}:xf f x e=if((!xI x e)||(!Yp f.kind x.op x.arg e.op e.arg))=true then false else if decide (f.policy=3)=true then decide (e.arg<x.arg)else decide (f.policy=2):=by
 unfold xf
 cases xI x e<;>cases Yp f.kind x.op x.arg e.op e.arg<;>simp
 by_cases h:f.policy=3
 ·simp[h]
 ·simp[h]
theorem Xu {a b:Ev}:xI a b=if(decide (a.origin=b.origin)&&decide (a.seq=b.seq))=true then false else((!ZD a b)&&(!ZD b a)):=by
 unfold xI
 by_cases h:a.origin=b.origin<;>by_cases h2:a.seq=b.seq<;>simp[h,h2]
theorem XX {k oA aA oB aB:Int}:Yp k oA aA oB aB=if decide (k=2)=true then((decide (oA=2)&&decide (oB=2))&& !decide (aA=aB))else if decide (k=4)=true then((decide (oA=5)&&decide (oB=5))&& !decide (aA=aB))
 else if(decide (k=3)&&decide (aA=aB))=true then((decide (oA=3)&&decide (oB=4))||(decide (oA=4)&&decide (oB=3)))else false:=by
 unfold Yp
 by_cases h2:k=2
 ·subst h2
  by_cases ha:oA=2<;>by_cases hb:oB=2<;>simp[ha,hb]
 by_cases h4:k=4
 ·subst h4
  by_cases ha:oA=5<;>by_cases hb:oB=5<;>simp[ha,hb]
 by_cases h3:k=3
 ·subst h3
  by_cases ha:aA=aB
  ·subst ha;simp
  ·have ha': ¬aB=aA:=fun e=>ha e.symm
   simp[ha,ha']
 ·simp[h2,h3,h4]
theorem Wl {vv:Value}{v:List Int}(hv:RdS W G vv v){o:Int}(ho:InR o)(hS0:Sep G W Rs w):Ret Tryz.prog 86 [vv,.int .i64 (o)] w (fun r w'=>r=(.int .i64 (yu v o):Value)∧(InR (yu v o))∧Sep G W Rs w'):=by
 have hvs:_*8≤_:=hv.small
 refine zi (args:=[vv,Iv o]) Tryz.func86 rfl rfl ?_
 refine za (R0 fun _=>st (aS (Iv 0) (zb (za (za (zA kr (st (mV (Iv o) (st (yR (k:=.i64) (a:=o) (b:=0) rfl rfl (st (mV (.bool (decide (0≤o))) (stc (V:=Iv o) rfl rfl (fun C=>?_) ?_)))))))))))))
 have hl2:=tD C
 exact mV (Iv o) ⟨rfl,rfl⟩
 refine stc (V:=vv) rfl rfl (fun D=>?_) ?_
 have hl4:=tD D
 exact mV vv ⟨rfl,rfl⟩
 refine stc (V:=Iw v.length) rfl rfl (fun t=>?_) ?_
 have hl6:=tD t
 exact zJ (n:=v.length) lT (if_pos t) hv.sl ⟨rfl,rfl⟩
 refine stc (V:=.bool (decide (o<((v.length:Nat):Int)))) rfl rfl (fun d=>?_) ?_
 have hl8:=tD d
 exact zC (k:=.i64) (a:=o) (b:=((v.length:Nat):Int)) (if_pos d) (if_pos d) ⟨rfl,rfl⟩
 refine st (zy (b:=decide (0≤o)) (b':=decide (o<((v.length:Nat):Int))) rfl (fun hbp=>(if_pos hbp)) (st (mV (.bool ((decide (0≤o))&&(decide (o<((v.length:Nat):Int))))) (stc (V:=vv) rfl rfl (fun E=>?_) ?_))))
 have u:=E
 try simp only[zf]at u
 exact mV vv ⟨rfl,rfl⟩
 refine stc (V:=Iv o) rfl rfl (fun x=>?_) ?_
 have y:=x
 try simp only[zf]at y
 exact mV (Iv o) ⟨rfl,rfl⟩
 refine stc (V:=Ix (sb vv) (so vv+o.toNat*1)) rfl rfl (fun c=>?_) ?_
 have z:=c
 try simp only[zf]at z
 have hi15:o.toNat<v.length:=bo
 exact zr (k:=1) (i:=o) lT qT (if_pos c) hv.sl (if_pos c) ⟨by omega,by omega⟩ ⟨rfl,rfl⟩
 refine stc (V:=Iv ((v.getD o.toNat 0))) rfl rfl (fun e=>?_) ?_
 have A:=e
 try simp only[zf]at A
 have f:o.toNat<v.length:=bo
 obtain⟨m,hxe18⟩:=hv.intD f
 have p:=hS0.cells m (hv.foot (ne_of_lt f))
 exact lD (Iv ((v.getD o.toNat 0))) kT (if_pos e) (p.get (j:=0) rfl) ⟨rfl,rfl⟩
 refine stc (V:=.bool (decide (0<(v.getD o.toNat 0)))) rfl rfl (fun g=>?_) ?_
 have B:=g
 try simp only[zf]at B
 exact yT (k:=.i64) (a:=(v.getD o.toNat 0)) (b:=0) (if_pos g) rfl ⟨rfl,rfl⟩
 refine st (zy (b:=(decide (0≤o))&&(decide (o<((v.length:Nat):Int)))) (b':=decide (0<(v.getD o.toNat 0))) rfl (fun hbp=>(if_pos hbp)) (zb ?_))
 cases h:((decide (0≤o))&&(decide (o<((v.length:Nat):Int))))&&(decide (0<(v.getD o.toNat 0)))
 try simp only[zf]at h
 refine ze rfl (zl (za (R0 fun _=>st (aS (Iv 0) (zb (zk (zG wR (show _=(Iv 0:Value)from rfl) ?_)))))))
 refine⟨?_,?_,hS0⟩
 congr 1;exact(UJ om).symm
 rw[UJ (by omega)];decide
 try simp only[zf]at h
 refine zg rfl (za (R0 fun _=>st (mV vv (st (mV (Iv o) ?_)))))
 have hi24:o.toNat<v.length:=bo
 refine st (zr (k:=1) (i:=o) lT qT rfl hv.sl rfl ⟨by omega,by omega⟩ ?_)
 have l:o.toNat<v.length:=bo
 obtain⟨q,hxe25⟩:=hv.intD l
 have s:=hS0.cells q (hv.foot (ne_of_lt l))
 refine st (lD (Iv ((v.getD o.toNat 0))) kT rfl (s.get (j:=0) rfl) (st (aS (Iv ((v.getD o.toNat 0))) (zb (zk (zG wR (show _=(Iv ((v.getD o.toNat 0)):Value)from rfl) ?_))))))
 refine⟨?_,?_,hS0⟩
 congr 1;exact(Kw om).symm
 rw[Kw (by omega)];assumption
theorem XK {a:Ev}{da0:Value}(hda0:RdS W G da0 a.deps)(oa:a.Ok){b:Ev}{db0:Value}(hdb0:RdS W G db0 b.deps)(ob:b.Ok)(hS0:Sep G W Rs w):Ret Tryz.prog 154 [.agg (a.cells da0).toArray,.agg (b.cells db0).toArray] w (fun r w'=>r=(.bool ((ZD a b)):Value)∧Sep G W Rs w'):=by
 have hda0s:_*8≤_:=hda0.small
 have hdb0s:_*8≤_:=hdb0.small
 refine zi (args:=[.agg (a.cells da0).toArray,.agg (b.cells db0).toArray]) Tryz.func154 rfl rfl ?_
 refine za (R0 fun _=>st (zM (v:=.agg (a.cells da0).toArray) rfl ?_))
 intro w3 b2 L
 refine st (zM (v:=.agg (b.cells db0).toArray) rfl ?_)
 intro w7 D M
 refine st (aS (.bool false) (zb (za ?_)))
 refine WD4 ((fun TT C=>WF [fun vals E=>Sep G W (C::TT) E,fun vals E=>(vals 5=(Iv (yu b.deps a.origin):Value))∧(InR (yu b.deps a.origin))∧Sep G W (C::TT) E]) ((Blk b2 (a.cells da0).toArray 44)::Rs) (Blk D (b.cells db0).toArray 44)) (AF [Vl 0 (Ix D 3),Vl 1 (db0),Vl 2 (Ix b2 0),Vl 3 (Ix b2 0),Vl 4 (Iv (a.origin)),fun _=>True,Vl 6 (Ix b2 0),Vl 7 (Ix b2 1),Vl 8 (Iv (a.seq)),Vl 9 (.bool (decide (a.seq≤(yu b.deps a.origin)))),Vl 10 (.bool (decide (a.seq≤(yu b.deps a.origin))))]) [[],[0],[],[2],[2,3],(rg 5),[],[6],[6,7],(rg 9),(rg 10)] [5] [(0,0),(0,0),(0,0),(0,0),(0,0),(0,0),(0,1),(0,1),(0,1),(1,1),(1,1)] ((hS0.new L).new M) ⟨fun _ _ _ _ _ _ _=>obl rfl (yQ rfl dR),ob1 0 fun _ _ (j:Sep _ _ _ _) l=>obl rfl (lD db0 rT (l 0 dc) (zd (j.b0) rfl) dR),fun _ _ _ _ _ _ _=>obl rfl (yp rfl dR),fun _ _ _ _ _ _ m=>obl rfl (xa (m 2 dc) dR),ob1 0 fun _ _ (n:Sep _ _ _ _) p=>obl rfl (lD (Iv (a.origin)) kT (p 3 dc) (zd (n.b1) rfl) dR),?_,fun _ _ _ _ _ _ _=>obl rfl (yp rfl dR),fun _ _ _ _ _ _ q=>obl rfl (xE (q 6 dc) dR),?_,?_,fun _ _ _ _ _ _ s=>obl rfl (zY (v:=.bool (decide (a.seq≤(yu b.deps a.origin)))) (s 9 dc) dR),trivial⟩ ?_
 refine ob1 0 fun vals _ (F:Sep _ _ _ _) i=>(obl rfl ((zH (f:=86) (vals:=[db0,Iv (a.origin)]) (cap:=[]) rfl (yE ⟨(i 1 dc),(i 4 dc),trivial⟩) mR (Wl (v:=b.deps) (vv:=db0) (o:=a.origin) hdb0 oa.origin F) ?_)))
 rintro _ w54 ⟨rfl,c,H⟩
 exact fun vals' N hv'=>⟨(zx N (zx c H)),trivial⟩
 refine fun d _ _ I J g h=>?_
 have hkk:=xk I J
 rcases hkk with rfl|rfl
 have t:Sep _ _ _ _:=g
 exact obl rfl (lD (Iv (a.seq)) kT (h 7 dc) (zd (t.b1) rfl) dR)
 obtain⟨e,c,u⟩:=g
 exact obl rfl (lD (Iv (a.seq)) kT (h 7 dc) (zd (u.b1) rfl) dR)
 refine ob1 1 fun _ _ x y=>?_
 obtain⟨e,c,hS157⟩:=x
 exact obl rfl (yR (k:=.i64) (a:=yu b.deps a.origin) (b:=a.seq) e (y 8 dc) dR)
 intro vals w166 z A
 obtain⟨e,c,B⟩:=z
 have K:=A 10 dc
 refine zT (kv:=[(0,.agg (a.cells da0).toArray),(1,.agg (b.cells db0).toArray),(2,Ix b2 0),(3,Ix D 0),(4,.bool (decide (a.seq≤(yu b.deps a.origin))))]) ⟨rfl,rfl,rfl,rfl,(by exact K),trivial⟩ (fun ρw166=>(zb (zk (zG Tryz.results154 (show _=(.bool (decide (a.seq≤(yu b.deps a.origin))):Value)from rfl) ?_))))
 refine⟨rfl,(B.s2_)⟩
theorem QE {a:Ev}{da0:Value}(hda0:RdS W G da0 a.deps)(oa:a.Ok){b:Ev}{db0:Value}(hdb0:RdS W G db0 b.deps)(ob:b.Ok)(hS0:Sep G W Rs w):Ret Tryz.prog 142 [.agg (a.cells da0).toArray,.agg (b.cells db0).toArray] w (fun r w'=>r=(.bool ((xI a b)):Value)∧Sep G W Rs w'):=by
 have hda0s:_*8≤_:=hda0.small
 have hdb0s:_*8≤_:=hdb0.small
 refine zi (args:=[.agg (a.cells da0).toArray,.agg (b.cells db0).toArray]) Tryz.func142 rfl rfl ?_
 refine za (R0 fun _=>st (zM (v:=.agg (a.cells da0).toArray) rfl ?_))
 intro w3 b2 x
 refine st (zM (v:=.agg (b.cells db0).toArray) rfl ?_)
 intro w7 y z
 have e:=(hS0.new x).new z
 refine st (aS (.bool false) (zb (za (za (zA kr (st (yp rfl (st (xa rfl (st (lD (Iv (a.origin)) kT rfl (zd (e.b1) rfl) (st (yp rfl (st (xa rfl (st (lD (Iv (b.origin)) kT rfl (zd (e.b0) rfl) (st (zR (k:=.i64) (a:=a.origin) (b:=b.origin) rfl rfl (st (mV (.bool (decide (a.origin=b.origin))) (stc (V:=Ix b2 0) rfl rfl (fun A=>?_) ?_))))))))))))))))))))))
 have hl10:=tD A
 exact yp rfl ⟨rfl,rfl⟩
 refine stc (V:=Ix b2 1) rfl rfl (fun j=>?_) ?_
 have hl12:=tD j
 exact xE (if_pos j) ⟨rfl,rfl⟩
 refine stc (V:=Iv (a.seq)) rfl rfl (fun l=>?_) ?_
 have hl14:=tD l
 exact lD (Iv (a.seq)) kT (if_pos l) (zd (e.b1) rfl) ⟨rfl,rfl⟩
 refine stc (V:=Ix y 0) rfl rfl (fun o=>?_) ?_
 have hl16:=tD o
 exact yp rfl ⟨rfl,rfl⟩
 refine stc (V:=Ix y 1) rfl rfl (fun m=>?_) ?_
 have hl18:=tD m
 exact xE (if_pos m) ⟨rfl,rfl⟩
 refine stc (V:=Iv (b.seq)) rfl rfl (fun n=>?_) ?_
 have hl20:=tD n
 exact lD (Iv (b.seq)) kT (if_pos n) (zd (e.b0) rfl) ⟨rfl,rfl⟩
 refine stc (V:=.bool (decide (a.seq=b.seq))) rfl rfl (fun i=>?_) ?_
 have hl22:=tD i
 exact zR (k:=.i64) (a:=a.seq) (b:=b.seq) (if_pos i) (if_pos i) ⟨rfl,rfl⟩
 refine st (zy (b:=decide (a.origin=b.origin)) (b':=decide (a.seq=b.seq)) rfl (fun hbp=>(if_pos hbp)) (zb ?_))
 cases f:(decide (a.origin=b.origin))&&(decide (a.seq=b.seq))
 have c:=f
 try simp only[zf]at f
 refine ze rfl (zl (za (zA kr (st (zh (k:=10) oT mT rfl rfl (CellsAt.all (e.b1)) (st (zh (k:=10) oT mT rfl rfl (CellsAt.all (e.b0)) (st (cL kY (XK (a:=a) (b:=b) hda0 oa hdb0 ob e) ?_)))))))))
 rintro _ w24 ⟨rfl,g⟩
 refine st (yB (a:=(ZD a b)) rfl (st (mV (.bool (!(ZD a b))) (stc (V:=.agg (b.cells db0).toArray) rfl rfl (fun p=>?_) ?_))))
 have q:=p
 try simp only[zf]at q
 exact zh (k:=10) oT mT rfl rfl (CellsAt.all (g.b0)) ⟨rfl,rfl⟩
 refine stc (V:=.agg (a.cells da0).toArray) rfl rfl (fun s=>?_) ?_
 have t:=s
 try simp only[zf]at t
 exact zh (k:=10) oT mT rfl rfl (CellsAt.all (g.b1)) ⟨rfl,rfl⟩
 cases h: !(ZD a b)
 have d:=h
 try simp only[zf]at h
 refine stx rfl rfl (stx rfl rfl (st (yw (v:=.bool false) rfl rfl (st (aS (.bool false) (zb (zk (zG nR (show _=(.bool false:Value)from rfl) ?_))))))))
 refine⟨?_,(g.s2_)⟩
 rw[Xu]
 ·first|rfl|(simp only[c,d,Bool.not_true,Bool.not_false,Bool.false_and,Bool.true_and,Bool.and_false,Bool.and_true,Bool.false_or,Bool.or_false,Bool.true_or,Bool.or_true,Bool.false_eq_true,↓reduceIte];done)|(simp only[c,d,Bool.not_true,Bool.not_false,Bool.false_and,Bool.true_and,Bool.and_false,Bool.and_true,Bool.false_or,Bool.or_false,Bool.true_or,Bool.or_true,Bool.false_eq_true,↓reduceIte];rfl)
 have d:=h
 try simp only[zf]at h
 refine sty rfl rfl (cL kY (XK (a:=b) (b:=a) hdb0 ob hda0 oa g) ?_)
 rintro _ w32 ⟨rfl,u⟩
 refine sty rfl rfl (yB (a:=(ZD b a)) rfl (st (yz (v:=.bool (!(ZD b a))) rfl rfl (st (aS (.bool (!(ZD b a))) (zb (zk (zG nR (show _=(.bool (!(ZD b a)):Value)from rfl) ?_))))))))
 refine⟨?_,(u.s2_)⟩
 rw[Xu]
 ·first|rfl|(simp only[c,d,Bool.not_true,Bool.not_false,Bool.false_and,Bool.true_and,Bool.and_false,Bool.and_true,Bool.false_or,Bool.or_false,Bool.true_or,Bool.or_true,Bool.false_eq_true,↓reduceIte];done)|(simp only[c,d,Bool.not_true,Bool.not_false,Bool.false_and,Bool.true_and,Bool.and_false,Bool.and_true,Bool.false_or,Bool.or_false,Bool.true_or,Bool.or_true,Bool.false_eq_true,↓reduceIte];rfl)
 have c:=f
 try simp only[zf]at f
 refine zg rfl (za (R0 fun _=>st (aS (.bool false) (zb (zk (zG nR (show _=(.bool false:Value)from rfl) ?_))))))
 refine⟨?_,(e.s2_)⟩
 rw[Xu]
 ·first|rfl|(simp only[c,Bool.not_true,Bool.not_false,Bool.false_and,Bool.true_and,Bool.and_false,Bool.and_true,Bool.false_or,Bool.or_false,Bool.true_or,Bool.or_true,Bool.false_eq_true,↓reduceIte];done)|(simp only[c,Bool.not_true,Bool.not_false,Bool.false_and,Bool.true_and,Bool.and_false,Bool.and_true,Bool.false_or,Bool.or_false,Bool.true_or,Bool.or_true,Bool.false_eq_true,↓reduceIte];rfl)
theorem VT {f:Fld}{df0:Value}(hdf0:RdS W G df0 f.moves)(of:f.Ok){oA:Int}(hoA:InR oA){aA:Int}(haA:InR aA){oB:Int}(hoB:InR oB){aB:Int}(haB:InR aB)(hS0:Sep G W Rs w):Ret Tryz.prog 143 [.agg (f.cells df0).toArray,.int .i64 (oA),.int .i64 (aA),.int .i64 (oB),.int .i64 (aB)] w (fun r w'=>r=(.bool ((Yp f.kind oA aA oB aB)):Value)∧Sep G W Rs w'):=by
 have hdf0s:_*32≤_:=hdf0.small
 refine zi (args:=[.agg (f.cells df0).toArray,Iv oA,Iv aA,Iv oB,Iv aB]) Tryz.func143 rfl rfl ?_
 refine za (R0 fun _=>st (zM (v:=.agg (f.cells df0).toArray) rfl ?_))
 intro w3 b2 U
 have g:=hS0.new U
 refine st (aS (.bool false) (zb (za (za (R0 fun _=>st (xg rfl (st (lD (Iv (f.kind)) kT rfl (zd (g.b0) rfl) (st (zR (k:=.i64) (a:=f.kind) (b:=2) rfl rfl (zb ?_)))))))))))
 cases h:decide (f.kind=2)
 have c:=h
 have h:=fD h
 refine ze rfl (zl (za (za (R0 fun _=>st (xg rfl (st (lD (Iv (f.kind)) kT rfl (zd (g.b0) rfl) (st (zR (k:=.i64) (a:=f.kind) (b:=4) rfl rfl (zb ?_))))))))))
 cases i:decide (f.kind=4)
 have d:=i
 have i:=fD i
 refine ze rfl (zl (za (za (zA kr (st (xg rfl (st (lD (Iv (f.kind)) kT rfl (zd (g.b0) rfl) (st (zR (k:=.i64) (a:=f.kind) (b:=3) rfl rfl (st (mV (.bool (decide (f.kind=3))) (stc (V:=Iv aA) rfl rfl (fun X=>?_) ?_)))))))))))))
 have hl8:=tD X
 exact mV (Iv aA) ⟨rfl,rfl⟩
 refine stc (V:=Iv aB) rfl rfl (fun Y=>?_) ?_
 have hl10:=tD Y
 exact mV (Iv aB) ⟨rfl,rfl⟩
 refine stc (V:=.bool (decide (aA=aB))) rfl rfl (fun m=>?_) ?_
 have hl12:=tD m
 exact zR (k:=.i64) (a:=aA) (b:=aB) (if_pos m) (if_pos m) ⟨rfl,rfl⟩
 refine st (zy (b:=decide (f.kind=3)) (b':=decide (aA=aB)) rfl (fun hbp=>(if_pos hbp)) (zb ?_))
 cases j:(decide (f.kind=3))&&(decide (aA=aB))
 have e:=j
 try simp only[zf]at j
 refine ze rfl (zl (za (R0 fun _=>st (aS (.bool false) (zb (zk (zG uT (show _=(.bool false:Value)from rfl) ?_)))))))
 refine⟨?_,(g.s1_)⟩
 rw[XX]
 ·first|rfl|(simp only[c,d,e,Bool.not_true,Bool.not_false,Bool.false_and,Bool.true_and,Bool.and_false,Bool.and_true,Bool.false_or,Bool.or_false,Bool.true_or,Bool.or_true,Bool.false_eq_true,↓reduceIte];done)|(simp only[c,d,e,Bool.not_true,Bool.not_false,Bool.false_and,Bool.true_and,Bool.and_false,Bool.and_true,Bool.false_or,Bool.or_false,Bool.true_or,Bool.or_true,Bool.false_eq_true,↓reduceIte];rfl)
 have e:=j
 try simp only[zf]at j
 refine zg rfl (za (zA kr (st (mV (Iv oA) (st (zR (k:=.i64) (a:=oA) (b:=3) rfl rfl (st (mV (.bool (decide (oA=3))) (stc (V:=Iv oB) rfl rfl (fun z=>?_) ?_)))))))))
 have hl16:=tD z
 exact mV (Iv oB) ⟨rfl,rfl⟩
 refine stc (V:=.bool (decide (oB=4))) rfl rfl (fun q=>?_) ?_
 have hl18:=tD q
 exact zR (k:=.i64) (a:=oB) (b:=4) (if_pos q) rfl ⟨rfl,rfl⟩
 refine st (zy (b:=decide (oA=3)) (b':=decide (oB=4)) rfl (fun hbp=>(if_pos hbp)) (st (mV (.bool ((decide (oA=3))&&(decide (oB=4)))) (stc (V:=Iv oA) rfl rfl (fun A=>?_) ?_))))
 have B:=A
 try simp only[zf]at B
 exact mV (Iv oA) ⟨rfl,rfl⟩
 refine stc (V:=.bool (decide (oA=4))) rfl rfl (fun s=>?_) ?_
 have C:=s
 try simp only[zf]at C
 exact zR (k:=.i64) (a:=oA) (b:=4) (if_pos s) rfl ⟨rfl,rfl⟩
 refine stc (V:=.bool (decide (oA=4))) rfl rfl (fun t=>?_) ?_
 have D:=t
 try simp only[zf]at D
 exact yi (v:=.bool (decide (oA=4))) (if_pos t) ⟨rfl,rfl⟩
 refine xe (V:=Iv oB) rfl rfl (fun u=>?_) ?_
 have E:=u.1
 try simp only[zf]at E
 have hl27:=tD u.2
 exact mV (Iv oB) ⟨rfl,rfl⟩
 refine xe (V:=.bool (decide (oB=3))) rfl rfl (fun l=>?_) ?_
 have F:=l.1
 try simp only[zf]at F
 have hl30:=tD l.2
 exact zR (k:=.i64) (a:=oB) (b:=3) (if_pos ⟨l.1,l.2⟩) rfl ⟨rfl,rfl⟩
 refine stc (V:=.bool ((decide (oA=4))&&(decide (oB=3)))) rfl rfl (fun n=>?_) ?_
 have H:=n
 try simp only[zf]at H
 exact zy (b:=decide (oA=4)) (b':=decide (oB=3)) (if_pos n) (fun hbp=>(if_pos ⟨n,hbp⟩)) ⟨rfl,rfl⟩
 refine st (zt (b:=(decide (oA=3))&&(decide (oB=4))) (b':=(decide (oA=4))&&(decide (oB=3))) rfl (fun hbp=>(if_pos hbp)) (st (aS (.bool (((decide (oA=3))&&(decide (oB=4)))||((decide (oA=4))&&(decide (oB=3))))) (zb (zk (zG uT (show _=(.bool (((decide (oA=3))&&(decide (oB=4)))||((decide (oA=4))&&(decide (oB=3)))):Value)from rfl) ?_))))))
 refine⟨?_,(g.s1_)⟩
 rw[XX]
 ·first|rfl|(simp only[c,d,e,Bool.not_true,Bool.not_false,Bool.false_and,Bool.true_and,Bool.and_false,Bool.and_true,Bool.false_or,Bool.or_false,Bool.true_or,Bool.or_true,Bool.false_eq_true,↓reduceIte];done)|(simp only[c,d,e,Bool.not_true,Bool.not_false,Bool.false_and,Bool.true_and,Bool.and_false,Bool.and_true,Bool.false_or,Bool.or_false,Bool.true_or,Bool.or_true,Bool.false_eq_true,↓reduceIte];rfl)
 have d:=i
 have i:=tD i
 refine zg rfl (za (zA kr (st (mV (Iv oA) (st (zR (k:=.i64) (a:=oA) (b:=5) rfl rfl (st (mV (.bool (decide (oA=5))) (stc (V:=Iv oB) rfl rfl (fun I=>?_) ?_)))))))))
 have hl35:=tD I
 exact mV (Iv oB) ⟨rfl,rfl⟩
 refine stc (V:=.bool (decide (oB=5))) rfl rfl (fun x=>?_) ?_
 have hl37:=tD x
 exact zR (k:=.i64) (a:=oB) (b:=5) (if_pos x) rfl ⟨rfl,rfl⟩
 refine st (zy (b:=decide (oA=5)) (b':=decide (oB=5)) rfl (fun hbp=>(if_pos hbp)) (st (mV (.bool ((decide (oA=5))&&(decide (oB=5)))) (stc (V:=Iv aA) rfl rfl (fun J=>?_) ?_))))
 have K:=J
 try simp only[zf]at K
 exact mV (Iv aA) ⟨rfl,rfl⟩
 refine stc (V:=Iv aB) rfl rfl (fun L=>?_) ?_
 have M:=L
 try simp only[zf]at M
 exact mV (Iv aB) ⟨rfl,rfl⟩
 refine stc (V:=.bool (!decide (aA=aB))) rfl rfl (fun o=>?_) ?_
 have N:=o
 try simp only[zf]at N
 exact yn (k:=.i64) (a:=aA) (b:=aB) (if_pos o) (if_pos o) ⟨rfl,rfl⟩
 refine st (zy (b:=(decide (oA=5))&&(decide (oB=5))) (b':= !decide (aA=aB)) rfl (fun hbp=>(if_pos hbp)) (st (aS (.bool (((decide (oA=5))&&(decide (oB=5)))&&(!decide (aA=aB)))) (zb (zk (zG uT (show _=(.bool (((decide (oA=5))&&(decide (oB=5)))&&(!decide (aA=aB))):Value)from rfl) ?_))))))
 refine⟨?_,(g.s1_)⟩
 rw[XX]
 ·first|rfl|(simp only[c,d,Bool.not_true,Bool.not_false,Bool.false_and,Bool.true_and,Bool.and_false,Bool.and_true,Bool.false_or,Bool.or_false,Bool.true_or,Bool.or_true,Bool.false_eq_true,↓reduceIte];done)|(simp only[c,d,Bool.not_true,Bool.not_false,Bool.false_and,Bool.true_and,Bool.and_false,Bool.and_true,Bool.false_or,Bool.or_false,Bool.true_or,Bool.or_true,Bool.false_eq_true,↓reduceIte];rfl)
 have c:=h
 have h:=tD h
 refine zg rfl (za (zA kr (st (mV (Iv oA) (st (zR (k:=.i64) (a:=oA) (b:=2) rfl rfl (st (mV (.bool (decide (oA=2))) (stc (V:=Iv oB) rfl rfl (fun O=>?_) ?_)))))))))
 have hl46:=tD O
 exact mV (Iv oB) ⟨rfl,rfl⟩
 refine stc (V:=.bool (decide (oB=2))) rfl rfl (fun y=>?_) ?_
 have hl48:=tD y
 exact zR (k:=.i64) (a:=oB) (b:=2) (if_pos y) rfl ⟨rfl,rfl⟩
 refine st (zy (b:=decide (oA=2)) (b':=decide (oB=2)) rfl (fun hbp=>(if_pos hbp)) (st (mV (.bool ((decide (oA=2))&&(decide (oB=2)))) (stc (V:=Iv aA) rfl rfl (fun P=>?_) ?_))))
 have Q:=P
 try simp only[zf]at Q
 exact mV (Iv aA) ⟨rfl,rfl⟩
 refine stc (V:=Iv aB) rfl rfl (fun R=>?_) ?_
 have S:=R
 try simp only[zf]at S
 exact mV (Iv aB) ⟨rfl,rfl⟩
 refine stc (V:=.bool (!decide (aA=aB))) rfl rfl (fun p=>?_) ?_
 have T:=p
 try simp only[zf]at T
 exact yn (k:=.i64) (a:=aA) (b:=aB) (if_pos p) (if_pos p) ⟨rfl,rfl⟩
 refine st (zy (b:=(decide (oA=2))&&(decide (oB=2))) (b':= !decide (aA=aB)) rfl (fun hbp=>(if_pos hbp)) (st (aS (.bool (((decide (oA=2))&&(decide (oB=2)))&&(!decide (aA=aB)))) (zb (zk (zG uT (show _=(.bool (((decide (oA=2))&&(decide (oB=2)))&&(!decide (aA=aB))):Value)from rfl) ?_))))))
 refine⟨?_,(g.s1_)⟩
 rw[XX]
 ·first|rfl|(simp only[c,Bool.not_true,Bool.not_false,Bool.false_and,Bool.true_and,Bool.and_false,Bool.and_true,Bool.false_or,Bool.or_false,Bool.true_or,Bool.or_true,Bool.false_eq_true,↓reduceIte];done)|(simp only[c,Bool.not_true,Bool.not_false,Bool.false_and,Bool.true_and,Bool.and_false,Bool.and_true,Bool.false_or,Bool.or_false,Bool.true_or,Bool.or_true,Bool.false_eq_true,↓reduceIte];rfl)
theorem QL {f:Fld}{df0:Value}(hdf0:RdS W G df0 f.moves)(of:f.Ok){x:Ev}{dx0:Value}(hdx0:RdS W G dx0 x.deps)(ox:x.Ok){e:Ev}{de0:Value}(hde0:RdS W G de0 e.deps)(oe:e.Ok)(hS0:Sep G W Rs w):Ret Tryz.prog 124 [.agg (f.cells df0).toArray,.agg (x.cells dx0).toArray,.agg (e.cells de0).toArray] w (fun r w'=>r=(.bool ((xf f x e)):Value)∧Sep G W Rs w'):=by
 have hdf0s:_*32≤_:=hdf0.small
 have hdx0s:_*8≤_:=hdx0.small
 have hde0s:_*8≤_:=hde0.small
 refine zi (args:=[.agg (f.cells df0).toArray,.agg (x.cells dx0).toArray,.agg (e.cells de0).toArray]) Tryz.func124 rfl rfl ?_
 refine za (R0 fun _=>st (zM (v:=.agg (f.cells df0).toArray) rfl ?_))
 intro w3 b2 M
 refine st (zM (v:=.agg (x.cells dx0).toArray) rfl ?_)
 intro w7 N O
 refine st (zM (v:=.agg (e.cells de0).toArray) rfl ?_)
 intro w11 t P
 have n:=((hS0.new M).new O).new P
 refine st (aS (.bool false) (zb (za (za (zA kr (st (zh (k:=10) oT mT rfl rfl (CellsAt.all (n.b1)) (st (zh (k:=10) oT mT rfl rfl (CellsAt.all (n.b0)) (st (cL Tryz.call142 (QE (a:=x) (b:=e) hdx0 ox hde0 oe n) ?_)))))))))))
 rintro _ w13 ⟨rfl,g⟩
 refine st (yB (a:=(xI x e)) rfl (st (mV (.bool (!(xI x e))) (stc (V:=.agg (f.cells df0).toArray) rfl rfl (fun u=>?_) ?_))))
 have y:=u
 try simp only[zf]at y
 exact zh (k:=4) sT pT rfl rfl (CellsAt.all (g.b2)) ⟨rfl,rfl⟩
 refine stc (V:=Ix N 7) rfl rfl (fun z=>?_) ?_
 have A:=z
 try simp only[zf]at A
 exact xw rfl ⟨rfl,rfl⟩
 refine stc (V:=Iv (x.op)) rfl rfl (fun o=>?_) ?_
 have B:=o
 try simp only[zf]at B
 exact lD (Iv (x.op)) kT (if_pos o) (zd (g.b1) rfl) ⟨rfl,rfl⟩
 refine stc (V:=Ix N 8) rfl rfl (fun C=>?_) ?_
 have D:=C
 try simp only[zf]at D
 exact xF rfl ⟨rfl,rfl⟩
 refine stc (V:=Iv (x.arg)) rfl rfl (fun p=>?_) ?_
 have E:=p
 try simp only[zf]at E
 exact lD (Iv (x.arg)) kT (if_pos p) (zd (g.b1) rfl) ⟨rfl,rfl⟩
 refine stc (V:=Ix t 7) rfl rfl (fun F=>?_) ?_
 have H:=F
 try simp only[zf]at H
 exact xw rfl ⟨rfl,rfl⟩
 refine stc (V:=Iv (e.op)) rfl rfl (fun q=>?_) ?_
 have I:=q
 try simp only[zf]at I
 exact lD (Iv (e.op)) kT (if_pos q) (zd (g.b0) rfl) ⟨rfl,rfl⟩
 refine stc (V:=Ix t 8) rfl rfl (fun J=>?_) ?_
 have K:=J
 try simp only[zf]at K
 exact xF rfl ⟨rfl,rfl⟩
 refine stc (V:=Iv (e.arg)) rfl rfl (fun s=>?_) ?_
 have L:=s
 try simp only[zf]at L
 exact lD (Iv (e.arg)) kT (if_pos s) (zd (g.b0) rfl) ⟨rfl,rfl⟩
 cases l: !(xI x e)
 have c:=l
 try simp only[zf]at l
 refine sty rfl rfl (cL Tryz.call143 (VT (f:=f) (oA:=x.op) (aA:=x.arg) (oB:=e.op) (aB:=e.arg) hdf0 of ox.op ox.arg oe.op oe.arg g) ?_)
 rintro _ w34 ⟨rfl,h⟩
 refine sty rfl rfl (yB (a:=(Yp f.kind x.op x.arg e.op e.arg)) rfl (st (yw (v:=.bool (!(Yp f.kind x.op x.arg e.op e.arg))) rfl rfl (zb ?_))))
 cases m: !(Yp f.kind x.op x.arg e.op e.arg)
 have d:=m
 try simp only[zf]at m
 refine ze rfl (zl (za (za (R0 fun _=>st (ZS rfl (st (lD (Iv (f.policy)) kT rfl (zd (h.b2) rfl) (st (zR (k:=.i64) (a:=f.policy) (b:=3) rfl rfl (zb ?_))))))))))
 cases j:decide (f.policy=3)
 have i:=j
 have j:=fD j
 refine ze rfl (zl (za (R0 fun _=>st (ZS rfl (st (lD (Iv (f.policy)) kT rfl (zd (h.b2) rfl) (st (zR (k:=.i64) (a:=f.policy) (b:=2) rfl rfl (st (aS (.bool (decide (f.policy=2))) (zb (zk (zG vT (show _=(.bool (decide (f.policy=2)):Value)from rfl) ?_)))))))))))))
 refine⟨?_,(h.s3_)⟩
 rw[YG]
 ·first|rfl|(simp only[c,d,i,Bool.not_true,Bool.not_false,Bool.false_and,Bool.true_and,Bool.and_false,Bool.and_true,Bool.false_or,Bool.or_false,Bool.true_or,Bool.or_true,Bool.false_eq_true,↓reduceIte];done)|(simp only[c,d,i,Bool.not_true,Bool.not_false,Bool.false_and,Bool.true_and,Bool.and_false,Bool.and_true,Bool.false_or,Bool.or_false,Bool.true_or,Bool.or_true,Bool.false_eq_true,↓reduceIte];rfl)
 have i:=j
 have j:=tD j
 refine zg rfl (za (R0 fun _=>st (xF rfl (st (lD (Iv (x.arg)) kT rfl (zd (h.b1) rfl) (st (xF rfl (st (lD (Iv (e.arg)) kT rfl (zd (h.b0) rfl) (st (yT (k:=.i64) (a:=x.arg) (b:=e.arg) rfl rfl (st (aS (.bool (decide (e.arg<x.arg))) (zb (zk (zG vT (show _=(.bool (decide (e.arg<x.arg)):Value)from rfl) ?_))))))))))))))))
 refine⟨?_,(h.s3_)⟩
 rw[YG]
 ·first|rfl|(simp only[c,d,i,Bool.not_true,Bool.not_false,Bool.false_and,Bool.true_and,Bool.and_false,Bool.and_true,Bool.false_or,Bool.or_false,Bool.true_or,Bool.or_true,Bool.false_eq_true,↓reduceIte];done)|(simp only[c,d,i,Bool.not_true,Bool.not_false,Bool.false_and,Bool.true_and,Bool.and_false,Bool.and_true,Bool.false_or,Bool.or_false,Bool.true_or,Bool.or_true,Bool.false_eq_true,↓reduceIte];rfl)
 have d:=m
 try simp only[zf]at m
 refine zg rfl (za (R0 fun _=>st (aS (.bool false) (zb (zk (zG vT (show _=(.bool false:Value)from rfl) ?_))))))
 refine⟨?_,(h.s3_)⟩
 rw[YG]
 ·first|rfl|(simp only[c,d,Bool.not_true,Bool.not_false,Bool.false_and,Bool.true_and,Bool.and_false,Bool.and_true,Bool.false_or,Bool.or_false,Bool.true_or,Bool.or_true,Bool.false_eq_true,↓reduceIte];done)|(simp only[c,d,Bool.not_true,Bool.not_false,Bool.false_and,Bool.true_and,Bool.and_false,Bool.and_true,Bool.false_or,Bool.or_false,Bool.true_or,Bool.or_true,Bool.false_eq_true,↓reduceIte];rfl)
 have c:=l
 try simp only[zf]at l
 refine stx rfl rfl (stx rfl rfl (st (yz (v:=.bool true) rfl rfl (zb (zg rfl (za (R0 fun _=>st (aS (.bool false) (zb (zk (zG vT (show _=(.bool false:Value)from rfl) ?_)))))))))))
 refine⟨?_,(g.s3_)⟩
 rw[YG]
 ·first|rfl|(simp only[c,Bool.not_true,Bool.not_false,Bool.false_and,Bool.true_and,Bool.and_false,Bool.and_true,Bool.false_or,Bool.or_false,Bool.true_or,Bool.or_true,Bool.false_eq_true,↓reduceIte];done)|(simp only[c,Bool.not_true,Bool.not_false,Bool.false_and,Bool.true_and,Bool.and_false,Bool.and_true,Bool.false_or,Bool.or_false,Bool.true_or,Bool.or_true,Bool.false_eq_true,↓reduceIte];rfl)
theorem QU {d:Dcl}{dd0:Value}(hdd0:RdS W G dd0 d.types){dd1:Value}(hdd1:RdS W G dd1 d.projs)(od:d.Ok){ty:Int}(hty:InR ty){f:Int}(hf:InR f)(hS0:Sep G W Rs w):Ret Tryz.prog 65 [.agg (d.cells dd0 dd1).toArray,.int .i64 (ty),.int .i64 (f)] w (fun r w'=> ∃(v:Value),r=(.tuple #[.agg ((zW d ty f).cells v).toArray,.bool ((yD d ty f))]:Value)∧((zW d ty f).Ok)∧Sep G W ((RowE (α:=Mv) own 143 v ((zW d ty f).moves))::Rs) w'):=by
 let aU:=zN W (sb dd0) (so dd0+ty.toNat*1+0)
 let aV:=zN W (sb aU) (so aU+f.toNat*4+3)
 have hdd0s:_*24≤_:=hdd0.small
 have hdd1s:_*40≤_:=hdd1.small
 refine zi (args:=[.agg (d.cells dd0 dd1).toArray,Iv ty,Iv f]) Tryz.func65 rfl rfl ?_
 refine za (R0 fun _=>st (zM (v:=.agg (d.cells dd0 dd1).toArray) rfl ?_))
 intro w3 b2 aQ
 refine st (zq oR ?_)
 intro w7 U aR
 have l:=(hS0.new aQ).new aR
 refine st (aS (.bool false) (zb (za (za (zA kr (st (mV (Iv ty) (st (zC (k:=.i64) (a:=ty) (b:=0) rfl rfl (st (mV (.bool (decide (ty<0))) (stc (V:=Iv ty) rfl rfl (fun aT=>?_) ?_))))))))))))
 have hl10:=fD aT
 exact mV (Iv ty) ⟨rfl,rfl⟩
 refine stc (V:=Ix b2 0) rfl rfl (fun an=>?_) ?_
 have hl12:=fD an
 exact yC rfl ⟨rfl,rfl⟩
 refine stc (V:=dd0) rfl rfl (fun B=>?_) ?_
 have hl14:=fD B
 exact lD dd0 pR (if_pos B) (zd (l.b1) rfl) ⟨rfl,rfl⟩
 refine stc (V:=Iw d.types.length) rfl rfl (fun C=>?_) ?_
 have hl16:=fD C
 exact zJ (n:=d.types.length) qR (if_pos C) hdd0.sl ⟨rfl,rfl⟩
 refine stc (V:=.bool (decide (((d.types.length:Nat):Int)≤ty))) rfl rfl (fun q=>?_) ?_
 have hl18:=fD q
 exact yR (k:=.i64) (a:=ty) (b:=((d.types.length:Nat):Int)) (if_pos q) (if_pos q) ⟨rfl,rfl⟩
 refine st (zt (b:=decide (ty<0)) (b':=decide (((d.types.length:Nat):Int)≤ty)) rfl (fun hbp=>(if_pos hbp)) (st (mV (.bool ((decide (ty<0))||(decide (((d.types.length:Nat):Int)≤ty)))) (stc (V:=Iv f) rfl rfl (fun ao=>?_) ?_))))
 have ap:=ao
 try simp only[zf]at ap
 exact mV (Iv f) ⟨rfl,rfl⟩
 refine stc (V:=.bool (decide (f<0))) rfl rfl (fun D=>?_) ?_
 have aq:=D
 try simp only[zf]at aq
 exact zC (k:=.i64) (a:=f) (b:=0) (if_pos D) rfl ⟨rfl,rfl⟩
 refine st (zt (b:=(decide (ty<0))||(decide (((d.types.length:Nat):Int)≤ty))) (b':=decide (f<0)) rfl (fun hbp=>(if_pos hbp)) (st (mV (.bool (((decide (ty<0))||(decide (((d.types.length:Nat):Int)≤ty)))||(decide (f<0)))) (stc (V:=Iv f) rfl rfl (fun ar=>?_) ?_))))
 have au:=ar
 try simp only[zf]at au
 exact mV (Iv f) ⟨rfl,rfl⟩
 refine stc (V:=Ix b2 0) rfl rfl (fun av=>?_) ?_
 have aw:=av
 try simp only[zf]at aw
 exact yC rfl ⟨rfl,rfl⟩
 refine stc (V:=dd0) rfl rfl (fun E=>?_) ?_
 have ax:=E
 try simp only[zf]at ax
 exact lD dd0 pR (if_pos E) (zd (l.b1) rfl) ⟨rfl,rfl⟩
 refine stc (V:=Iv ty) rfl rfl (fun ay=>?_) ?_
 have az:=ay
 try simp only[zf]at az
 exact mV (Iv ty) ⟨rfl,rfl⟩
 refine stc (V:=Ix (sb dd0) (so dd0+ty.toNat*1)) rfl rfl (fun s=>?_) ?_
 have aA:=s
 try simp only[zf]at aA
 have hi33:ty.toNat<d.types.length:=bo
 exact zr (k:=1) (i:=ty) qR lY (if_pos s) hdd0.sl (if_pos s) ⟨by omega,by omega⟩ ⟨rfl,rfl⟩
 refine stc (V:=Ix (sb dd0) (so dd0+ty.toNat*1)) rfl rfl (fun F=>?_) ?_
 have aB:=F
 try simp only[zf]at aB
 exact yS (if_pos F) ⟨rfl,rfl⟩
 refine stc (V:=aU) rfl rfl (fun H=>?_) ?_
 have aC:=H
 try simp only[zf]at aC
 have I:ty.toNat<d.types.length:=bo
 obtain⟨X,A,hoke38⟩:=hdd0.typD I
 have hsm40:((d.types.getD ty.toNat default).fields).length*48≤140737488355328:=A.small
 have Y:=l.cells X (hdd0.foot (ne_of_lt I))
 exact lD aU mY (if_pos H) (Y.get (j:=0) rfl) ⟨rfl,rfl⟩
 refine stc (V:=Iw (((d.types.getD ty.toNat default).fields).length)) rfl rfl (fun J=>?_) ?_
 have aD:=J
 try simp only[zf]at aD
 have K:ty.toNat<d.types.length:=bo
 obtain⟨Z,m,hoke44⟩:=hdd0.typD K
 have hsm46:((d.types.getD ty.toNat default).fields).length*48≤140737488355328:=m.small
 have hcw47:=l.cells Z (hdd0.foot (ne_of_lt K))
 exact zJ (n:=((d.types.getD ty.toNat default).fields).length) nY (if_pos J) m.sl ⟨rfl,rfl⟩
 refine stc (V:=.bool (decide (((((d.types.getD ty.toNat default).fields).length:Nat):Int)≤f))) rfl rfl (fun t=>?_) ?_
 have aE:=t
 try simp only[zf]at aE
 exact yR (k:=.i64) (a:=f) (b:=((((d.types.getD ty.toNat default).fields).length:Nat):Int)) (if_pos t) (if_pos t) ⟨rfl,rfl⟩
 refine st (zt (b:=((decide (ty<0))||(decide (((d.types.length:Nat):Int)≤ty)))||(decide (f<0))) (b':=decide (((((d.types.getD ty.toNat default).fields).length:Nat):Int)≤f)) rfl (fun hbp=>(if_pos hbp)) (zb ?_))
 cases L:(((decide (ty<0))||(decide (((d.types.length:Nat):Int)≤ty)))||(decide (f<0)))||(decide (((((d.types.getD ty.toNat default).fields).length:Nat):Int)≤f))
 try simp only[zf]at L
 refine ze rfl (zl (za (R0 fun _=>st (yC rfl (st (lD dd0 pR rfl (zd (l.b1) rfl) (st (mV (Iv ty) ?_))))))))
 have hi51:ty.toNat<d.types.length:=bo
 refine st (zr (k:=1) (i:=ty) qR lY rfl hdd0.sl rfl ⟨by omega,by omega⟩ (st (yS rfl ?_)))
 have M:ty.toNat<d.types.length:=bo
 obtain⟨aa,h,hoke52⟩:=hdd0.typD M
 have hsm54:((d.types.getD ty.toNat default).fields).length*48≤140737488355328:=h.small
 have ab:=l.cells aa (hdd0.foot (ne_of_lt M))
 refine st (lD aU mY rfl (ab.get (j:=0) rfl) (st (mV (Iv f) ?_)))
 have hi56:f.toNat<((d.types.getD ty.toNat default).fields).length:=bo
 refine st (zr (k:=4) (i:=f) nY pT rfl h.sl rfl ⟨by omega,by omega⟩ ?_)
 have N:f.toNat<((d.types.getD ty.toNat default).fields).length:=bo
 obtain⟨ac,e,p⟩:=h.fldD N
 have hsm59:((((d.types.getD ty.toNat default).fields).getD f.toNat default).moves).length*32≤140737488355328:=e.small
 have ad:=l.cells ac (h.foot (ne_of_lt N))
 refine st (zh (k:=4) sT pT rfl rfl ad (st (zq oR ?_)))
 intro w63 al aF
 have O:=l.new aF
 refine stn (zp (v:=.agg ((((d.types.getD ty.toNat default).fields).getD f.toNat default).cells aV).toArray) (c':=((((d.types.getD ty.toNat default).fields).getD f.toNat default).cells aV).toArray) pT rfl rfl (O.b0) (zX ⟨rfl,rfl,rfl,e.sl.one,trivial⟩) yqc rfl ?_)
 intro w65 aG
 refine zb (za (R0 fun _=>st (aS (Iz) (zb (za (za (R0 fun _=>st (aS (Iv 0) (zb (zn ?_))))))))))
 have aH:Sep _ _ ((RowE (α:=Mv) own 143 (Iz) ([]:List Mv))::_) _:=(O.pt0 aG).rowNil own 143
 refine zZ (fun mq σ wq=> ∃(k:Nat) (vm:Value) (ρ:Env),mq=((d.types.getD ty.toNat default).fields.getD f.toNat default).moves.length-k∧σ=yd ρ [(3,Ix b2 0),(6,Ix U 0),(8,Ix al 0),(10,Iw k),(9,vm)]∧(k≤((d.types.getD ty.toNat default).fields.getD f.toNat default).moves.length)∧Sep G W ((RowE (α:=Mv) own 143 vm (((d.types.getD ty.toNat default).fields.getD f.toNat default).moves.take k))::(Blk al ((((d.types.getD ty.toNat default).fields).getD f.toNat default).cells (zN W (sb (zN W (sb dd0) (so dd0+ty.toNat*1+0))) (so (zN W (sb dd0) (so dd0+ty.toNat*1+0))+f.toNat*4+3))).toArray 106)::(Blk U #[Iv 0,Iv 0,.bool false,(Iz)] 106)::(Blk b2 (d.cells dd0 dd1).toArray 25)::Rs) wq) ⟨0,(Iz),_,rfl,sSf,Nat.zero_le _,aH⟩ ?_
 rintro m70 σ71 w69 ⟨k,vm,ρl1,rfl,rfl,hkk,g⟩
 have aI:=g.r0
 have hr73s:_*32≤_:=aI.2
 refine za (za (R0 fun _=>st (mV (Iw k) (st (yF rfl (st (lD aV rR rfl (zd (g.b1) rfl) (st (zJ (n:=((((d.types.getD ty.toNat default).fields).getD f.toNat default).moves).length) wT rfl e.sl (st (zC (k:=.i64) (a:=((k:Nat):Int)) (b:=((((((d.types.getD ty.toNat default).fields).getD f.toNat default).moves).length:Nat):Int)) rfl rfl (zb ?_))))))))))))
 cases o:decide (((k:Nat):Int)<((((((d.types.getD ty.toNat default).fields).getD f.toNat default).moves).length:Nat):Int))
 have o:=fD o
 have hkn:k=((d.types.getD ty.toNat default).fields.getD f.toNat default).moves.length:=by omega
 rw[hkn,List.take_of_length_le (Nat.le_refl ((d.types.getD ty.toNat default).fields.getD f.toNat default).moves.length)]at g
 have u:=g.r0
 have hr75s:_*32≤_:=u.2
 refine ze rfl (ya (zS (za (R0 fun _=>st (mV vm (st (yF rfl (stn (ym (v:=vm) (c:=[Iv ((((d.types.getD ty.toNat default).fields).getD f.toNat default).kind),Iv ((((d.types.getD ty.toNat default).fields).getD f.toNat default).policy),.bool ((((d.types.getD ty.toNat default).fields).getD f.toNat default).floor),aV]) (c':=[Iv ((((d.types.getD ty.toNat default).fields).getD f.toNat default).kind),Iv ((((d.types.getD ty.toNat default).fields).getD f.toNat default).policy),.bool ((((d.types.getD ty.toNat default).fields).getD f.toNat default).floor),vm]) Tryz.sizeOf104 rfl rfl (g.b1) u.1.one rfl rfl ?_)))))))))
 intro w76 aJ
 have aK:Fld.Ok (⟨(((d.types.getD ty.toNat default).fields).getD f.toNat default).kind,(((d.types.getD ty.toNat default).fields).getD f.toNat default).policy,(((d.types.getD ty.toNat default).fields).getD f.toNat default).floor,((d.types.getD ty.toNat default).fields.getD f.toNat default).moves⟩:Fld):=⟨(show InR ((((d.types.getD ty.toNat default).fields).getD f.toNat default).kind)from p.kind),(show InR ((((d.types.getD ty.toNat default).fields).getD f.toNat default).policy)from p.policy)⟩
 have x:=g.pt1 aJ
 refine zb (za (R0 fun _=>st (zh (k:=4) sT pT rfl rfl (CellsAt.all (x.b1)) (stn (zp (v:=.agg ((⟨(((d.types.getD ty.toNat default).fields).getD f.toNat default).kind,(((d.types.getD ty.toNat default).fields).getD f.toNat default).policy,(((d.types.getD ty.toNat default).fields).getD f.toNat default).floor,((d.types.getD ty.toNat default).fields.getD f.toNat default).moves⟩:Fld).cells vm).toArray) (c':=((⟨(((d.types.getD ty.toNat default).fields).getD f.toNat default).kind,(((d.types.getD ty.toNat default).fields).getD f.toNat default).policy,(((d.types.getD ty.toNat default).fields).getD f.toNat default).floor,((d.types.getD ty.toNat default).fields.getD f.toNat default).moves⟩:Fld).cells vm).toArray) pT rfl rfl (x.b2) (zX ⟨rfl,rfl,rfl,u.1.one,trivial⟩) yqc rfl ?_)))))
 intro w80 aL
 have P:=x.pt2 aL
 refine st (aS (.bool true) (zb (zk (xD (b:=U) oY sT pT rfl rfl (CellsAt.all (P.b2)) (show _=(.bool true:Value)from rfl) ?_))))
 have Q:yD d ty f=true:=by unfold yD;simp only[Bool.and_eq_true,decide_eq_true_eq];omega
 have hz:zW d ty f=(⟨(((d.types.getD ty.toNat default).fields).getD f.toNat default).kind,(((d.types.getD ty.toNat default).fields).getD f.toNat default).policy,(((d.types.getD ty.toNat default).fields).getD f.toNat default).floor,((d.types.getD ty.toNat default).fields.getD f.toNat default).moves⟩:Fld):=by unfold zW;rw[Q];rfl
 rw[hz,Q]
 refine⟨vm,rfl,?_,(P.s4_a)⟩
 exact aK
 have o:=tD o
 refine zg rfl (zl (za (zn (R0 fun _=>st (mV vm (st (yF rfl (st (lD aV rR rfl (zd (g.b1) rfl) (st (mV (Iw k) ?_)))))))))))
 have aM:k<((((d.types.getD ty.toNat default).fields).getD f.toNat default).moves).length:=bo
 refine st (zj (k:=4) (i:=k) wT sR rfl e.sl rfl aM ?_)
 have R:k<((((d.types.getD ty.toNat default).fields).getD f.toNat default).moves).length:=bo
 obtain⟨ae,S⟩:=e.mvD R
 have af:=g.cells ae (e.foot (ne_of_lt R))
 refine st (zh (k:=4) Tryz.isAgg143 sR rfl rfl af (st (zI (k:=4) (parts':=[(0,.agg ((((((d.types.getD ty.toNat default).fields).getD f.toNat default).moves).getD k default).cells).toArray)]) (c:=((((((d.types.getD ty.toNat default).fields).getD f.toNat default).moves).getD k default).cells).toArray) wT sR Tryz.zeroValue143 dc rfl kr ?_)))
 intro w90 b89 aN
 have T:=g.new aN
 have ag:=T.b0
 refine st (yj (src:=own) (bytes:=32) (x1:=(((((d.types.getD ty.toNat default).fields).getD f.toNat default).moves).getD k default)) ((T.s5_bcde).emp1) Kt rfl rfl ag (fun _ _ _=>(show _ from⟨rfl,S⟩)) yqb rfl ?_)
 intro am w92 y
 have aO:=y.r0
 have hr98s:_*32≤_:=aO.2
 refine st (aS am (zb (R0 fun _=>st (mV (Iw k) ?_))))
 have aP:InR ((k+1:Nat):Int):=bo
 refine st (zP (r:=((k+1:Nat):Int)) (k:=.i64) (a:=((k:Nat):Int)) (b:=1) rfl rfl (by rw[show(((k:Nat):Int)+1:Int)=((k+1:Nat):Int)from bo];exact zF aP) (st (aS (Iw (k+1)) (zb ?_))))
 have ah:(((d.types.getD ty.toNat default).fields.getD f.toNat default).moves.take (k+1))=(((d.types.getD ty.toNat default).fields.getD f.toNat default).moves.take k)++[(((((d.types.getD ty.toNat default).fields).getD f.toNat default).moves).getD k default)]:=(List.take_getD om)
 rw[←ah]at y
 exact⟨_,by omega,k+1,am,_,rfl,sSf,by omega,y⟩
 try simp only[zf]at L
 refine zg rfl (za (R0 fun _=>?_))
 have ai:Fld.Ok (⟨0,0,false,[]⟩:Fld):=⟨(show InR (0)from dc),(show InR (0)from dc)⟩
 refine st (zL (parts':=[]) (v:=.agg ((⟨0,0,false,[]⟩:Fld).cells (Iz)).toArray) rfl (by simp+zetaDelta [Instr.build,Instr.fill,Ev.cells,go_sem,Mv.cells,Fld.cells,Typ.cells,Prj.cells,Dcl.cells,Cel.cells,AskR.cells,CelS.cells,Ev.cells,Ent.cells,Sta.cells,Cmd.cells]) (stn (zp (v:=.agg ((⟨0,0,false,[]⟩:Fld).cells (Iz)).toArray) (c':=((⟨0,0,false,[]⟩:Fld).cells (Iz)).toArray) pT rfl rfl (l.b0) (zX ⟨rfl,rfl,rfl,rfl,trivial⟩) yqc rfl ?_)))
 intro w102 aj
 have z:=l.pt0 aj
 refine st (aS (.bool false) (zb (zk (xD (b:=U) oY sT pT rfl rfl (CellsAt.all (z.b0)) (show _=(.bool false:Value)from rfl) ?_))))
 have ak:Sep _ _ ((RowE (α:=Mv) own 143 (Iz) ([]:List Mv))::_) _:=z.rowNil own 143
 have Q:yD d ty f=false:=by unfold yD;rw[Bool.eq_false_iff];intro h9;simp only[Bool.and_eq_true,decide_eq_true_eq]at h9;omega
 have hz:zW d ty f=(⟨0,0,false,[]⟩:Fld):=by unfold zW;rw[Q];rfl
 rw[hz,Q]
 refine⟨(Iz),rfl,?_,(ak.s3_a)⟩
 exact ai
theorem Vi {d:Dcl}{dd0:Value}(hdd0:RdS W G dd0 d.types){dd1:Value}(hdd1:RdS W G dd1 d.projs)(od:d.Ok){ty:Int}(hty:InR ty){f:Int}(hf:InR f){op:Int}(hop:InR op){arg:Int}(harg:InR arg)(hS0:Sep G W Rs w):Ret Tryz.prog 83 [.agg (d.cells dd0 dd1).toArray,.int .i64 (ty),.int .i64 (f),.int .i64 (op),.int .i64 (arg)] w (fun r w'=>r=(.int .i64 (yV d ty f op arg):Value)∧Sep G W Rs w'):=by
 have hdd0s:_*24≤_:=hdd0.small
 have hdd1s:_*40≤_:=hdd1.small
 refine zi (args:=[.agg (d.cells dd0 dd1).toArray,Iv ty,Iv f,Iv op,Iv arg]) Tryz.func83 rfl rfl ?_
 refine za (R0 fun _=>st (zM (v:=.agg (d.cells dd0 dd1).toArray) rfl ?_))
 intro w3 b2 L
 have E:=hS0.new L
 refine st (aS (Iv 0) (zb (za (R0 fun _=>st (zh (k:=2) pY qY rfl rfl (CellsAt.all (E.b0)) (st (mV (Iv ty) (st (mV (Iv f) (st (cL Tryz.call65 (QU (d:=d) (ty:=ty) (f:=f) hdd0 hdd1 od hty hf E) ?_)))))))))))
 rintro _ w7 ⟨u,rfl,hfok6,F⟩
 let N:=(zW d ty f).cells u
 have y:=F.r0
 have hr9s:_*32≤_:=y.2
 refine st (mV (.tuple #[.agg N.toArray,.bool ((yD d ty f))]) (st (zm (vs:=[.agg N.toArray,.bool ((yD d ty f))]) (i:=0) (v:=.agg N.toArray) rfl rfl (st (zm (vs:=[.agg N.toArray,.bool ((yD d ty f))]) (i:=1) (v:=.bool ((yD d ty f))) rfl rfl (st (zq oR ?_)))))))
 intro w12 M H
 have z:=F.new H
 refine stn (zp (v:=.agg N.toArray) (c':=N.toArray) pT rfl rfl (z.b0) (zX ⟨rfl,rfl,rfl,y.1.one,trivial⟩) yqc rfl ?_)
 intro w14 I
 have c:=z.pt0 I
 refine st (aS (.bool ((yD d ty f))) (zb (za (za (R0 fun _=>st (mV (.bool ((yD d ty f))) (st (yB (a:=(yD d ty f)) rfl (zb ?_)))))))))
 cases A: !(yD d ty f)
 try simp only[zf]at A
 refine ze rfl (zl (za (za (R0 fun _=>st (mV (Iv op) (zb (zn (za (R0 fun _=>st (zR (k:=.i64) (a:=op) (b:=1) rfl rfl (st (aS (.bool (decide (op=1))) (zb ?_)))))))))))))
 cases e:decide (op=1)
 have e:=fD e
 refine ze rfl (za (R0 fun _=>st (zR (k:=.i64) (a:=op) (b:=2) rfl rfl (st (aS (.bool (decide (op=2))) (zb ?_))))))
 cases g:decide (op=2)
 have g:=fD g
 refine ze rfl (za (za (R0 fun _=>st (zR (k:=.i64) (a:=op) (b:=3) rfl rfl (st (aS (.bool (decide (op=3))) (zb ?_)))))))
 cases h:decide (op=3)
 have h:=fD h
 refine ze rfl (R0 fun _=>st (zR (k:=.i64) (a:=op) (b:=4) rfl rfl (st (aS (.bool (decide (op=4))) (zb ?_)))))
 cases j:decide (op=4)
 have j:=fD j
 refine ze rfl (za (R0 fun _=>st (zR (k:=.i64) (a:=op) (b:=5) rfl rfl (st (aS (.bool (decide (op=5))) (zb ?_))))))
 cases l:decide (op=5)
 have l:=fD l
 refine ze rfl (za (R0 fun _=>st (aS (Iv 2) (zb (zk (zG nT (show _=(Iv 2:Value)from rfl) ?_))))))
 refine⟨?_,(c.s3_)⟩
 congr 1
 rw[xn]
 ·repeat first|rfl|rw[if_pos (by first|assumption|omega)]|rw[if_neg (by first|assumption|omega|simp_all)]
 have l:=tD l
 refine zg rfl (za (za (R0 fun _=>st (xg rfl (st (lD (Iv ((zW d ty f).kind)) kT rfl (zd (c.b0) rfl) (st (yn (k:=.i64) (a:=(zW d ty f).kind) (b:=4) rfl rfl (zb ?_)))))))))
 cases m: !decide (((zW d ty f).kind)=4)
 have m:=zQ m
 refine ze rfl (zl (za (zA kr (st (mV (Iv arg) (st (zC (k:=.i64) (a:=arg) (b:=0) rfl rfl (st (mV (.bool (decide (arg<0))) (stc (V:=Iv arg) rfl rfl (fun J=>?_) ?_))))))))))
 have hl26:=fD J
 exact mV (Iv arg) ⟨rfl,rfl⟩
 refine stc (V:=Ix M 3) rfl rfl (fun K=>?_) ?_
 have hl28:=fD K
 exact yF rfl ⟨rfl,rfl⟩
 refine stc (V:=u) rfl rfl (fun B=>?_) ?_
 have hl30:=fD B
 exact lD u rR (if_pos B) (zd (c.b0) rfl) ⟨rfl,rfl⟩
 refine stc (V:=Iw (((zW d ty f).moves).length)) rfl rfl (fun C=>?_) ?_
 have hl32:=fD C
 exact zJ (n:=((zW d ty f).moves).length) wT (if_pos C) y.1 ⟨rfl,rfl⟩
 refine stc (V:=.bool (decide (((((zW d ty f).moves).length:Nat):Int)≤arg))) rfl rfl (fun x=>?_) ?_
 have hl34:=fD x
 exact yR (k:=.i64) (a:=arg) (b:=((((zW d ty f).moves).length:Nat):Int)) (if_pos x) (if_pos x) ⟨rfl,rfl⟩
 refine st (zt (b:=decide (arg<0)) (b':=decide (((((zW d ty f).moves).length:Nat):Int)≤arg)) rfl (fun hbp=>(if_pos hbp)) (zb ?_))
 cases D:(decide (arg<0))||(decide (((((zW d ty f).moves).length:Nat):Int)≤arg))
 try simp only[zf]at D
 refine ze rfl (zl (za (R0 fun _=>st (aS (Iv 0) (zb (zk (zG nT (show _=(Iv 0:Value)from rfl) ?_)))))))
 refine⟨?_,(c.s3_)⟩
 congr 1
 rw[xn]
 ·repeat first|rfl|rw[if_pos (by first|assumption|omega)]|rw[if_neg (by first|assumption|omega|simp_all)]
 try simp only[zf]at D
 refine zg rfl (za (R0 fun _=>st (aS (Iv 1) (zb (zk (zG nT (show _=(Iv 1:Value)from rfl) ?_))))))
 refine⟨?_,(c.s3_)⟩
 congr 1
 rw[xn]
 ·repeat first|rfl|rw[if_pos (by first|assumption|omega)]|rw[if_neg (by first|assumption|omega|simp_all)]
 have m:=zz m
 refine zg rfl (za (R0 fun _=>st (aS (Iv 2) (zb (zk (zG nT (show _=(Iv 2:Value)from rfl) ?_))))))
 refine⟨?_,(c.s3_)⟩
 congr 1
 rw[xn]
 ·repeat first|rfl|rw[if_pos (by first|assumption|omega)]|rw[if_neg (by first|assumption|omega|simp_all)]
 have j:=tD j
 refine zg rfl (za (R0 fun _=>st (xg rfl (st (lD (Iv ((zW d ty f).kind)) kT rfl (zd (c.b0) rfl) (st (yn (k:=.i64) (a:=(zW d ty f).kind) (b:=3) rfl rfl (zb ?_))))))))
 cases o: !decide (((zW d ty f).kind)=3)
 have o:=zQ o
 refine ze rfl (zl (za (R0 fun _=>st (aS (Iv 0) (zb (zk (zG nT (show _=(Iv 0:Value)from rfl) ?_)))))))
 refine⟨?_,(c.s3_)⟩
 congr 1
 rw[xn]
 ·repeat first|rfl|rw[if_pos (by first|assumption|omega)]|rw[if_neg (by first|assumption|omega|simp_all)]
 have o:=zz o
 refine zg rfl (za (R0 fun _=>st (aS (Iv 2) (zb (zk (zG nT (show _=(Iv 2:Value)from rfl) ?_))))))
 refine⟨?_,(c.s3_)⟩
 congr 1
 rw[xn]
 ·repeat first|rfl|rw[if_pos (by first|assumption|omega)]|rw[if_neg (by first|assumption|omega|simp_all)]
 have h:=tD h
 refine zg rfl (zl (zg rfl (za (R0 fun _=>st (xg rfl (st (lD (Iv ((zW d ty f).kind)) kT rfl (zd (c.b0) rfl) (st (yn (k:=.i64) (a:=(zW d ty f).kind) (b:=3) rfl rfl (zb ?_))))))))))
 cases p: !decide (((zW d ty f).kind)=3)
 have p:=zQ p
 refine ze rfl (zl (za (R0 fun _=>st (aS (Iv 0) (zb (zk (zG nT (show _=(Iv 0:Value)from rfl) ?_)))))))
 refine⟨?_,(c.s3_)⟩
 congr 1
 rw[xn]
 ·repeat first|rfl|rw[if_pos (by first|assumption|omega)]|rw[if_neg (by first|assumption|omega|simp_all)]
 have p:=zz p
 refine zg rfl (za (R0 fun _=>st (aS (Iv 2) (zb (zk (zG nT (show _=(Iv 2:Value)from rfl) ?_))))))
 refine⟨?_,(c.s3_)⟩
 congr 1
 rw[xn]
 ·repeat first|rfl|rw[if_pos (by first|assumption|omega)]|rw[if_neg (by first|assumption|omega|simp_all)]
 have g:=tD g
 refine zg rfl (za (R0 fun _=>st (xg rfl (st (lD (Iv ((zW d ty f).kind)) kT rfl (zd (c.b0) rfl) (st (yn (k:=.i64) (a:=(zW d ty f).kind) (b:=2) rfl rfl (zb ?_))))))))
 cases q: !decide (((zW d ty f).kind)=2)
 have q:=zQ q
 refine ze rfl (zl (za (R0 fun _=>st (aS (Iv 0) (zb (zk (zG nT (show _=(Iv 0:Value)from rfl) ?_)))))))
 refine⟨?_,(c.s3_)⟩
 congr 1
 rw[xn]
 ·repeat first|rfl|rw[if_pos (by first|assumption|omega)]|rw[if_neg (by first|assumption|omega|simp_all)]
 have q:=zz q
 refine zg rfl (za (R0 fun _=>st (aS (Iv 2) (zb (zk (zG nT (show _=(Iv 2:Value)from rfl) ?_))))))
 refine⟨?_,(c.s3_)⟩
 congr 1
 rw[xn]
 ·repeat first|rfl|rw[if_pos (by first|assumption|omega)]|rw[if_neg (by first|assumption|omega|simp_all)]
 have e:=tD e
 refine zg rfl (za (za (R0 fun _=>st (xg rfl (st (lD (Iv ((zW d ty f).kind)) kT rfl (zd (c.b0) rfl) (st (yn (k:=.i64) (a:=(zW d ty f).kind) (b:=1) rfl rfl (zb ?_)))))))))
 cases s: !decide (((zW d ty f).kind)=1)
 have s:=zQ s
 refine ze rfl (zl (za (R0 fun _=>st (mV (Iv arg) (st (zR (k:=.i64) (a:=arg) (b:=0) rfl rfl (zb ?_)))))))
 cases t:decide (arg=0)
 have t:=fD t
 refine ze rfl (zl (za (R0 fun _=>st (aS (Iv 0) (zb (zk (zG nT (show _=(Iv 0:Value)from rfl) ?_)))))))
 refine⟨?_,(c.s3_)⟩
 congr 1
 rw[xn]
 ·repeat first|rfl|rw[if_pos (by first|assumption|omega)]|rw[if_neg (by first|assumption|omega|simp_all)]
 have t:=tD t
 refine zg rfl (za (R0 fun _=>st (aS (Iv 1) (zb (zk (zG nT (show _=(Iv 1:Value)from rfl) ?_))))))
 refine⟨?_,(c.s3_)⟩
 congr 1
 rw[xn]
 ·repeat first|rfl|rw[if_pos (by first|assumption|omega)]|rw[if_neg (by first|assumption|omega|simp_all)]
 have s:=zz s
 refine zg rfl (za (R0 fun _=>st (aS (Iv 2) (zb (zk (zG nT (show _=(Iv 2:Value)from rfl) ?_))))))
 refine⟨?_,(c.s3_)⟩
 congr 1
 rw[xn]
 ·repeat first|rfl|rw[if_pos (by first|assumption|omega)]|rw[if_neg (by first|assumption|omega|simp_all)]
 try simp only[zf]at A
 refine zg rfl (za (R0 fun _=>st (aS (Iv 8) (zb (zk (zG nT (show _=(Iv 8:Value)from rfl) ?_))))))
 refine⟨?_,(c.s3_)⟩
 congr 1
 rw[xn]
 ·repeat first|rfl|rw[if_pos (by first|assumption|omega)]|rw[if_neg (by first|assumption|omega|simp_all)]
theorem WY {v:List Int}:(yg v []).length=v.length:=by rw[XB];exact Nat.max_eq_left (Nat.zero_le _)
theorem Ul {v:List Int}{k:Nat}(h:k<v.length):(yg v []).getD k 0=yu v ((k:Nat):Int):=by
 rw[UQ (Nat.lt_of_lt_of_le h (Nat.le_max_left ..))]
 have h1:yu [] ((k:Nat):Int)=0:=by unfold yu;rw[if_pos (.inr (by simp))]
 have h2:0≤yu v ((k:Nat):Int):=by unfold yu;split<;>omega
 omega
theorem Jo {d:Dcl}{dd0:Value}(hdd0:RdS W G dd0 d.types){dd1:Value}(hdd1:RdS W G dd1 d.projs)(od:d.Ok){c:Cmd}(oc:c.Ok)(hS0:Sep G W Rs w):Ret Tryz.prog 44 [.agg (d.cells dd0 dd1).toArray,.agg (c.cells).toArray] w (fun r w'=>r=(.int .i64 (xx d c):Value)∧Sep G W Rs w'):=by
 have hdd0s:_*24≤_:=hdd0.small
 have hdd1s:_*40≤_:=hdd1.small
 refine zi (args:=[.agg (d.cells dd0 dd1).toArray,.agg (c.cells).toArray]) Tryz.func44 rfl rfl ?_
 refine za (R0 fun _=>st (zM (v:=.agg (d.cells dd0 dd1).toArray) rfl ?_))
 intro w3 b2 t
 refine st (zM (v:=.agg (c.cells).toArray) rfl ?_)
 intro w7 u x
 have e:=(hS0.new t).new x
 refine st (aS (Iv 0) (zb (za (za (zA kr (st (Xw rfl (st (lD (Iv (c.cagg)) kT rfl (zd (e.b0) rfl) (st (zC (k:=.i64) (a:=c.cagg) (b:=0) rfl rfl (st (mV (.bool (decide (c.cagg<0))) (stc (V:=Ix u 6) rfl rfl (fun y=>?_) ?_))))))))))))))
 have hl10:=fD y
 exact Xm rfl ⟨rfl,rfl⟩
 refine stc (V:=Iv (c.ckey)) rfl rfl (fun i=>?_) ?_
 have hl12:=fD i
 exact lD (Iv (c.ckey)) kT (if_pos i) (zd (e.b0) rfl) ⟨rfl,rfl⟩
 refine stc (V:=.bool (decide (c.ckey<0))) rfl rfl (fun j=>?_) ?_
 have hl14:=fD j
 exact zC (k:=.i64) (a:=c.ckey) (b:=0) (if_pos j) rfl ⟨rfl,rfl⟩
 refine st (zt (b:=decide (c.cagg<0)) (b':=decide (c.ckey<0)) rfl (fun hbp=>(if_pos hbp)) (st (mV (.bool ((decide (c.cagg<0))||(decide (c.ckey<0)))) (stc (V:=Ix u 5) rfl rfl (fun n=>?_) ?_))))
 have o:=n
 try simp only[zf]at o
 exact Yo rfl ⟨rfl,rfl⟩
 refine stc (V:=Iv (c.expect)) rfl rfl (fun l=>?_) ?_
 have p:=l
 try simp only[zf]at p
 exact lD (Iv (c.expect)) kT (if_pos l) (zd (e.b0) rfl) ⟨rfl,rfl⟩
 refine stc (V:=.bool (decide (c.expect<(-1)))) rfl rfl (fun m=>?_) ?_
 have q:=m
 try simp only[zf]at q
 exact zC (k:=.i64) (a:=c.expect) (b:= -1) (if_pos m) rfl ⟨rfl,rfl⟩
 refine st (zt (b:=(decide (c.cagg<0))||(decide (c.ckey<0))) (b':=decide (c.expect<(-1))) rfl (fun hbp=>(if_pos hbp)) (zb ?_))
 cases g:((decide (c.cagg<0))||(decide (c.ckey<0)))||(decide (c.expect<(-1)))
 have h:=g
 try simp only[zf]at g
 refine ze rfl (zl (za (R0 fun _=>st (zh (k:=2) pY qY rfl rfl (CellsAt.all (e.b1)) (st (Yc rfl (st (lD (Iv (c.ctyp)) kT rfl (zd (e.b0) rfl) (st (Xp rfl (st (lD (Iv (c.cfield)) kT rfl (zd (e.b0) rfl) (st (Xz rfl (st (lD (Iv (c.cop)) kT rfl (zd (e.b0) rfl) (st (YS rfl (st (lD (Iv (c.carg)) kT rfl (zd (e.b0) rfl) (st (cL Tryz.call83 (Vi (d:=d) (ty:=c.ctyp) (f:=c.cfield) (op:=c.cop) (arg:=c.carg) hdd0 hdd1 od oc.ctyp oc.cfield oc.cop oc.carg e) ?_))))))))))))))))))))))
 rintro _ w22 ⟨rfl,s⟩
 refine st (aS (Iv (yV d c.ctyp c.cfield c.cop c.carg)) (zb (zk (zG rY (show _=(Iv (yV d c.ctyp c.cfield c.cop c.carg):Value)from rfl) ?_))))
 refine⟨?_,(s.s2_)⟩
 unfold xx
 simp only[h,if_true,if_false,Bool.false_eq_true,↓reduceIte]
 have h:=g
 try simp only[zf]at g
 refine zg rfl (za (R0 fun _=>st (aS (Iv 1) (zb (zk (zG rY (show _=(Iv 1:Value)from rfl) ?_))))))
 refine⟨?_,(e.s2_)⟩
 unfold xx
 simp only[h,if_true,if_false,Bool.false_eq_true,↓reduceIte]
theorem Vg {c:Cmd}(oc:c.Ok){o:Int}(ho:InR o){vv:Value}{v:List Int}(hv:RdS W G vv v){lam:Int}(hlam:InR lam)(hS0:Sep G W Rs w):Ret Tryz.prog 49 [.agg (c.cells).toArray,.int .i64 (o),vv,.int .i64 (lam)] w (fun r w'=> ∃(vd:Value),r=(.tuple #[.agg ((evE c o v lam).cells vd).toArray,.int .i64 ((evN o v lam))]:Value)∧Sep G W ((RowE (α:=Int) own 3 vd ((evE c o v lam).deps))::Rs) w'):=by
 have hvs:_*8≤_:=hv.small
 have hjl9:=WY (v:=v)
 refine zi (args:=[.agg (c.cells).toArray,Iv o,vv,Iv lam]) Tryz.func49 rfl rfl ?_
 refine za (R0 fun _=>st (zM (v:=.agg (c.cells).toArray) rfl ?_))
 intro w3 b2 af
 refine st (zq kR ?_)
 intro w7 u ag
 have x:=(hS0.new af).new ag
 refine st (aS (Iv 0) (zb (za (za (zA kr (st (mV (Iv o) (st (zC (k:=.i64) (a:=o) (b:=0) rfl rfl (st (mV (.bool (decide (o<0))) (stc (V:=Iv o) rfl rfl (fun ah=>?_) ?_))))))))))))
 have hl10:=fD ah
 exact mV (Iv o) ⟨rfl,rfl⟩
 refine stc (V:=vv) rfl rfl (fun J=>?_) ?_
 have hl12:=fD J
 exact mV vv ⟨rfl,rfl⟩
 refine stc (V:=Iw v.length) rfl rfl (fun y=>?_) ?_
 have hl14:=fD y
 exact zJ (n:=v.length) lT (if_pos y) hv.sl ⟨rfl,rfl⟩
 refine stc (V:=.bool (decide (((v.length:Nat):Int)≤o))) rfl rfl (fun p=>?_) ?_
 have hl16:=fD p
 exact yR (k:=.i64) (a:=o) (b:=((v.length:Nat):Int)) (if_pos p) (if_pos p) ⟨rfl,rfl⟩
 refine st (zt (b:=decide (o<0)) (b':=decide (((v.length:Nat):Int)≤o)) rfl (fun hbp=>(if_pos hbp)) (st (mV (.bool ((decide (o<0))||(decide (((v.length:Nat):Int)≤o)))) (stc (V:=Iv lam) rfl rfl (fun K=>?_) ?_))))
 have L:=K
 try simp only[zf]at L
 exact mV (Iv lam) ⟨rfl,rfl⟩
 refine stc (V:=.bool (decide (lam<0))) rfl rfl (fun z=>?_) ?_
 have M:=z
 try simp only[zf]at M
 exact zC (k:=.i64) (a:=lam) (b:=0) (if_pos z) rfl ⟨rfl,rfl⟩
 refine st (zt (b:=(decide (o<0))||(decide (((v.length:Nat):Int)≤o))) (b':=decide (lam<0)) rfl (fun hbp=>(if_pos hbp)) (zb ?_))
 cases i:((decide (o<0))||(decide (((v.length:Nat):Int)≤o)))||(decide (lam<0))
 have g:=i
 try simp only[zf]at i
 refine ze rfl (zl (za (R0 fun _=>st (mV vv (st (mV (Iv o) (st (cL mR (Wl (v:=v) (vv:=vv) (o:=o) hv ho x) ?_))))))))
 rintro _ w23 ⟨rfl,hg22,q⟩
 refine st (aS (Iv (yu v o)) (zb (za (za (zA kr (st (mV (Iv (yu v o)) (st (zR (k:=.i64) (a:=yu v o) (b:=9223372036854775807) rfl rfl (st (mV (.bool (decide ((yu v o)=9223372036854775807))) (stc (V:=Iv lam) rfl rfl (fun N=>?_) ?_))))))))))))
 have hl26:=fD N
 exact mV (Iv lam) ⟨rfl,rfl⟩
 refine stc (V:=.bool (decide (lam=9223372036854775807))) rfl rfl (fun A=>?_) ?_
 have hl28:=fD A
 exact zR (k:=.i64) (a:=lam) (b:=9223372036854775807) (if_pos A) rfl ⟨rfl,rfl⟩
 refine st (zt (b:=decide ((yu v o)=9223372036854775807)) (b':=decide (lam=9223372036854775807)) rfl (fun hbp=>(if_pos hbp)) (zb ?_))
 cases j:(decide ((yu v o)=9223372036854775807))||(decide (lam=9223372036854775807))
 have l:=j
 try simp only[zf]at j
 refine ze rfl (zl (za (R0 fun _=>st (aS (Iz) (zb (za (za (R0 fun _=>st (aS (Iv 0) (zb (zn ?_)))))))))))
 have O:Sep _ _ ((RowE (α:=Int) own 3 (Iz) ([]:List Int))::_) _:=q.rowNil own 3
 refine zZ (fun mq σ wq=> ∃(k:Nat) (vo:Value) (ρ:Env),mq=v.length-k∧σ=yd ρ [(1,Iv o),(2,vv),(3,Iv lam),(4,Ix b2 0),(8,Ix u 0),(10,Iv (yu v o)),(12,Iw k),(11,vo)]∧(k≤v.length)∧Sep G W ((RowE (α:=Int) own 3 vo ((yg v []).take k))::(Blk u #[Iv 0,Iv 0,Iv 0,(Iz),Iv 0,Iv 0,Iv 0,Iv 0,Iv 0,Iv 0] 44)::(Blk b2 (c.cells).toArray 49)::Rs) wq) ⟨0,(Iz),_,rfl,sSf,Nat.zero_le _,O⟩ ?_
 rintro m32 σ33 w31 ⟨k,vo,ρl1,rfl,rfl,hkk,e⟩
 let ai:=((⟨o,(yu v o)+1,lam+1,yg v [],c.ctyp,c.cagg,c.cfield,c.cop,c.carg,c.ckey⟩:Ev).cells vo)
 have P:=e.r0
 have hr35s:_*8≤_:=P.2
 refine za (za (R0 fun _=>st (mV (Iw k) (st (mV vv (st (zJ (n:=v.length) lT rfl hv.sl (st (zC (k:=.i64) (a:=((k:Nat):Int)) (b:=((v.length:Nat):Int)) rfl rfl (zb ?_))))))))))
 cases h:decide (((k:Nat):Int)<((v.length:Nat):Int))
 have F:=h
 have h:=fD h
 have hkn:k=(yg v []).length:=by omega
 rw[hkn,List.take_of_length_le (Nat.le_refl (yg v []).length)]at e
 have s:=e.r0
 have hr37s:_*8≤_:=s.2
 refine ze rfl (ya (zS (za (R0 fun _=>st (mV (Iv o) (st (mV (Iv (yu v o)) ?_)))))))
 have Q:InR ((yu v o)+1):=by omega
 refine st (zP (r:=(yu v o)+1) (k:=.i64) (a:=yu v o) (b:=1) rfl rfl (zF Q) (st (zL (parts':=[(0,Iv o),(1,Iv ((yu v o)+1))]) (v:=.agg #[Iv o,Iv ((yu v o)+1)]) rfl (by simp+zetaDelta [Instr.build,Instr.fill,go_sem,Ev.cells,ev0]) (st (mV (Iv lam) ?_)))))
 have R:InR (lam+1):=by omega
 refine st (zP (r:=lam+1) (k:=.i64) (a:=lam) (b:=1) rfl rfl (zF R) (st (mV vo (st (Yc rfl (st (lD (Iv (c.ctyp)) kT rfl (zd (e.b2) rfl) (st (Xw rfl (st (lD (Iv (c.cagg)) kT rfl (zd (e.b2) rfl) (st (Xp rfl (st (lD (Iv (c.cfield)) kT rfl (zd (e.b2) rfl) (st (Xz rfl (st (lD (Iv (c.cop)) kT rfl (zd (e.b2) rfl) (st (YS rfl (st (lD (Iv (c.carg)) kT rfl (zd (e.b2) rfl) (st (Xm rfl (st (lD (Iv (c.ckey)) kT rfl (zd (e.b2) rfl) ?_)))))))))))))))))))))))))))
 refine st (zL (parts':=[(0,.agg #[Iv o,Iv ((yu v o)+1)]),(1,Iv (lam+1)),(2,vo),(3,Iv (c.ctyp)),(4,Iv (c.cagg)),(5,Iv (c.cfield)),(6,Iv (c.cop)),(7,Iv (c.carg)),(8,Iv (c.ckey))]) (v:=.agg ai.toArray) rfl (by obtain⟨_,_,S,_⟩:=s.1;simp+zetaDelta [Instr.build,Instr.fill,go_sem,Ev.cells,ev0,S]) (stn (zp (v:=.agg ai.toArray) (c':=ai.toArray) mT rfl rfl (e.b1) (zX ⟨rfl,rfl,rfl,s.1.one,rfl,rfl,rfl,rfl,rfl,rfl,trivial⟩) yqc rfl ?_)))
 intro w41 T
 have B:=e.pt1 T
 refine st (aS (Iv 0) (zb (zk (xD (b:=u) tR oT mT rfl rfl (CellsAt.all (B.b1)) (show _=(Iv 0:Value)from rfl) ?_))))
 have f:evN o v lam=0:=by unfold evN;simp only[g,l,F,if_true,if_false,Bool.false_eq_true,↓reduceIte]
 have m:evE c o v lam=(⟨o,(yu v o)+1,lam+1,yg v [],c.ctyp,c.cagg,c.cfield,c.cop,c.carg,c.ckey⟩:Ev):=by unfold evE;exact if_pos f
 rw[m,f]
 refine⟨vo,?_,(B.s3_a)⟩
 rfl
 have h:=tD h
 refine zg rfl (zl (za (zn (R0 fun _=>st (mV vo (st (mV vv (st (mV (Iw k) (st (cL mR (Wl (v:=v) (vv:=vv) (o:=((k:Nat):Int)) hv om e) ?_)))))))))))
 rintro _ w46 ⟨rfl,hg45,U⟩
 refine st (zI (k:=1) (parts':=[(0,Iv (yu v ((k:Nat):Int)))]) (c:=#[Iv (yu v ((k:Nat):Int))]) lT qT Tryz.zeroValue3 dc rfl kr ?_)
 intro w50 b49 X
 have C:=U.new X
 have H:=C.b0
 refine st (yj (src:=own) (bytes:=8) (x1:=yu v ((k:Nat):Int)) ((C.s4_bcd).emp1) VR rfl rfl H (fun _ _ _=>(show _ from⟨rfl,(by omega)⟩)) yqb rfl ?_)
 intro I w52 t
 have Y:=t.r0
 have hr58s:_*8≤_:=Y.2
 refine st (aS I (zb (R0 fun _=>st (mV (Iw k) ?_))))
 have Z:InR ((k+1:Nat):Int):=bo
 refine st (zP (r:=((k+1:Nat):Int)) (k:=.i64) (a:=((k:Nat):Int)) (b:=1) rfl rfl (by rw[show(((k:Nat):Int)+1:Int)=((k+1:Nat):Int)from bo];exact zF Z) (st (aS (Iw (k+1)) (zb ?_))))
 have aa:((yg v []).take (k+1))=((yg v []).take k)++[yu v ((k:Nat):Int)]:=(by rw[List.take_getD (d:=0) (by omega),Ul (by omega)])
 rw[←aa]at t
 exact⟨_,by omega,k+1,I,_,rfl,sSf,by omega,t⟩
 have l:=j
 try simp only[zf]at j
 refine zg rfl (za (yq (by kernel_rfl) (fun _=>(st (zL (parts':=[]) (v:=.agg (ev0.cells (Iz)).toArray) rfl (by simp+zetaDelta [Instr.build,Instr.fill,go_sem,Ev.cells,ev0]) (stn (zp (v:=.agg (ev0.cells (Iz)).toArray) (c':=(ev0.cells (Iz)).toArray) mT rfl rfl (q.b0) (zX ⟨rfl,rfl,rfl,rfl,rfl,rfl,rfl,rfl,rfl,rfl,trivial⟩) yqc rfl ?_)))))))
 intro w61 ab
 have D:=q.pt0 ab
 refine st (aS (Iv 13) (zb (zk (xD (b:=u) tR oT mT rfl rfl (CellsAt.all (D.b0)) (show _=(Iv 13:Value)from rfl) ?_))))
 have ac:Sep _ _ ((RowE (α:=Int) own 3 (Iz) ([]:List Int))::_) _:=D.rowNil own 3
 have f:evN o v lam=13:=by unfold evN;simp only[g,l,if_true,if_false,Bool.false_eq_true,↓reduceIte]
 have m:evE c o v lam=ev0:=by unfold evE;exact if_neg (by rw[f];decide)
 rw[m,f]
 refine⟨(Iz),?_,(ac.s3_a)⟩
 rfl
 have g:=i
 try simp only[zf]at i
 refine zg rfl (za (yq (by kernel_rfl) (fun _=>(st (zL (parts':=[]) (v:=.agg (ev0.cells (Iz)).toArray) rfl (by simp+zetaDelta [Instr.build,Instr.fill,go_sem,Ev.cells,ev0]) (stn (zp (v:=.agg (ev0.cells (Iz)).toArray) (c':=(ev0.cells (Iz)).toArray) mT rfl rfl (x.b0) (zX ⟨rfl,rfl,rfl,rfl,rfl,rfl,rfl,rfl,rfl,rfl,trivial⟩) yqc rfl ?_)))))))
 intro w66 ad
 have E:=x.pt0 ad
 refine st (aS (Iv 1) (zb (zk (xD (b:=u) tR oT mT rfl rfl (CellsAt.all (E.b0)) (show _=(Iv 1:Value)from rfl) ?_))))
 have ae:Sep _ _ ((RowE (α:=Int) own 3 (Iz) ([]:List Int))::_) _:=E.rowNil own 3
 have f:evN o v lam=1:=by unfold evN;simp only[g,if_true,if_false,Bool.false_eq_true,↓reduceIte]
 have m:evE c o v lam=ev0:=by unfold evE;exact if_neg (by rw[f];decide)
 rw[m,f]
 refine⟨(Iz),?_,(ae.s3_a)⟩
 rfl
end
section
def yN (a b:Int):Int:=if a<b then-1 else if b<a then 1 else 0
def orL:List Int→Int
 |[]=>0
 |x::l=>if x≠0 then x else orL l
def ZU (a b:Ev):Int:=orL [yN a.lam b.lam,yN a.origin b.origin,yN a.seq b.seq]
theorem UD (a b:Int):InR (yN a b):=by unfold yN;split<;>(try split)<;>decide
end
section
set_option maxRecDepth 8000
set_option maxHeartbeats 4000000
open Go.Proofs Go.RowKit
theorem KH {x:Int}(hS0:Sep G W Rs w):Ret Tryz.prog 139 [.int .i64 (x)] w (fun r w'=>r=(.bool false:Value)∧Sep G W Rs w'):=by
 refine zi (args:=[Iv x]) Tryz.func139 rfl rfl ?_
 refine za (R0 fun _=>st (aS (.bool false) (zb (za (R0 fun _=>st (mV (Iv x) (st (mV (Iv x) (st (yn (k:=.i64) (a:=x) (b:=x) rfl rfl (st (aS (.bool (!decide (x=x))) (zb (zk (zG Tryz.results139 (show _=(.bool (!decide (x=x)):Value)from rfl) ?_)))))))))))))))
 refine⟨?_,hS0⟩
 simp
theorem Kc {x:Int}{y:Int}(hS0:Sep G W Rs w):Ret Tryz.prog 117 [.int .i64 (x),.int .i64 (y)] w (fun r w'=>r=(.int .i64 ((yN x y)):Value)∧Sep G W Rs w'):=by
 refine zi (args:=[Iv x,Iv y]) Tryz.func117 rfl rfl ?_
 refine za (R0 fun _=>st (aS (Iv 0) (zb (za (R0 fun _=>st (mV (Iv x) (st (cL sY (KH hS0) ?_))))))))
 rintro _ w1 ⟨rfl,f⟩
 refine st (aS (.bool false) (zb (za (R0 fun _=>st (mV (Iv y) (st (cL sY (KH f) ?_)))))))
 rintro _ w3 ⟨rfl,e⟩
 refine st (aS (.bool false) (zb (za (za (R0 fun _=>st (mV (.bool false) (zb (ze rfl (zl (za (za (R0 fun _=>st (mV (.bool false) (zb (ze rfl (zl (za (za (R0 fun _=>st (mV (Iv x) (st (mV (Iv y) (st (zC (k:=.i64) (a:=x) (b:=y) rfl rfl (zb ?_)))))))))))))))))))))))))
 cases c:decide (x<y)
 have c:=fD c
 refine ze rfl (zl (za (za (R0 fun _=>st (mV (Iv x) (st (mV (Iv y) (st (yT (k:=.i64) (a:=x) (b:=y) rfl rfl (zb ?_))))))))))
 cases d:decide (y<x)
 have d:=fD d
 refine ze rfl (zl (za (R0 fun _=>st (aS (Iv 0) (zb (zk (zG uR (show _=(Iv 0:Value)from rfl) ?_)))))))
 refine⟨?_,e⟩
 unfold yN
 (repeat (first|rw[if_pos (by omega)]|rw[if_neg (by omega)]))
 have d:=tD d
 refine zg rfl (za (R0 fun _=>st (aS (Iv 1) (zb (zk (zG uR (show _=(Iv 1:Value)from rfl) ?_))))))
 refine⟨?_,e⟩
 unfold yN
 (repeat (first|rw[if_pos (by omega)]|rw[if_neg (by omega)]))
 have c:=tD c
 refine zg rfl (za (R0 fun _=>st (aS (Iv (-1)) (zb (zk (zG uR (show _=(Iv (-1):Value)from rfl) ?_))))))
 refine⟨?_,e⟩
 unfold yN
 (repeat (first|rw[if_pos (by omega)]|rw[if_neg (by omega)]))
theorem Da_or {vl:Value}{l:List Int}(hl:RdS W G vl l)(hS0:Sep G W Rs w):Ret Tryz.prog 116 [vl] w (fun r w'=>r=(.int .i64 ((orL l)):Value)∧Sep G W Rs w'):=by
 have hls:_*8≤_:=hl.small
 refine zi (args:=[vl]) Tryz.func116 rfl rfl ?_
 refine za (R0 fun _=>st (aS (Iv 0) (zb (za (R0 fun _=>st (aS (Iv 0) (zb (za (za (R0 fun _=>st (mV vl (st (zJ (n:=l.length) lT rfl hl.sl (st (mV (Iv 0) (zb (zn (zZ (fun mq σ q=> ∃(k:Nat) (ρ:Env),mq=l.length-k∧σ=yd ρ [(0,vl),(3,Iv 0),(6,vl),(7,Iw l.length),(8,Iw k)]∧(k≤l.length)∧(orL l=orL (l.drop k))∧Sep G W Rs q) ⟨0,_,rfl,sSf,Nat.zero_le _,rfl,hS0⟩ ?_))))))))))))))))))
 rintro m2 σ3 w1 ⟨k,ρl1,rfl,rfl,hkk,g,d⟩
 refine za (R0 fun _=>st (zC (k:=.i64) (a:=((k:Nat):Int)) (b:=((l.length:Nat):Int)) rfl rfl (zb (za ?_))))
 cases e:decide (((k:Nat):Int)<((l.length:Nat):Int))
 have e:=fD e
 refine ze rfl (ya (zS (za (R0 fun _=>st (mV (Iv 0) (st (aS (Iv 0) (zb (zk (zG tY (show _=(Iv 0:Value)from rfl) ?_))))))))))
 refine⟨?_,d⟩
 rw[g,List.drop_of_length_le (by omega)];rfl
 have e:=tD e
 refine zg rfl (zl (za (zn (za (R0 fun _=>?_)))))
 have p:k<l.length:=bo
 refine st (zj (k:=1) (i:=k) lT qT rfl hl.sl rfl p ?_)
 have f:k<l.length:=bo
 obtain⟨h,hxe7⟩:=hl.intD f
 have m:=d.cells h (hl.foot (ne_of_lt f))
 refine st (lD (Iv ((l.getD k 0))) kT rfl (m.get (j:=0) rfl) (st (aS (Iv ((l.getD k 0))) (zb (za (R0 fun _=>st (mV (Iv ((l.getD k 0))) (st (mV (Iv 0) (st (yn (k:=.i64) (a:=(l.getD k 0)) (b:=0) rfl rfl (zb ?_))))))))))))
 cases c: !decide ((l.getD k 0)=0)
 have c:=zQ c
 refine ze rfl (zl (R0 fun _=>?_))
 have o:InR ((k+1:Nat):Int):=bo
 refine st (zP (r:=((k+1:Nat):Int)) (k:=.i64) (a:=((k:Nat):Int)) (b:=1) rfl rfl (by rw[show(((k:Nat):Int)+1:Int)=((k+1:Nat):Int)from bo];exact zF o) (st (mV (Iw (k+1)) (zb ?_))))
 exact⟨_,by omega,k+1,_,rfl,sSf,by omega,(by rw[g,List.drop_eq_getElem_cons (by omega)];simp only[orL];rw[if_neg (by rw[←zB 0 (by omega)];simpa using c)]),d⟩
 have c:=zz c
 refine zg rfl (za (R0 fun _=>st (mV (Iv ((l.getD k 0))) (st (aS (Iv ((l.getD k 0))) (zb (zk (zG tY (show _=(Iv ((l.getD k 0)):Value)from rfl) ?_))))))))
 refine⟨?_,d⟩
 rw[g,List.drop_eq_getElem_cons (by omega)];simp only[orL];rw[if_pos (by rw[←zB 0 (by omega)];simpa using c),←zB 0 (by omega)]
theorem zaN {x:Int}(hx:InR x)(hS0:Sep G W Rs w):Ret Tryz.prog 93 [.int .i64 (x)] w (fun r w'=>r=(.bool (decide (x<0)):Value)∧Sep G W Rs w'):=by
 refine zi Tryz.func93 rfl rfl ?_
 refine za (R0 fun _=>st (aS (.bool false) (zb (za (R0 fun _=>st (mV (Iv x) (st (zC rfl rfl (st (aS (.bool (decide (x<0))) (zb (zk (zG Tryz.results93 rfl ?_)))))))))))))
 refine⟨rfl,hS0⟩
theorem VC {e:Ev}{de0:Value}(hde0:RdS W G de0 e.deps)(oe:e.Ok)(hS0:Sep G W Rs w):Ret Tryz.prog 69 [.agg (e.cells de0).toArray] w (fun r w'=> ∃(v:Value),r=(.agg (e.cells v).toArray:Value)∧Sep G W ((RowE (α:=Int) own 3 v e.deps)::Rs) w'):=by
 refine zi Tryz.func69 rfl rfl ?_
 refine za (R0 fun _=>st (zM rfl ?_))
 intro w3 b2 n
 refine st (zq kR ?_)
 intro w7 p o
 have i:=(hS0.new n).new o
 refine zb (za (R0 fun _=>st (yQ rfl (st (lD de0 rT rfl (zd (i.b1) rfl) (st (cL uY (Zr hde0 i) ?_)))))))
 rintro g w10 ⟨_,rfl,a⟩
 have d:=a.r0
 refine st (yQ rfl (stn (ym Tryz.sizeOf42 rfl rfl (a.b2) d.1.one rfl rfl ?_)))
 intro w13 j
 have f:=a.pt2 j
 refine zb (za (R0 fun _=>st (zh oT mT rfl rfl (CellsAt.all (f.b2)) (stn (zp (v:=.agg (e.cells g).toArray) (c':=(e.cells g).toArray) mT rfl rfl (f.b1) (zX ⟨rfl,rfl,rfl,d.1.one,rfl,rfl,rfl,rfl,rfl,rfl,trivial⟩) yqc rfl ?_)))))
 intro w17 m
 have h:=f.pt1 m
 refine zb (zk (Ve Tryz.results69 oT mT rfl rfl (CellsAt.all (h.b1)) ?_))
 refine⟨g,rfl,(h.s3_a)⟩
theorem Qp {vl:Value}{l:List Int}(hl:RdS W G vl l)(hS0:Sep G W Rs w):Ret Tryz.prog 119 [vl,.func (.func 93) #[] #[]] w (fun r w'=> ∃(c:Int),r=(.int .i64 (c):Value)∧(InR c)∧(c<0↔ ∀i,i<l.length→0≤l.getD i 0)∧Sep G W Rs w'):=by
 have hls:_*8≤_:=hl.small
 refine zi Tryz.func119 rfl rfl ?_
 refine za (R0 fun _=>st (aS (Iv 0) (zb (za (za (R0 fun _=>st (mV vl (st (zJ lT rfl hl.sl (st (mV (Iv 0) (zb (zn (zZ (fun mq σ u=> ∃k ρ,mq=l.length-k∧σ=yd ρ [(0,vl),(1,.func (.func 93) #[] #[]),(6,vl),(7,Iw l.length),(8,Iw k)]∧(k≤l.length)∧(∀i,i<k→0≤l.getD i 0)∧Sep G W Rs u) ⟨0,_,rfl,sSf,Nat.zero_le _,(fun i h=>absurd h (Nat.not_lt_zero i)),hS0⟩ ?_))))))))))))))
 rintro m2 σ3 w1 ⟨k,ρl1,rfl,rfl,hkk,hm,f⟩
 refine za (R0 fun _=>st (zC rfl rfl (zb (za ?_))))
 cases e:decide (((k:Nat):Int)<((l.length:Nat):Int))
 have e:=fD e
 refine ze rfl (ya (zS (za (R0 fun _=>st (aS (Iv (-1)) (zb (zk (zG vY rfl ?_))))))))
 refine⟨-1,rfl,?_,?_,f⟩
 decide
 exact⟨fun _ i hi=>hm i om,fun _=>by decide⟩
 have e:=tD e
 refine zg rfl (zl (za (zn (za (R0 fun _=>st (mV (Iw k) (st (aS (Iw k) (zb (za (R0 fun _=>st (mV (.func (.func 93) #[] #[]) (st (mV vl (st (mV (Iw k) ?_))))))))))))))))
 have t:k<l.length:=bo
 refine st (zj lT qT rfl hl.sl rfl t ?_)
 have m:k<l.length:=bo
 obtain⟨o,p⟩:=hl.intD m
 have q:=f.cells o (hl.foot (ne_of_lt m))
 refine st (lD (Iv ((l.getD k 0))) kT rfl (q.get (j:=0) rfl) (st (cL Tryz.call93 (zaN (x:=(l.getD k 0)) p f) ?_)))
 rintro _ w10 ⟨rfl,g⟩
 refine zb ?_
 cases d:decide ((l.getD k 0)<0)
 have d:=fD d
 refine ze rfl (zl (R0 fun _=>?_))
 have s:InR ((k+1:Nat):Int):=bo
 refine st (zP (r:=((k+1:Nat):Int)) (k:=.i64) (a:=((k:Nat):Int)) (b:=1) rfl rfl (by rw[show(((k:Nat):Int)+1:Int)=((k+1:Nat):Int)from bo];exact zF s) (st (mV (Iw (k+1)) (zb ?_))))
 exact⟨_,by omega,k+1,_,rfl,sSf,by omega,(yL hm om),g⟩
 have d:=tD d
 refine zg rfl (za (R0 fun _=>st (mV (Iw k) (st (aS (Iw k) (zb (zk (zG vY rfl ?_))))))))
 refine⟨((k:Nat):Int),rfl,?_,?_,g⟩
 show InR ((k:Nat):Int);omega
 refine⟨fun h=>by omega,fun h=>?_⟩
 have h8:=h k om
 omega
def Yg (l:List Int):Bool:=l.any (fun x=>decide (x<0))
theorem negL_iff {l:List Int}:Yg l=false↔ ∀i,i<l.length→0≤l.getD i 0:=by
 unfold Yg
 rw[List.any_eq_false]
 constructor
 ·intro h i hi
  have:=h l[i] (List.getElem_mem hi)
  rw[zB 0 hi]
  simpa using this
 ·intro h x hx
  obtain⟨i,hi,rfl⟩:=List.getElem_of_mem hx
  have:=h i hi
  rw[zB 0 hi]at this
  simpa using this
theorem zcj {l:List Int}{c:Int}(h:c<0↔Yg l=false):decide (0≤c)=Yg l:=by
 cases hb:Yg l
 ·exact decide_eq_false (by have:=h.2 hb;omega)
 ·refine decide_eq_true ?_
  rcases Int.lt_or_le c 0 with h1|h1
  ·rw[h.1 h1]at hb;cases hb
  ·exact h1
theorem WC {vl:Value}{l:List Int}(hl:RdS W G vl l)(hS0:Sep G W Rs w):Ret Tryz.prog 94 [vl,.func (.func 93) #[] #[]] w (fun r w'=>r=(.bool ((Yg l)):Value)∧Sep G W Rs w'):=by
 have hls:_*8≤_:=hl.small
 refine zi (args:=[vl,.func (.func 93) #[] #[]]) Tryz.func94 rfl rfl ?_
 refine za (R0 fun _=>st (aS (.bool false) (zb (za (R0 fun _=>st (mV vl (st (mV (.func (.func 93) #[] #[]) (st (cL Tryz.call119 (Qp (l:=l) (vl:=vl) hl hS0) ?_))))))))))
 rintro _ w4 ⟨c,rfl,hc92,d,e⟩
 refine st (yR (k:=.i64) (a:=c) (b:=0) rfl rfl (st (aS (.bool (decide (0≤c))) (zb (zk (zG Tryz.results94 (show _=(.bool (decide (0≤c)):Value)from rfl) ?_))))))
 refine⟨?_,e⟩
 congr 1
 exact zcj (d.trans negL_iff.symm)
def yv (e:Ev)(n:Int):Int:=
 if(((((decide (e.origin<0)||decide (n≤e.origin))||decide (min e.seq e.lam<1))||decide (min e.agg e.key<0))|| !decide (((e.deps.length:Nat):Int)=n))||Yg e.deps)=true then 1
 else if(!decide (e.deps.getD e.origin.toNat 0=e.seq-1))=true then 9
 else if(decide (e.op<1)||decide (5<e.op))=true then 2
 else if((decide (min e.typ e.field<0)||decide (8≤e.typ))||decide (8≤e.field))=true then 8
 else 0
theorem zbN {e:Ev}{de0:Value}(hde0:RdS W G de0 e.deps)(oe:e.Ok){n:Int}(hn:InR n)(hS0:Sep G W Rs w):Ret Tryz.prog 67 [.agg (e.cells de0).toArray,.int .i64 (n)] w (fun r w'=>r=(.int .i64 ((yv e n)):Value)∧Sep G W Rs w'):=by
 have hde0s:_*8≤_:=hde0.small
 refine zi (args:=[.agg (e.cells de0).toArray,Iv n]) Tryz.func67 rfl rfl ?_
 refine za (R0 fun _=>st (zM (v:=.agg (e.cells de0).toArray) rfl ?_))
 intro w3 b2 bi
 have m:=hS0.new bi
 refine st (aS (Iv 0) (zb (za (R0 fun _=>st (aS (.func (.func 93) #[] #[]) (zb (za (zn (za (zA kr (st (yp rfl (st (xa rfl (st (lD (Iv (e.origin)) kT rfl (zd (m.b0) rfl) (st (zC (k:=.i64) (a:=e.origin) (b:=0) rfl rfl (st (mV (.bool (decide (e.origin<0))) (stc (V:=Ix b2 0) rfl rfl (fun bj=>?_) ?_)))))))))))))))))))))
 have hl6:=fD bj
 exact yp rfl ⟨rfl,rfl⟩
 refine stc (V:=Ix b2 0) rfl rfl (fun ax=>?_) ?_
 have hl8:=fD ax
 exact xa (if_pos ax) ⟨rfl,rfl⟩
 refine stc (V:=Iv (e.origin)) rfl rfl (fun ay=>?_) ?_
 have hl10:=fD ay
 exact lD (Iv (e.origin)) kT (if_pos ay) (zd (m.b0) rfl) ⟨rfl,rfl⟩
 refine stc (V:=Iv n) rfl rfl (fun az=>?_) ?_
 have hl12:=fD az
 exact mV (Iv n) ⟨rfl,rfl⟩
 refine stc (V:=.bool (decide (n≤e.origin))) rfl rfl (fun u=>?_) ?_
 have hl14:=fD u
 exact yR (k:=.i64) (a:=e.origin) (b:=n) (if_pos u) (if_pos u) ⟨rfl,rfl⟩
 refine st (zt (b:=decide (e.origin<0)) (b':=decide (n≤e.origin)) rfl (fun hbp=>(if_pos hbp)) (st (mV (.bool ((decide (e.origin<0))||(decide (n≤e.origin)))) (stc (V:=Ix b2 0) rfl rfl (fun aA=>?_) ?_))))
 have aB:=aA
 try simp only[zf]at aB
 exact yp rfl ⟨rfl,rfl⟩
 refine stc (V:=Ix b2 1) rfl rfl (fun L=>?_) ?_
 have aC:=L
 try simp only[zf]at aC
 exact xE (if_pos L) ⟨rfl,rfl⟩
 refine stc (V:=Iv (e.seq)) rfl rfl (fun M=>?_) ?_
 have aD:=M
 try simp only[zf]at aD
 exact lD (Iv (e.seq)) kT (if_pos M) (zd (m.b0) rfl) ⟨rfl,rfl⟩
 refine stc (V:=Ix b2 2) rfl rfl (fun aE=>?_) ?_
 have aF:=aE
 try simp only[zf]at aF
 exact xC rfl ⟨rfl,rfl⟩
 refine stc (V:=Iv (e.lam)) rfl rfl (fun N=>?_) ?_
 have aG:=N
 try simp only[zf]at aG
 exact lD (Iv (e.lam)) kT (if_pos N) (zd (m.b0) rfl) ⟨rfl,rfl⟩
 refine stc (V:=Iv (min e.seq e.lam)) rfl rfl (fun x=>?_) ?_
 have aH:=x
 try simp only[zf]at aH
 exact Ko (k:=.i64) (a:=e.seq) (b:=e.lam) (if_pos x) (if_pos x) ⟨rfl,rfl⟩
 refine stc (V:=.bool (decide ((min e.seq e.lam)<1))) rfl rfl (fun O=>?_) ?_
 have aI:=O
 try simp only[zf]at aI
 exact zC (k:=.i64) (a:=min e.seq e.lam) (b:=1) (if_pos O) rfl ⟨rfl,rfl⟩
 refine st (zt (b:=(decide (e.origin<0))||(decide (n≤e.origin))) (b':=decide ((min e.seq e.lam)<1)) rfl (fun hbp=>(if_pos hbp)) (st (mV (.bool (((decide (e.origin<0))||(decide (n≤e.origin)))||(decide ((min e.seq e.lam)<1)))) (stc (V:=Ix b2 5) rfl rfl (fun aJ=>?_) ?_))))
 have aK:=aJ
 try simp only[zf]at aK
 exact ZC rfl ⟨rfl,rfl⟩
 refine stc (V:=Iv (e.agg)) rfl rfl (fun P=>?_) ?_
 have aL:=P
 try simp only[zf]at aL
 exact lD (Iv (e.agg)) kT (if_pos P) (zd (m.b0) rfl) ⟨rfl,rfl⟩
 refine stc (V:=Ix b2 9) rfl rfl (fun aM=>?_) ?_
 have aN:=aM
 try simp only[zf]at aN
 exact YV rfl ⟨rfl,rfl⟩
 refine stc (V:=Iv (e.key)) rfl rfl (fun Q=>?_) ?_
 have aO:=Q
 try simp only[zf]at aO
 exact lD (Iv (e.key)) kT (if_pos Q) (zd (m.b0) rfl) ⟨rfl,rfl⟩
 refine stc (V:=Iv (min e.agg e.key)) rfl rfl (fun y=>?_) ?_
 have aP:=y
 try simp only[zf]at aP
 exact Ko (k:=.i64) (a:=e.agg) (b:=e.key) (if_pos y) (if_pos y) ⟨rfl,rfl⟩
 refine stc (V:=.bool (decide ((min e.agg e.key)<0))) rfl rfl (fun R=>?_) ?_
 have aQ:=R
 try simp only[zf]at aQ
 exact zC (k:=.i64) (a:=min e.agg e.key) (b:=0) (if_pos R) rfl ⟨rfl,rfl⟩
 refine st (zt (b:=((decide (e.origin<0))||(decide (n≤e.origin)))||(decide ((min e.seq e.lam)<1))) (b':=decide ((min e.agg e.key)<0)) rfl (fun hbp=>(if_pos hbp)) (st (mV (.bool ((((decide (e.origin<0))||(decide (n≤e.origin)))||(decide ((min e.seq e.lam)<1)))||(decide ((min e.agg e.key)<0)))) (stc (V:=Ix b2 3) rfl rfl (fun aR=>?_) ?_))))
 have aT:=aR
 try simp only[zf]at aT
 exact yQ rfl ⟨rfl,rfl⟩
 refine stc (V:=de0) rfl rfl (fun S=>?_) ?_
 have aU:=S
 try simp only[zf]at aU
 exact lD de0 rT (if_pos S) (zd (m.b0) rfl) ⟨rfl,rfl⟩
 refine stc (V:=Iw e.deps.length) rfl rfl (fun T=>?_) ?_
 have aV:=T
 try simp only[zf]at aV
 exact zJ (n:=e.deps.length) lT (if_pos T) hde0.sl ⟨rfl,rfl⟩
 refine stc (V:=Iv n) rfl rfl (fun aW=>?_) ?_
 have aX:=aW
 try simp only[zf]at aX
 exact mV (Iv n) ⟨rfl,rfl⟩
 refine stc (V:=.bool (!decide (((e.deps.length:Nat):Int)=n))) rfl rfl (fun z=>?_) ?_
 have aY:=z
 try simp only[zf]at aY
 exact yn (k:=.i64) (a:=((e.deps.length:Nat):Int)) (b:=n) (if_pos z) (if_pos z) ⟨rfl,rfl⟩
 refine st (zt (b:=(((decide (e.origin<0))||(decide (n≤e.origin)))||(decide ((min e.seq e.lam)<1)))||(decide ((min e.agg e.key)<0))) (b':= !decide (((e.deps.length:Nat):Int)=n)) rfl (fun hbp=>(if_pos hbp)) (st (mV (.bool (((((decide (e.origin<0))||(decide (n≤e.origin)))||(decide ((min e.seq e.lam)<1)))||(decide ((min e.agg e.key)<0)))||(!decide (((e.deps.length:Nat):Int)=n)))) (stc (V:=Ix b2 3) rfl rfl (fun aZ=>?_) ?_))))
 have ba:=aZ
 try simp only[zf]at ba
 exact yQ rfl ⟨rfl,rfl⟩
 refine stc (V:=de0) rfl rfl (fun U=>?_) ?_
 have bb:=U
 try simp only[zf]at bb
 exact lD de0 rT (if_pos U) (zd (m.b0) rfl) ⟨rfl,rfl⟩
 refine stc (V:=.func (.func 93) #[] #[]) rfl rfl (fun bc=>?_) ?_
 have bd:=bc
 try simp only[zf]at bd
 exact mV (.func (.func 93) #[] #[]) ⟨rfl,rfl⟩
 refine zcK (V:=.bool ((Yg e.deps))) (fun _ wq=>Sep G W ((Blk b2 (e.cells de0).toArray 44)::Rs) wq) m rfl rfl (fun A=>?_) (fun w61 X=>?_)
 have bf:=A
 try simp only[zf]at bf
 refine(zH (f:=94) (vals:=[de0,.func (.func 93) #[] #[]]) (cap:=[]) rfl (yE ⟨(if_pos A),(if_pos A),trivial⟩) Tryz.call94 (WC (l:=e.deps) (vl:=de0) hde0 m) ?_)
 rintro _ w59 ⟨rfl,bg⟩
 exact⟨rfl,bg⟩
 refine st (zt (b:=((((decide (e.origin<0))||(decide (n≤e.origin)))||(decide ((min e.seq e.lam)<1)))||(decide ((min e.agg e.key)<0)))||(!decide (((e.deps.length:Nat):Int)=n))) (b':=(Yg e.deps)) rfl (fun hbp=>(if_pos hbp)) (st (aS (.bool ((((((decide (e.origin<0))||(decide (n≤e.origin)))||(decide ((min e.seq e.lam)<1)))||(decide ((min e.agg e.key)<0)))||(!decide (((e.deps.length:Nat):Int)=n)))||(Yg e.deps))) (zb ?_))))
 cases t:(((((decide (e.origin<0))||(decide (n≤e.origin)))||(decide ((min e.seq e.lam)<1)))||(decide ((min e.agg e.key)<0)))||(!decide (((e.deps.length:Nat):Int)=n)))||(Yg e.deps)
 have g:=t
 try simp only[zf]at t
 refine ze rfl (za ?_)
 refine WD4 (WF [fun vals wq=>Sep G W ((Blk b2 (e.cells de0).toArray 44)::Rs) wq]) (AF [Vl 0 (Ix b2 3),Vl 1 (de0),Vl 2 (Ix b2 0),Vl 3 (Ix b2 0),Vl 4 (Iv (e.origin)),Vl 5 (Ix (sb de0) (so de0+e.origin.toNat*1)),Vl 6 (Iv ((e.deps.getD e.origin.toNat 0))),Vl 7 (Ix b2 0),Vl 8 (Ix b2 1),Vl 9 (Iv (e.seq)),Vl 10 (Iv (e.seq-1)),Vl 11 (.bool (!decide ((e.deps.getD e.origin.toNat 0)=(e.seq-1)))),Vl 12 (.bool (!decide ((e.deps.getD e.origin.toNat 0)=(e.seq-1))))]) [[],[0],[],[2],[2,3],(rg 5),(rg 6),[],[7],[7,8],[7,8,9],(rg 11),(rg 12)] [] [(0,0),(0,0),(0,0),(0,0),(0,0),(0,0),(0,0),(0,0),(0,0),(0,0),(0,0),(0,0),(0,0)] X ⟨fun _ _ _ _ _ _ _=>obl rfl (yQ rfl dR),ob1 0 fun _ _ (aa:Sep _ _ _ _) ab=>obl rfl (lD de0 rT (ab 0 dc) (zd (aa.b0) rfl) dR),fun _ _ _ _ _ _ _=>obl rfl (yp rfl dR),fun _ _ _ _ _ _ ac=>obl rfl (xa (ac 2 dc) dR),ob1 0 fun _ _ (ad:Sep _ _ _ _) ae=>obl rfl (lD (Iv (e.origin)) kT (ae 3 dc) (zd (ad.b0) rfl) dR),?_,?_,fun _ _ _ _ _ _ _=>obl rfl (yp rfl dR),fun _ _ _ _ _ _ af=>obl rfl (xE (af 7 dc) dR),ob1 0 fun _ _ (ag:Sep _ _ _ _) ah=>obl rfl (lD (Iv (e.seq)) kT (ah 8 dc) (zd (ag.b0) rfl) dR),?_,ob1 0 fun _ _ _ B=>obl rfl (yn (k:=.i64) (a:=(e.deps.getD e.origin.toNat 0)) (b:=e.seq-1) (B 6 dc) (B 10 dc) dR),fun _ _ _ _ _ _ ai=>obl rfl (zY (v:=.bool (!decide ((e.deps.getD e.origin.toNat 0)=(e.seq-1)))) (ai 11 dc) dR),trivial⟩ ?_
 refine ob1 0 fun _ _ _ C=>(obl rfl ?_)
 have hi210:e.origin.toNat<e.deps.length:=bo
 exact zr (k:=1) (i:=e.origin) lT qT (C 1 dc) hde0.sl (C 4 dc) ⟨by omega,by omega⟩ dR
 refine ob1 0 fun _ _ (aj:Sep _ _ _ _) ak=>(obl rfl ?_)
 have D:e.origin.toNat<e.deps.length:=bo
 obtain⟨Y,hxe219⟩:=hde0.intD D
 have Z:=aj.cells Y (hde0.foot (ne_of_lt D))
 exact lD (Iv ((e.deps.getD e.origin.toNat 0))) kT (ak 5 dc) (Z.get (j:=0) rfl) dR
 refine ob1 0 fun _ _ _ al=>(obl rfl ?_)
 have am:InR (e.seq-1):=(by have h9:=oe.seq;omega)
 exact YU (r:=e.seq-1) (k:=.i64) (a:=e.seq) (b:=1) (al 9 (by decide)) rfl (by rw[show(e.seq-1:Int)=e.seq-1 from rfl];exact zF am) dR
 intro vals w268 an ao
 have c:Sep _ _ _ _:=an
 have bh:=ao 12 dc
 refine zT (kv:=[(0,.agg (e.cells de0).toArray),(1,Iv n),(2,Ix b2 0),(4,Iv 0),(5,.func (.func 93) #[] #[]),(7,Ix b2 0),(8,Ix b2 0),(9,Iv (e.origin)),(10,.bool (decide (e.origin<0))),(11,.bool (decide (e.origin<0))),(17,.bool ((decide (e.origin<0))||(decide (n≤e.origin)))),(18,.bool ((decide (e.origin<0))||(decide (n≤e.origin)))),(26,.bool (((decide (e.origin<0))||(decide (n≤e.origin)))||(decide ((min e.seq e.lam)<1)))),(27,.bool (((decide (e.origin<0))||(decide (n≤e.origin)))||(decide ((min e.seq e.lam)<1)))),(34,.bool ((((decide (e.origin<0))||(decide (n≤e.origin)))||(decide ((min e.seq e.lam)<1)))||(decide ((min e.agg e.key)<0)))),(35,.bool ((((decide (e.origin<0))||(decide (n≤e.origin)))||(decide ((min e.seq e.lam)<1)))||(decide ((min e.agg e.key)<0)))),(41,.bool (((((decide (e.origin<0))||(decide (n≤e.origin)))||(decide ((min e.seq e.lam)<1)))||(decide ((min e.agg e.key)<0)))||(!decide (((e.deps.length:Nat):Int)=n)))),(42,.bool (((((decide (e.origin<0))||(decide (n≤e.origin)))||(decide ((min e.seq e.lam)<1)))||(decide ((min e.agg e.key)<0)))||(!decide (((e.deps.length:Nat):Int)=n)))),(47,.bool false),(6,.bool false),(48,.bool (!decide ((e.deps.getD e.origin.toNat 0)=(e.seq-1))))]) ⟨rfl,rfl,rfl,rfl,rfl,rfl,rfl,rfl,rfl,rfl,rfl,rfl,rfl,rfl,rfl,rfl,rfl,rfl,rfl,rfl,(by exact bh),trivial⟩ (fun ρw268=>?_)
 refine zb ?_
 cases h: !decide ((e.deps.getD e.origin.toNat 0)=(e.seq-1))
 have d:=h
 have h:=zQ h
 refine ze rfl (za (zA kr (st (xw rfl (st (lD (Iv (e.op)) kT rfl (zd (c.b0) rfl) (st (zC (k:=.i64) (a:=e.op) (b:=1) rfl rfl (st (mV (.bool (decide (e.op<1))) (stc (V:=Ix b2 7) rfl rfl (fun ap=>?_) ?_)))))))))))
 have hl275:=fD ap
 exact xw rfl ⟨rfl,rfl⟩
 refine stc (V:=Iv (e.op)) rfl rfl (fun E=>?_) ?_
 have hl277:=fD E
 exact lD (Iv (e.op)) kT (if_pos E) (zd (c.b0) rfl) ⟨rfl,rfl⟩
 refine stc (V:=.bool (decide (5<e.op))) rfl rfl (fun F=>?_) ?_
 have hl279:=fD F
 exact yT (k:=.i64) (a:=e.op) (b:=5) (if_pos F) rfl ⟨rfl,rfl⟩
 refine st (zt (b:=decide (e.op<1)) (b':=decide (5<e.op)) rfl (fun hbp=>(if_pos hbp)) (st (aS (.bool ((decide (e.op<1))||(decide (5<e.op)))) (zb ?_))))
 cases p:(decide (e.op<1))||(decide (5<e.op))
 have o:=p
 try simp only[zf]at p
 refine ze rfl (za (zA kr (st (xr rfl (st (lD (Iv (e.typ)) kT rfl (zd (c.b0) rfl) (st (xt rfl (st (lD (Iv (e.field)) kT rfl (zd (c.b0) rfl) (st (Ko (k:=.i64) (a:=e.typ) (b:=e.field) rfl rfl (st (zC (k:=.i64) (a:=min e.typ e.field) (b:=0) rfl rfl (st (mV (.bool (decide ((min e.typ e.field)<0))) (stc (V:=Ix b2 4) rfl rfl (fun aq=>?_) ?_)))))))))))))))))
 have hl282:=fD aq
 exact xr rfl ⟨rfl,rfl⟩
 refine stc (V:=Iv (e.typ)) rfl rfl (fun H=>?_) ?_
 have hl284:=fD H
 exact lD (Iv (e.typ)) kT (if_pos H) (zd (c.b0) rfl) ⟨rfl,rfl⟩
 refine stc (V:=.bool (decide (8≤e.typ))) rfl rfl (fun I=>?_) ?_
 have hl286:=fD I
 exact yR (k:=.i64) (a:=e.typ) (b:=8) (if_pos I) rfl ⟨rfl,rfl⟩
 refine st (zt (b:=decide ((min e.typ e.field)<0)) (b':=decide (8≤e.typ)) rfl (fun hbp=>(if_pos hbp)) (st (mV (.bool ((decide ((min e.typ e.field)<0))||(decide (8≤e.typ)))) (stc (V:=Ix b2 6) rfl rfl (fun ar=>?_) ?_))))
 have au:=ar
 try simp only[zf]at au
 exact xt rfl ⟨rfl,rfl⟩
 refine stc (V:=Iv (e.field)) rfl rfl (fun J=>?_) ?_
 have av:=J
 try simp only[zf]at av
 exact lD (Iv (e.field)) kT (if_pos J) (zd (c.b0) rfl) ⟨rfl,rfl⟩
 refine stc (V:=.bool (decide (8≤e.field))) rfl rfl (fun K=>?_) ?_
 have aw:=K
 try simp only[zf]at aw
 exact yR (k:=.i64) (a:=e.field) (b:=8) (if_pos K) rfl ⟨rfl,rfl⟩
 refine st (zt (b:=(decide ((min e.typ e.field)<0))||(decide (8≤e.typ))) (b':=decide (8≤e.field)) rfl (fun hbp=>(if_pos hbp)) (st (aS (.bool (((decide ((min e.typ e.field)<0))||(decide (8≤e.typ)))||(decide (8≤e.field)))) (zb ?_))))
 cases q:((decide ((min e.typ e.field)<0))||(decide (8≤e.typ)))||(decide (8≤e.field))
 have s:=q
 try simp only[zf]at q
 refine ze rfl (zl (za (R0 fun _=>st (aS (Iv 0) (zb (zk (zG tT (show _=(Iv 0:Value)from rfl) ?_)))))))
 refine⟨?_,(c.s1_)⟩
 unfold yv
 simp only[g,d,o,s,if_true,if_false,Bool.false_eq_true,↓reduceIte]
 have s:=q
 try simp only[zf]at q
 refine zg rfl (za (R0 fun _=>st (aS (Iv 8) (zb (zk (zG tT (show _=(Iv 8:Value)from rfl) ?_))))))
 refine⟨?_,(c.s1_)⟩
 unfold yv
 simp only[g,d,o,s,if_true,if_false,Bool.false_eq_true,↓reduceIte]
 have o:=p
 try simp only[zf]at p
 refine zg rfl (za (R0 fun _=>st (aS (Iv 2) (zb (zk (zG tT (show _=(Iv 2:Value)from rfl) ?_))))))
 refine⟨?_,(c.s1_)⟩
 unfold yv
 simp only[g,d,o,if_true,if_false,Bool.false_eq_true,↓reduceIte]
 have d:=h
 have h:=zz h
 refine zg rfl (za (R0 fun _=>st (aS (Iv 9) (zb (zk (zG tT (show _=(Iv 9:Value)from rfl) ?_))))))
 refine⟨?_,(c.s1_)⟩
 unfold yv
 simp only[g,d,if_true,if_false,Bool.false_eq_true,↓reduceIte]
 have g:=t
 try simp only[zf]at t
 refine zg rfl (za (R0 fun _=>st (aS (Iv 1) (zb (zk (zG tT (show _=(Iv 1:Value)from rfl) ?_))))))
 refine⟨?_,(X.s1_)⟩
 unfold yv
 simp only[g,if_true,if_false,Bool.false_eq_true,↓reduceIte]
def ltE (a b:Ev):Bool:=if(!decide (a.lam=b.lam))=true then decide (a.lam<b.lam)else if(!decide (a.origin=b.origin))=true then decide (a.origin<b.origin)else decide (a.seq<b.seq)
theorem zaV {a:Ev}{da0:Value}(hda0:RdS W G da0 a.deps)(oa:a.Ok){b:Ev}{db0:Value}(hdb0:RdS W G db0 b.deps)(ob:b.Ok)(hS0:Sep G W Rs w):Ret Tryz.prog 73 [.agg (a.cells da0).toArray,.agg (b.cells db0).toArray] w (fun r w'=>r=(.bool ((ltE a b)):Value)∧Sep G W Rs w'):=by
 have hda0s:_*8≤_:=hda0.small
 have hdb0s:_*8≤_:=hdb0.small
 refine zi (args:=[.agg (a.cells da0).toArray,.agg (b.cells db0).toArray]) Tryz.func73 rfl rfl ?_
 refine za (R0 fun _=>st (zM (v:=.agg (a.cells da0).toArray) rfl ?_))
 intro w3 b2 h
 refine st (zM (v:=.agg (b.cells db0).toArray) rfl ?_)
 intro w7 b6 i
 have c:=(hS0.new h).new i
 refine st (aS (.bool false) (zb (za (za (R0 fun _=>st (xC rfl (st (lD (Iv (a.lam)) kT rfl (zd (c.b1) rfl) (st (xC rfl (st (lD (Iv (b.lam)) kT rfl (zd (c.b0) rfl) (st (yn (k:=.i64) (a:=a.lam) (b:=b.lam) rfl rfl (zb ?_)))))))))))))))
 cases e: !decide (a.lam=b.lam)
 have f:=e
 have e:=zQ e
 refine ze rfl (zl (za (za (R0 fun _=>st (yp rfl (st (xa rfl (st (lD (Iv (a.origin)) kT rfl (zd (c.b1) rfl) (st (yp rfl (st (xa rfl (st (lD (Iv (b.origin)) kT rfl (zd (c.b0) rfl) (st (yn (k:=.i64) (a:=a.origin) (b:=b.origin) rfl rfl (zb ?_))))))))))))))))))
 cases d: !decide (a.origin=b.origin)
 have g:=d
 have d:=zQ d
 refine ze rfl (zl (za (R0 fun _=>st (yp rfl (st (xE rfl (st (lD (Iv (a.seq)) kT rfl (zd (c.b1) rfl) (st (yp rfl (st (xE rfl (st (lD (Iv (b.seq)) kT rfl (zd (c.b0) rfl) (st (zC (k:=.i64) (a:=a.seq) (b:=b.seq) rfl rfl (st (aS (.bool (decide (a.seq<b.seq))) (zb (zk (zG vR (show _=(.bool (decide (a.seq<b.seq)):Value)from rfl) ?_)))))))))))))))))))))
 refine⟨?_,(c.s2_)⟩
 unfold ltE
 simp only[f,g,if_true,if_false,Bool.false_eq_true,↓reduceIte]
 have g:=d
 have d:=zz d
 refine zg rfl (za (R0 fun _=>st (yp rfl (st (xa rfl (st (lD (Iv (a.origin)) kT rfl (zd (c.b1) rfl) (st (yp rfl (st (xa rfl (st (lD (Iv (b.origin)) kT rfl (zd (c.b0) rfl) (st (zC (k:=.i64) (a:=a.origin) (b:=b.origin) rfl rfl (st (aS (.bool (decide (a.origin<b.origin))) (zb (zk (zG vR (show _=(.bool (decide (a.origin<b.origin)):Value)from rfl) ?_))))))))))))))))))))
 refine⟨?_,(c.s2_)⟩
 unfold ltE
 simp only[f,g,if_true,if_false,Bool.false_eq_true,↓reduceIte]
 have f:=e
 have e:=zz e
 refine zg rfl (za (R0 fun _=>st (xC rfl (st (lD (Iv (a.lam)) kT rfl (zd (c.b1) rfl) (st (xC rfl (st (lD (Iv (b.lam)) kT rfl (zd (c.b0) rfl) (st (zC (k:=.i64) (a:=a.lam) (b:=b.lam) rfl rfl (st (aS (.bool (decide (a.lam<b.lam))) (zb (zk (zG vR (show _=(.bool (decide (a.lam<b.lam)):Value)from rfl) ?_))))))))))))))))
 refine⟨?_,(c.s2_)⟩
 unfold ltE
 simp only[f,if_true,if_false,Bool.false_eq_true,↓reduceIte]
end
section
open Go.RowKit
def MildV (a b:Value):Prop:=b=a∨ ∃m n:Int,a=.int .i64 m∧b=.int .i64 n∧InR n
def ML (w0:World)(f0:Nat→Prop)(X:Nat→Nat→Prop):HP:=
 ⟨fun w f=> ∀b,f0 b→f b∧Soft w b∧ ∀o v,w0.cell? ⟨b,o,none⟩=some v→ ∃v',w.cell? ⟨b,o,none⟩=some v'∧(X b o∨MildV v v'),by
  intro w w' f f' h hf b hb
  obtain⟨h1,h2,h3⟩:=h b hb
  have hlt:b<w.heap.size:=by obtain⟨c,T,hc⟩:=h2;exact xj hc
  have e:=hf b h1 hlt
  refine⟨e.2,h2.keep e.1,fun o v hv=>?_⟩
  rw[ZV e.1];exact h3 o v hv⟩
def noX:Nat→Nat→Prop:=fun _ _=>False
section
variable {α:Type}[Rep α]{G:Nat→Prop}{W w w0:World}{As:List HP}{T:TypeId}{v:Value}{l:List α}{f0:Nat→Prop}{X:Nat→Nat→Prop}
end
theorem Ur {w:World}{b o:Nat}{c:Array Value}{T:TypeId}(h:w.heap[b]? =some (.cells c T)):w.cell? ⟨b,o,none⟩=c[o]? :=by
 unfold World.cell?;simp[h]
theorem JN {c:Array Value}{o:Nat}{us:List Value}(h:o+us.length≤c.size)(p:Nat):(XN c o us)[p]? =if o≤p∧p<o+us.length then us[p-o]? else c[p]? :=by
 unfold XN
 simp only[List.getElem?_toArray]
 have hl:(c.toList.take o).length=o:=by simp;omega
 by_cases h1:p<o
 ·rw[if_neg (by omega),List.append_assoc,List.getElem?_append_left (by rw[hl];exact h1),List.getElem?_take,if_pos h1];simp
 ·by_cases h2:p<o+us.length
  ·rw[if_pos ⟨by omega,h2⟩,List.getElem?_append_left (by rw[List.length_append,hl];exact h2),List.getElem?_append_right (by rw[hl];omega),hl]
  ·rw[if_neg (by omega),List.getElem?_append_right (by rw[List.length_append,hl];omega),List.length_append,hl,List.getElem?_drop,show o+us.length+(p-(o+us.length))=p by omega];simp
section
variable {P:Program}{d:Option Tmp}{ty:TypeId}{pos:String}{af:Array Edge}{gd:Option (Nat×Bool)}{σ:Env}{w w0:World}{K:Value→World→Prop}{G:Nat→Prop}{W:World}{As:List HP}{f0:Nat→Prop}{X X':Nat→Nat→Prop}
theorem QJ {t:TypeId}{b o:Nat}{x y:Operand}{u:Value}{us cs:List Value}(h:Sep G W (ML w0 f0 X::As) w)(hS: ∀w,(sizeOf t).run P w=.ok us.length w)(hx:ev σ x=.pointer (some ⟨b,o,none⟩))(hb:f0 b)
 (hy:ev σ y=u) (hu:u.cells.toList=us) (h1: ∀u∈us,u.oneCell'=true) (hc:CellsAt w0 b o cs) (hl:cs.length=us.length) (hpos:0<us.length)
 (hm: ∀(j:Nat) v v',cs[j]? =some v→us[j]? =some v'→X' b (o+j)∨MildV v v') (hXX: ∀b o,X b o→X' b o) (hK: ∀w',Sep G W (ML w0 f0 X'::As) w'→K undef w'):opV P ⟨d,.store t x y,ty,pos,af,gd⟩ σ w K:=by
 obtain⟨f,hA,hfl⟩:=h.get (i:=0) rfl
 obtain⟨hfb,⟨c,T,hbk⟩,h3⟩:=hA b hb
 have hfit:o+us.length≤c.size:=by
  obtain⟨v',h4,_⟩:=h3 _ _ (hc (us.length-1) (by omega))
  rw[Ur hbk]at h4
  obtain⟨h5,_⟩:=Array.getElem?_eq_some_iff.1 h4
  omega
 refine zp (v:=u) (c:=c) (T:=T) (by intro w;rw[hS,←hu];simp) hx hy hbk (by rw[hu];exact h1) (by rw[hu];exact hfit) rfl (fun w1 hp=>hK w1 ?_)
 refine h.upd (i:=0) (B:=ML w0 f0 X') rfl (fun f hA hl9=>?_)
 refine⟨hp.chg.weak (fun i _ hi=>by subst hi;exact(hA _ hb).1),f,fun b' hb'=>?_,fun _ hb=>.inl hb⟩
 obtain⟨h5,h6,h7⟩:=hA b' hb'
 by_cases e:b'=b
 ·subst e
  refine⟨h5,⟨_,_,hp.at_⟩,fun p v hv=>?_⟩
  obtain⟨v',h8,h9⟩:=h7 p v hv
  rw[Ur hbk]at h8
  rw[Ur hp.at_,hu,JN hfit]
  by_cases hr:o≤p∧p<o+us.length
  ·rw[if_pos hr]
   have hlt:p-o<us.length:=by omega
   refine⟨us[p-o],List.getElem?_eq_getElem hlt,?_⟩
   have h10:=hc (p-o) (by omega)
   rw[show o+(p-o)=p by omega,hv]at h10
   have h11:=hm (p-o) v us[p-o] (by rw[List.getElem?_eq_getElem (by omega)];exact h10.symm) (List.getElem?_eq_getElem hlt)
   rw[show o+(p-o)=p by omega]at h11
   exact h11
  ·rw[if_neg hr]
   exact⟨v',h8,h9.imp (hXX _ _) id⟩
 ·have e2:=hp.chg.block b' (by obtain⟨c,T,hc⟩:=h6;exact xj hc) e
  refine⟨h5,h6.keep e2,fun p v hv=>?_⟩
  obtain⟨v',h8,h9⟩:=h7 p v hv
  exact⟨v',by rw[ZV e2];exact h8,h9.imp (hXX _ _) id⟩
end
def MildAll:List Value→List Value→Prop
 |a::xs,b::ys=>MildV a b∧MildAll xs ys
 |_,_=>True
theorem MildAll.at_: ∀{xs ys:List Value},MildAll xs ys→ ∀(j:Nat) v v',xs[j]? =some v→ys[j]? =some v'→MildV v v'
 |_::_,_::_,h,0,_,_,h1,h2=>by
  simp only[List.getElem?_cons_zero,Option.some.injEq]at h1 h2
  subst h1;subst h2;exact h.1
 |_::_,_::_,h,j+1,_,_,h1,h2=>MildAll.at_ h.2 j _ _ (by simpa using h1) (by simpa using h2)
 |[],_,_,j,_,_,h1,_=>by simp at h1
 |_::_,[],_,j,_,_,_,h2=>by simp at h2
theorem MildV.num {m n:Int}(h:InR n):MildV (.int .i64 m) (.int .i64 n):=.inr ⟨m,n,rfl,rfl,h⟩
end
section
set_option maxRecDepth 8000
set_option maxHeartbeats 4000000
open Go.Proofs Go.RowKit
theorem K2i:KLaw Tryz.prog 41 xh where
 inj:=by
  rintro⟨a,b⟩ ⟨c,d⟩ h
  simp only[xh,Value.agg.injEq,Array.mk.injEq,List.cons.injEq,Value.int.injEq,true_and,and_true]at h
  rw[h.1,h.2]
 desc:=⟨_,Tryz.underlying41,fun _ _=>rfl⟩
 check:=by
  intro w e k
  show(Instr.checkKey e 10000 41 (.agg #[.int .i64 k.1,.int .i64 k.2])).run Tryz.prog w=.ok () w
  rw[show(10000:Nat)=9998+1+1 from rfl,Instr.checkKey]
  simp[go_sem,ck3]
 eql:=by
  rintro w ⟨a,b⟩ ⟨c,d⟩
  rw[show decide ((a,b)=(c,d))=(a== c&&b== d) by rw[←Vx];simp]
  unfold Op.equal Op.maxDepth xh
  simp[go_sem]
  by_cases h1:a=c<;>by_cases h2:b=d<;>simp[h1,h2]
 stays:=by intro k;simp[Instr.sameBits,xh]
def EV (v:Value)(e:Ev):HP:=⟨fun w f=> ∃vd,v=.agg (e.cells vd).toArray∧e.Ok∧(RowE (α:=Int) own 3 vd e.deps).p w f,fun h hf=>by
 obtain⟨vd,h1,h2,h3⟩:=h
 exact⟨vd,h1,h2,HP.loc _ h3 hf⟩⟩
def XI:Value:=.agg ((⟨0,0,0,[],0,0,0,0,0,0⟩:Ev).cells (.slice none 0 0)).toArray
def yb (L:List Ev):Int×Int→Option Ev:=fun k=>L.find? (fun e=>decide (e.origin=k.1∧e.seq=k.2))
def Yh (L:List Ev)(o:Nat):Nat:=(L.filter (fun e=>decide (e.origin=(o:Int)))).length
def zu (n:Nat)(L:List Ev):List Int:=(List.range n).map (fun o=>((Yh L o:Nat):Int))
def zK (L:List Ev):Int:=L.foldr (fun e m=>max m e.lam) 0
def SetO (b:Nat)(n:Nat)(L:List Ev):HP:=Ex1 fun vv=>Ex1 fun m=>Star [Blk b #[vv,.map (some m),.int .i64 (zK L)] 118,RowE (α:=Int) own 3 vv (zu n L),MapO xh EV m (yb L)]
section
variable {G:Nat→Prop}{W w:World}{As:List HP}{b n:Nat}{L:List Ev}
theorem SetO.open (h:Sep G W (SetO b n L::As) w): ∃vv m,Sep G W (Blk b #[vv,.map (some m),.int .i64 (zK L)] 118::RowE (α:=Int) own 3 vv (zu n L)::MapO xh EV m (yb L)::As) w:=by
 obtain⟨vv,h⟩:=h.openEx
 obtain⟨m,h⟩:=h.openEx
 exact⟨vv,m,h.openStar⟩
theorem SetO.close {vv:Value}{m:Nat}{t:Int}{v:List Int}{X:Int×Int→Option Ev}(h:Sep G W (Blk b #[vv,.map (some m),.int .i64 t] 118::RowE (α:=Int) own 3 vv v::MapO xh EV m X::As) w)(ht:t=zK L)(hv:v=zu n L)(hX:X=yb L):Sep G W (SetO b n L::As) w:=by
 subst ht hv hX
 have h:=Sep.closeStar (Bs:=[Blk b #[vv,.map (some m),.int .i64 (zK L)] 118,RowE (α:=Int) own 3 vv (zu n L),MapO xh EV m (yb L)]) h
 exact Sep.closeEx (A:=fun vv=>Ex1 fun m=>Star [Blk b #[vv,.map (some m),.int .i64 (zK L)] 118,RowE (α:=Int) own 3 vv (zu n L),MapO xh EV m (yb L)]) vv (Sep.closeEx (A:=fun m=>Star [Blk b #[vv,.map (some m),.int .i64 (zK L)] 118,RowE (α:=Int) own 3 vv (zu n L),MapO xh EV m (yb L)]) m h)
structure SetR (W:World) (G:Nat→Prop) (m:Nat) (R:List ((Int×Int)×Value)) (L:List Ev):Prop where
 gm:G m
 is:IsMap xh W m R
 at_: ∀k,∃(x:Ev) (vd:Value),x=(yb L k).getD default∧(yI R k).getD XI=.agg (x.cells vd).toArray∧x.Ok∧RdS W G vd x.deps∧(yI R k).isSome=(yb L k).isSome
theorem IsMap.move {κ:Type}[DecidableEq κ]{enc:κ→Value}{W w:World}{m:Nat}{R:List (κ×Value)}(h:IsMap enc W m R)(e:w.heap[m]? =W.heap[m]?):IsMap enc w m R:=by
 obtain⟨es,c,h1,h2⟩:=h
 exact⟨es,c,e.trans h1,h2⟩
theorem MapO.rd {m:Nat}(h:(MapO xh EV m (yb L)).p W G): ∃R,SetR W G m R L:=by
 obtain⟨R,g,h1,h2,h3,h4⟩:=h
 refine⟨R,h1,h2,fun k=>?_⟩
 have h5:=h3 k
 cases hR:yI R k with
 |none=>
  cases hX:yb L k with
  |none=>exact⟨default,.slice none 0 0,rfl,rfl,by constructor<;>decide,RdS.nil _ _,rfl⟩
  |some x=>rw[hR,hX]at h5;exact h5.elim
 |some v=>
  cases hX:yb L k with
  |none=>rw[hR,hX]at h5;exact h5.elim
  |some x=>
   rw[hR,hX]at h5
   obtain⟨vd,e1,e2,e3⟩:=h5
   exact⟨x,vd,rfl,e1,e2,(RowE.rd e3).weak (fun b _ hb=>(h4.sub k b hb).1),rfl⟩
theorem SetO.sh (h:(SetO b n L).p W G): ∃vv m R,(Blk b #[vv,.map (some m),.int .i64 (zK L)] 118).p W G∧RdS W G vv (zu n L)∧SetR W G m R L:=by
 obtain⟨vv,m,h⟩:=h
 obtain⟨R,hR⟩:=MapO.rd (Star.at_ h (i:=2) rfl)
 exact⟨vv,m,R,Star.at_ h (i:=0) rfl,RowE.rd (T:=3) (Star.at_ h (i:=1) rfl),hR⟩
theorem XC {K:Value→World→Prop}{P:Program}{d:Option Tmp}{ty:TypeId}{pos:String}{af:Array Edge}{g:Option (Nat×Bool)}{σ:Env}{t kt et:TypeId}{x y:Operand}{m:Nat}{R:List ((Int×Int)×Value)}{k:Int×Int}{v:Value}{bb:Bool}(h:Sep G W As w)(hr:SetR W G m R L)(hK:KLaw P kt xh)(hU:P.underlying t=some (.map kt et))(hZ: ∀w,(zeroValue et).run P w=.ok XI w)
 (hx:ev σ x=.map (some m)) (hy:ev σ y=xh k) (hv:(yI R k).getD XI=v) (hb:(yI R k).isSome=bb) (hk:K (.tuple #[v,.bool bb]) w):opV P ⟨d,.lookup t x y true,ty,pos,af,g⟩ σ w K:=by
 subst hv hb
 exact XF hK hU hZ hx hy (hr.is.move (h.gb hr.gm)) hk
end
theorem Ql {n:Nat}:List.replicate n (0:Int)=zu n []:=by
 unfold zu Yh
 refine List.ext_getElem (by simp) (fun i h1 h2=>by simp)
theorem Yt {n:Nat}{L:List Ev}:(zu n L).length=n:=by simp[zu]
theorem Xd {n:Nat}{L:List Ev}{o:Nat}(h:o<n):(zu n L).getD o 0=((Yh L o:Nat):Int):=by simp[zu,h]
theorem Jh {n:Nat}(hn:n≤1000)(hS0:Sep G W Rs w):Ret Tryz.prog 28 [.int .i64 ((n:Nat):Int)] w (fun r w'=> ∃(b:Nat),r=(.pointer (some ⟨b,0,none⟩):Value)∧Sep G W ((SetO b n ([]:List Ev))::Rs) w'):=by
 refine zi Tryz.func28 rfl rfl ?_
 refine za (R0 fun _=>st (aS (.pointer none) (zb (za (R0 fun _=>st (mV (Iw n) (st (xW (α:=Int) (T:=3) (bytes:=8) (n:=n) (x1:=(0:Int)) lT ⟨_,_,rfl,rfl,rfl,rfl,rfl,fun _ _=>⟨rfl,by decide⟩⟩ rfl rfl rfl (by show n*8≤140737488355328;omega) ?_))))))))
 intro l d m he3 hl4 o
 have f:Sep G W ((RowE (α:=Int) own 3 (Iy d n n) (List.replicate n (0:Int)))::Rs) l:=hS0.made m o
 have g:=f.r0
 refine st (ZZ ?_)
 intro p q
 obtain⟨a,e⟩: ∃z,z=l.heap.size:=⟨_,rfl⟩;rw[←e]
 have h:Sep G W ((MapO xh EV a (fun _=>none))::(RowE (α:=Int) own 3 (Iy d n n) (List.replicate n (0:Int)))::Rs) p:=(by rw[e];exact f.mapoNew q)
 refine st (zL (parts':=[(0,(Iy d n n)),(1,.map (some a))]) (v:=.agg #[(Iy d n n),.map (some a),Iv 0]) rfl (by obtain⟨_,_,i,_⟩:=g.1;rw[show(Iy d n n)=Value.slice _ _ _ from i];simp[Instr.build,Instr.fill,go_sem]) (st (zM rfl ?_)))
 intro s c j
 refine st (aS (Ix c 0) (zb (zk (zG Tryz.results28 rfl ?_))))
 have k:Sep G W ((SetO c n ([]:List Ev))::Rs) s:=SetO.close ((h.new j).s3_acb) rfl Ql rfl
 refine⟨c,rfl,k⟩
theorem zaE {b:Nat}{n:Nat}{L:List Ev}(hb:(SetO b n L).p W G)(hS0:Sep G W Rs w):Ret Tryz.prog 42 [.pointer (some ⟨b,0,none⟩)] w (fun r w'=> ∃(v:Value),r=(v:Value)∧Sep G W ((RowE (α:=Int) own 3 v (zu n L))::Rs) w'):=by
 refine zi Tryz.func42 rfl rfl ?_
 obtain⟨c,m2,R3,g,d,hr6⟩:=SetO.sh hb
 refine za (R0 fun _=>st (aS (Iz) (zb (za (R0 fun _=>st (mV (Ix b 0) (st (zo rfl (st (YY rfl (st (lD c rT rfl (zd (hS0.gblk g) rfl) (st (cL uY (Zr d hS0) ?_))))))))))))))
 rintro e w9 ⟨_,rfl,a⟩
 have f:=a.r0
 refine st (aS e (zb (zk (zG Tryz.results42 rfl ?_))))
 refine⟨e,rfl,a⟩
theorem zaD {b:Nat}{n:Nat}{L:List Ev}(hb:(SetO b n L).p W G)(hS0:Sep G W Rs w):Ret Tryz.prog 43 [.pointer (some ⟨b,0,none⟩)] w (fun r w'=>r=(.int .i64 (zK L):Value)∧Sep G W Rs w'):=by
 refine zi Tryz.func43 rfl rfl ?_
 obtain⟨vv1,m2,R3,a,c,hr6⟩:=SetO.sh hb
 refine za (R0 fun _=>st (aS (Iv 0) (zb (za (R0 fun _=>st (mV (Ix b 0) (st (zo rfl (st (Uf rfl (st (lD (Iv (zK L)) kT rfl (zd (hS0.gblk a) rfl) (st (aS (Iv (zK L)) (zb (zk (zG Tryz.results43 rfl ?_)))))))))))))))))
 refine⟨rfl,hS0⟩
end
section
set_option maxRecDepth 8000
set_option maxHeartbeats 4000000
open Go.Proofs Go.RowKit
def xB (L:List Ev)(e:Ev)(o:Nat):Bool:=decide (e.deps.getD o 0=0)||match yb L ((o:Int),e.deps.getD o 0)with
 |none=>false
 |some x=>decide (x.lam<e.lam)&&(List.range x.deps.length).all fun i=>decide (x.deps.getD i 0≤e.deps.getD i 0)
theorem zbK {L:List Ev}{e:Ev}{o:Nat}(h:e.deps.getD o 0=0):xB L e o=true:=by unfold xB;rw[decide_eq_true h];rfl
theorem zaG {L:List Ev}{e:Ev}{o:Nat}(h: ¬e.deps.getD o 0=0)(hn:(yb L ((o:Int),e.deps.getD o 0)).isSome=false):xB L e o=false:=by
 unfold xB
 rw[Option.isSome_eq_false_iff,Option.isNone_iff_eq_none]at hn
 rw[hn,decide_eq_false h];rfl
theorem Xx {L:List Ev}{e x:Ev}{o:Nat}(h: ¬e.deps.getD o 0=0)(hx:x=(yb L ((o:Int),e.deps.getD o 0)).getD default)(hn:(yb L ((o:Int),e.deps.getD o 0)).isSome=true):
 xB L e o=(decide (x.lam<e.lam)&&(List.range x.deps.length).all fun i=>decide (x.deps.getD i 0≤e.deps.getD i 0)):=by
 unfold xB
 obtain⟨y,hy⟩:=Option.isSome_iff_exists.1 hn
 rw[hy]at hx
 simp only[Option.getD_some]at hx
 subst hx
 rw[hy];simp only[decide_eq_false h,Bool.false_or]
theorem UW {L:List Ev}{k:Int×Int}{x:Ev}(h:yb L k=some x):x∈L∧x.origin=k.1∧x.seq=k.2:=by
 have h1:=List.mem_of_find?_eq_some h
 have h2:=List.find?_some h
 simp only[decide_eq_true_eq]at h2
 exact⟨h1,h2⟩
theorem UL {n:Nat}{L:List Ev}{k:Int×Int}{x:Ev}(hl: ∀y∈L,y.deps.length=n)(hx:x=(yb L k).getD default)(hn:(yb L k).isSome=true):x.deps.length=n:=by
 obtain⟨y,hy⟩:=Option.isSome_iff_exists.1 hn
 rw[hy]at hx
 simp only[Option.getD_some]at hx
 subst hx
 exact hl _ (UW hy).1
theorem zcR {b:Nat}{n:Nat}{L:List Ev}(hb:(SetO b n L).p W G){e:Ev}{de0:Value}(hde0:RdS W G de0 e.deps)(oe:e.Ok){o:Nat}(ho:o<n)(hS0:Sep G W Rs w)(hel:e.deps.length=n)(hlen: ∀y∈L,y.deps.length=n):Ret Tryz.prog 68 [.pointer (some ⟨b,0,none⟩),.agg (e.cells de0).toArray,.int .i64 ((o:Nat):Int)] w (fun r w'=>r=(.bool ((xB L e o)):Value)∧Sep G W Rs w'):=by
 have hde0s:_*8≤_:=hde0.small
 refine zi (args:=[Ix b 0,.agg (e.cells de0).toArray,Iw o]) Tryz.func68 rfl rfl ?_
 obtain⟨vv1,m2,R3,ak,al,Q⟩:=SetO.sh hb
 have hsm7:(zu n L).length*8≤140737488355328:=al.small
 refine za (R0 fun _=>st (zM (v:=.agg (e.cells de0).toArray) rfl ?_))
 intro w10 S am
 have g:=hS0.new am
 refine st (aS (.bool false) (zb (za (R0 fun _=>st (yQ rfl (st (lD de0 rT rfl (zd (g.b0) rfl) (st (mV (Iw o) ?_)))))))))
 have T:o<e.deps.length:=bo
 refine st (zj (k:=1) (i:=o) lT qT rfl hde0.sl rfl T ?_)
 have C:o<e.deps.length:=bo
 obtain⟨J,hxe13⟩:=hde0.intD C
 have K:=g.cells J (hde0.foot (ne_of_lt C))
 refine st (lD (Iv ((e.deps.getD o 0))) kT rfl (K.get (j:=0) rfl) (st (aS (Iv ((e.deps.getD o 0))) (zb (za (za (R0 fun _=>st (mV (Iv ((e.deps.getD o 0))) (st (zR (k:=.i64) (a:=(e.deps.getD o 0)) (b:=0) rfl rfl (zb ?_)))))))))))
 cases d:decide ((e.deps.getD o 0)=0)
 have hc16r:=d
 have d:=fD d
 refine ze rfl (zl (za (yq (by kernel_rfl) (fun _=>(st (mV (Ix b 0) (st (zo (b:=b) (o:=0) rfl (st (XW rfl (st (lD (.map (some m2)) Tryz.isAgg116 rfl (zd (g.gblk ak) rfl) (st (mV (Iw o) (st (mV (Iv ((e.deps.getD o 0))) (st (zL (parts':=[(0,Iw o),(1,Iv ((e.deps.getD o 0)))]) (v:=.agg #[Iw o,Iv ((e.deps.getD o 0))]) rfl (by simp+zetaDelta [Instr.build,Instr.fill,Ev.cells,go_sem,Mv.cells,Fld.cells,Typ.cells,Prj.cells,Dcl.cells,Cel.cells,AskR.cells,CelS.cells,Ev.cells,Ent.cells,Sta.cells]) ?_))))))))))))))))))
 obtain⟨c,f,z,U,hok21,l,X⟩:=Q.at_ (((o:Nat):Int),(e.deps.getD o 0))
 have hsm24:c.deps.length*8≤140737488355328:=l.small
 refine st (XC (k:=(((o:Nat):Int),(e.deps.getD o 0))) g Q K2i Tryz.underlying116 kR rfl (show _=(.agg #[Iw o,Iv ((e.deps.getD o 0))]:Value)from rfl) U X (st (mV (.tuple #[.agg (c.cells f).toArray,.bool ((yb L (((o:Nat):Int),(e.deps.getD o 0))).isSome)]) (st (zm (vs:=[.agg (c.cells f).toArray,.bool ((yb L (((o:Nat):Int),(e.deps.getD o 0))).isSome)]) (i:=0) (v:=.agg (c.cells f).toArray) rfl rfl (st (zm (vs:=[.agg (c.cells f).toArray,.bool ((yb L (((o:Nat):Int),(e.deps.getD o 0))).isSome)]) (i:=1) (v:=.bool ((yb L (((o:Nat):Int),(e.deps.getD o 0))).isSome)) rfl rfl (st (zq kR ?_)))))))))
 intro w27 R Y
 have D:=g.new Y
 refine stn (zp (v:=.agg (c.cells f).toArray) (c':=(c.cells f).toArray) mT rfl rfl (D.b0) (zX ⟨rfl,rfl,rfl,l.sl.one,rfl,rfl,rfl,rfl,rfl,rfl,trivial⟩) yqc rfl ?_)
 intro w29 Z
 have t:=D.pt0 Z
 refine st (aS (.bool ((yb L (((o:Nat):Int),(e.deps.getD o 0))).isSome)) (zb (za (za (zA kr (st (mV (.bool ((yb L (((o:Nat):Int),(e.deps.getD o 0))).isSome)) (st (yB (a:=(yb L (((o:Nat):Int),(e.deps.getD o 0))).isSome) rfl (st (mV (.bool (!((yb L (((o:Nat):Int),(e.deps.getD o 0))).isSome))) (stc (V:=Ix R 2) rfl rfl (fun aa=>?_) ?_))))))))))))
 have ab:=aa
 try simp only[zf]at ab
 exact xC rfl ⟨rfl,rfl⟩
 refine stc (V:=Iv (c.lam)) rfl rfl (fun E=>?_) ?_
 have ac:=E
 try simp only[zf]at ac
 exact lD (Iv (c.lam)) kT (if_pos E) (zd (t.b0) rfl) ⟨rfl,rfl⟩
 refine stc (V:=Ix S 2) rfl rfl (fun ad=>?_) ?_
 have ae:=ad
 try simp only[zf]at ae
 exact xC rfl ⟨rfl,rfl⟩
 refine stc (V:=Iv (e.lam)) rfl rfl (fun F=>?_) ?_
 have af:=F
 try simp only[zf]at af
 exact lD (Iv (e.lam)) kT (if_pos F) (zd (t.b1) rfl) ⟨rfl,rfl⟩
 refine stc (V:=.bool (decide (e.lam≤c.lam))) rfl rfl (fun B=>?_) ?_
 have ag:=B
 try simp only[zf]at ag
 exact yR (k:=.i64) (a:=c.lam) (b:=e.lam) (if_pos B) (if_pos B) ⟨rfl,rfl⟩
 refine st (zt (b:= !((yb L (((o:Nat):Int),(e.deps.getD o 0))).isSome)) (b':=decide (e.lam≤c.lam)) rfl (fun hbp=>(if_pos hbp)) (zb ?_))
 cases A:(!((yb L (((o:Nat):Int),(e.deps.getD o 0))).isSome))||(decide (e.lam≤c.lam))
 have s:=A
 try simp only[zf]at A
 have q:=s
 simp only[Bool.or_eq_false_iff,Bool.not_eq_false',decide_eq_false_iff_not,Bool.not_eq_eq_eq_not,Bool.not_false]at q
 have hxl9:=UL hlen z q.1
 refine ze rfl (zl (za (za (R0 fun _=>st (yQ rfl (st (lD f rT rfl (zd (t.b0) rfl) (st (zJ (n:=c.deps.length) lT rfl l.sl (st (mV (Iv 0) (zb (zn (zZ (fun mq σ wq=> ∃(k:Nat) (ρ:Env),mq=c.deps.length-k∧σ=yd ρ [(0,Ix b 0),(4,Ix S 0),(40,f),(41,Iw c.deps.length),(42,Iw k)]∧(k≤c.deps.length)∧(∀i,i<k→c.deps.getD i 0≤e.deps.getD i 0)∧Sep G W ((Blk R (c.cells f).toArray 44)::(Blk S (e.cells de0).toArray 44)::Rs) wq) ⟨0,_,rfl,sSf,Nat.zero_le _,(fun i h=>absurd h (Nat.not_lt_zero i)),t⟩ ?_))))))))))))))
 rintro m44 σ45 w43 ⟨k,ρl1,rfl,rfl,hkk,hm,m⟩
 refine za (R0 fun _=>st (zC (k:=.i64) (a:=((k:Nat):Int)) (b:=((c.deps.length:Nat):Int)) rfl rfl (zb (za ?_))))
 cases u:decide (((k:Nat):Int)<((c.deps.length:Nat):Int))
 have hc47r:=u
 have u:=fD u
 refine ze rfl (ya (zS (za (R0 fun _=>st (aS (.bool true) (zb (zk (zG lR (show _=(.bool true:Value)from rfl) ?_))))))))
 refine⟨?_,(m.s2_)⟩
 rw[Xx d z q.1,decide_eq_true (show c.lam<e.lam by omega),Bool.true_and]
 rw[List.all_eq_true.2 (fun i hi=>decide_eq_true (hm i (by have:=List.mem_range.1 hi;omega)))]
 have u:=tD u
 refine zg rfl (zl (za (zn (za (R0 fun _=>st (mV (Iw k) ?_))))))
 have ah:k<c.deps.length:=bo
 refine st (zj (k:=1) (i:=k) lT qT rfl l.sl rfl ah ?_)
 have H:k<c.deps.length:=bo
 obtain⟨M,hxe50⟩:=l.intD H
 have N:=m.cells M (l.foot (ne_of_lt H))
 refine st (lD (Iv ((c.deps.getD k 0))) kT rfl (N.get (j:=0) rfl) (st (aS (Iw k) (st (aS (Iv ((c.deps.getD k 0))) (zb (za (R0 fun _=>st (mV (Iv ((c.deps.getD k 0))) (st (yQ rfl (st (lD de0 rT rfl (zd (m.b1) rfl) (st (mV (Iw k) ?_)))))))))))))))
 have ai:k<e.deps.length:=bo
 refine st (zj (k:=1) (i:=k) lT qT rfl hde0.sl rfl ai ?_)
 have I:k<e.deps.length:=bo
 obtain⟨O,hxe54⟩:=hde0.intD I
 have P:=m.cells O (hde0.foot (ne_of_lt I))
 refine st (lD (Iv ((e.deps.getD k 0))) kT rfl (P.get (j:=0) rfl) (st (yT (k:=.i64) (a:=(c.deps.getD k 0)) (b:=(e.deps.getD k 0)) rfl rfl (zb ?_))))
 cases x:decide ((e.deps.getD k 0)<(c.deps.getD k 0))
 have hc57r:=x
 have x:=fD x
 refine ze rfl (zl (R0 fun _=>?_))
 have aj:InR ((k+1:Nat):Int):=bo
 refine st (zP (r:=((k+1:Nat):Int)) (k:=.i64) (a:=((k:Nat):Int)) (b:=1) rfl rfl (by rw[show(((k:Nat):Int)+1:Int)=((k+1:Nat):Int)from bo];exact zF aj) (st (mV (Iw (k+1)) (zb ?_))))
 exact⟨_,by omega,k+1,_,rfl,sSf,by omega,(yL hm om),m⟩
 have x:=tD x
 refine zg rfl (za (R0 fun _=>st (aS (.bool false) (zb (zk (zG lR (show _=(.bool false:Value)from rfl) ?_))))))
 refine⟨?_,(m.s2_)⟩
 rw[Xx d z q.1,decide_eq_true (show c.lam<e.lam by omega),Bool.true_and]
 congr 1
 symm
 rw[List.all_eq_false]
 exact⟨k,List.mem_range.2 (by omega),by simp only[decide_eq_true_eq];omega⟩
 have s:=A
 try simp only[zf]at A
 refine zg rfl (za (R0 fun _=>st (aS (.bool false) (zb (zk (zG lR (show _=(.bool false:Value)from rfl) ?_))))))
 refine⟨?_,(t.s2_)⟩
 cases q:(yb L (((o:Nat):Int),(e.deps.getD o 0))).isSome
 rw[zaG d q]
 rw[Xx d z q]
 have h9: ¬c.lam<e.lam:=by rw[q]at s;simpa using s
 simp[h9]
 have d:=tD d
 refine zg rfl (za (R0 fun _=>st (aS (.bool true) (zb (zk (zG lR (show _=(.bool true:Value)from rfl) ?_))))))
 refine⟨?_,(g.s1_)⟩
 rw[zbK d]
end
section
open Go.RowKit
abbrev FR (r:Option Nat):Fence:={Fence.wide with round:=r}
structure SimD (ds:List Deferred) (n:Nat) (σ:Env) (a:Act):Prop where
 size:a.tmps.size=n
 defers:a.defers=ds
 get: ∀i,a.tmps.getD i undef=σ i
section
variable {P:Program}{n:Nat}{Q:Zv}{σ:Env}{w:World}{ds:List Deferred}{r:Option Nat}{a:Act}
theorem SimD.sim (h:SimD [] n σ a):Sim n σ a:=⟨h.size,h.defers,h.get⟩
theorem SimD.of (h:Sim n σ a):SimD [] n σ a:=⟨h.size,h.defers,h.get⟩
theorem SimD.low (h:SimD ds n σ a):Sim n σ {a with defers:=[]}:=⟨h.size,rfl,h.get⟩
theorem SimD.eval (h:SimD ds n σ a):a.eval=ev σ:=h.low.eval
theorem SimD.put (h:SimD ds n σ a){dst:Option Nat}(hd: ∀d,dst=some d→d<n)(v:Value):SimD ds n (ZR σ dst v) (a.put dst v):=by
 have h1:=h.low.put hd v
 refine⟨?_,?_,?_⟩
 ·have:=h1.size;cases dst<;>exact this
 ·have:=h.defers;cases dst<;>exact this
 ·have:=h1.get;cases dst<;>exact this
theorem SimD.yielded (h:SimD ds n σ a)(ops:Array Oper):yielded ops a.tmps=yl ops σ:=h.low.yielded ops
def opX (P:Program)(o:Oper)(σ:Env)(w:World)(K:Value→World→Prop):Prop:=
 match (execOp (ev σ) o).run P w with
 | .ok (.value v) w'=>K v w'
 | .ok .skip w'=>K undef w'
 | .ok (.enter f args) w'=>Calls P f args w' fun e w''=> ∃v,e=.returned v∧K v w''
 | .ok (.round l f tmps assign body) w'=>RoundIn (FR none) 0 P l f tmps assign body w' fun e w''=> ∃v,e=.returned v∧K v w''
 |_=>False
theorem zbX {o:Oper}{K:Value→World→Prop}(h:opV P o σ w K):opX P o σ w K:=by
 unfold opV at h
 unfold opX
 generalize (execOp (ev σ) o).run P w=q at*
 cases q with
 |halt x w'=>cases x<;>exact h.elim
 |ok x w'=>cases x<;>first|exact h|exact h.elim
def Zd (o:Oper):Bool:=match o.op with| .defer _=>false|_=>true
theorem Wp {o:Oper}(h:Zd o=true): ∀c,o.op≠ .defer c:=by
 intro c hc
 unfold Zd at h
 rw[hc]at h
 cases h
theorem QZ {f:FuncId}{args:Array Value}{R:Ending→World→Prop}(h:Calls P f args w R):CallsIn (FR r) 0 P f args w R:=callsIn_wide.2 h
theorem zbM {o:Oper}{K:Value→World→Prop}{next:Act→World→Prop}{Q':Exit→Act→World→Prop}(hs:SimD ds n σ a)(hnd:Zd o=true)
 (hn: ∀a' v w',SimD ds n (ZR σ o.dst v) a'→K v w'→next a' w') (hd: ∀d,o.dst=some d→d<n) (h:opX P o σ w K):o.wpIn (FR r) 0 P a w next Q':=by
 unfold Oper.wpIn
 refine⟨fun _ _=>trivial,?_⟩
 rw[Oper.semAt_eq _ _ _ (Wp hnd),hs.eval]
 unfold opX at h
 generalize (execOp (ev σ) o).run P w=q at*
 cases q with
 |halt x w'=>cases x<;>exact h.elim
 |ok x w'=>
  cases x<;>try exact h.elim
  case value v=>exact hn _ _ _ (hs.put hd v) h
  case skip=>exact hn _ _ _ (hs.put hd undef) h
  case enter f args=>
   refine⟨fun h=>(by cases h),CallsIn.mono (QZ h) fun e w''=>?_⟩
   rintro⟨v,rfl,hk⟩
   exact hn _ _ _ (hs.put hd v) hk
  case round l f tmps assign body=>
   refine⟨fun h=>(by cases h),RoundIn.mono h fun e w''=>?_⟩
   rintro⟨v,rfl,hk⟩
   exact hn _ _ _ (hs.put hd v) hk
def XP (P:Program)(ops:Array Oper)(K:Env→World→Prop):List Oper→Env→World→Prop
 |[],σ,w=>K σ w
 |o::rest,σ,w=>if Region.wanted o (yl ops σ)then opX P o σ w (fun v w'=>XP P ops K rest (ZR σ o.dst v) w')else XP P ops K rest (ZR σ o.dst undef) w
theorem zbT {o:Oper}{K K':Value→World→Prop}(h: ∀v w',K v w'→K' v w')(hh:opX P o σ w K):opX P o σ w K':=by
 unfold opX at*
 generalize (execOp (ev σ) o).run P w=q at*
 cases q with
 |halt x w'=>cases x<;>exact hh.elim
 |ok x w'=>
  cases x<;>try exact hh.elim
  case value v=>exact h _ _ hh
  case skip=>exact h _ _ hh
  case enter f args=>
   refine Calls.mono hh fun e w''=>?_
   rintro⟨v,rfl,hk⟩
   exact⟨v,rfl,h _ _ hk⟩
  case round l f tmps assign body=>
   refine RoundIn.mono hh fun e w''=>?_
   rintro⟨v,rfl,hk⟩
   exact⟨v,rfl,h _ _ hk⟩
theorem UC {ops:Array Oper}{K:Env→World→Prop}: ∀{l:List Oper} {σ:Env} {w:World},WPs P ops K l σ w→XP P ops K l σ w
 |[],_,_,h=>h
 |o::rest,σ,w,h=>by
  simp only[WPs]at h
  simp only[XP]
  split
  ·rename_i hw
   rw[if_pos hw]at h
   exact zbT (fun v w' hk=>UC hk) (zbX h)
  ·rename_i hw
   rw[if_neg hw]at h
   exact UC h
theorem stX {ops:Array Oper}{K:Env→World→Prop}{rest:List Oper}{d:Nat}{op:Op}{ty:TypeId}{pos:String}{af:Array Edge}(h:opX P ⟨some d,op,ty,pos,af,none⟩ σ w (fun v w'=>XP P ops K rest (upd σ d v) w')):XP P ops K (⟨some d,op,ty,pos,af,none⟩::rest) σ w:=h
theorem zdu {ops:Array Oper}{K:Env→World→Prop}{rest:List Oper}{d:Nat}{op:Op}{ty:TypeId}{pos:String}{af:Array Edge}(h:opV P ⟨some d,op,ty,pos,af,none⟩ σ w (fun v w'=>XP P ops K rest (upd σ d v) w')):XP P ops K (⟨some d,op,ty,pos,af,none⟩::rest) σ w:=zbX h
theorem zcS {ops:Array Oper}{K:Env→World→Prop}(h:K σ w):XP P ops K [] σ w:=h
theorem Vp {ops:Array Oper}{K:Env→World→Prop}{Q':Exit→Act→World→Prop}(hK: ∀a σ w,SimD ds n σ a→K σ w→Q' .normal a w):
 ∀(l:List Oper),xp n l=true→l.all Zd=true→ ∀(σ:Env) (a:Act) (w:World),SimD ds n σ a→XP P ops K l σ w→wpListIn (FR r) 0 P ops Q' l a w
 |[],_,_,σ,a,w,hs,h=>hK a σ w hs h
 |o::rest,hd,hnd,σ,a,w,hs,h=>by
  simp only[xp,List.all_cons,Bool.and_eq_true]at hd hnd
  have hd1: ∀d,o.dst=some d→d<n:=by
   intro d hd'
   have:=hd.1
   rw[hd']at this
   simpa using this
  have ih:=Vp (ops:=ops) hK rest (by simpa[xp]using hd.2) hnd.2
  simp only[XP]at h
  simp only[wpListIn,hs.yielded]
  split
  ·rename_i hw
   rw[if_pos hw]at h
   exact zbM hs hnd.1 (fun a' v w' hs' hk=>ih _ a' w' hs' hk) hd1 h
  ·rename_i hw
   rw[if_neg hw]at h
   exact⟨fun _ _=>trivial,ih _ _ _ (hs.put hd1 undef) h⟩
def WPX (r:Option Nat)(ds:List Deferred)(P:Program)(n:Nat)(c:Code)(Q:Zv)(σ:Env)(w:World):Prop:=
 ∀a,SimD ds n σ a→c.wpIn (FR r) 0 P (fun e a' w'=> ∃σ',SimD ds n σ' a'∧Q e σ' w') a w
theorem zcM {c:Code}(h:WPX none [] P n c Q σ w):WP P n c Q σ w:=fun a hs=>
 wp_mono (wpIn_wide.1 (h a (.of hs))) (by rintro e a' w' ⟨σ',h1,h2⟩;exact⟨σ',h1.sim,h2⟩)
theorem XE {id:Nat}{l:List Oper}(hd:(xp n l&&l.all Zd)=true)(h:XP P l.toArray (Q .normal) l σ w):WPX r ds P n (.region id l.toArray false) Q σ w:=by
 intro a hs
 rw[Bool.and_eq_true]at hd
 exact wpIn_region_lit (Vp (fun a σ w hs hk=>⟨σ,hs,hk⟩) l hd.1 hd.2 σ a w hs h)
theorem QH {id:Nat}{l:List Oper}(hd:(xp n l&&l.all Zd)=true)(h:WPs P l.toArray (Q .normal) l σ w):WPX r ds P n (.region id l.toArray false) Q σ w:=XE hd (UC h)
theorem ZA {id:Nat}{l:List Oper}(hd:(xp n l&&l.all Zd)=true)(h: ∀ops,WPs P ops (Q .normal) l σ w):WPX r ds P n (.region id l.toArray false) Q σ w:=QH hd (h _)
theorem VW {x y:Code}(h:WPX r ds P n x (zbn (WPX r ds P n y Q) Q) σ w):WPX r ds P n (.seq x y) Q σ w:=by
 intro a hs
 refine wpIn_seq (wpIn_mono (h a hs) ?_)
 rintro e a' w' ⟨σ',hs',hq⟩
 cases e<;>first|exact hq a' hs'|exact⟨σ',hs',hq⟩
theorem zbh (h:Q .normal σ w):WPX r ds P n .skip Q σ w:=fun _ hs=>wpIn_skip ⟨σ,hs,h⟩
theorem zdb (h:Q .ret σ w):WPX r ds P n .ret Q σ w:=fun _ hs=>wpIn_ret ⟨σ,hs,h⟩
theorem UR {c:Operand}{x y:Code}{t:Bool}(hc:ev σ c=.bool t)(ht:t=true→WPX r ds P n x Q σ w)(hf:t=false→WPX r ds P n y Q σ w):WPX r ds P n (.cond c x y) Q σ w:=by
 intro a hs
 cases t
 ·exact wpIn_cond_false (by rw[hs.eval];exact hc) (hf rfl a hs)
 ·exact wpIn_cond_true (by rw[hs.eval];exact hc) (ht rfl a hs)
theorem Kg {c:Operand}{x y:Code}(hc:ev σ c=.bool true)(ht:WPX r ds P n x Q σ w):WPX r ds P n (.cond c x y) Q σ w:=UR hc (fun _=>ht) (fun h=>nomatch h)
theorem QQ {c:Operand}{x y:Code}(hc:ev σ c=.bool false)(hf:WPX r ds P n y Q σ w):WPX r ds P n (.cond c x y) Q σ w:=UR hc (fun h=>nomatch h) (fun _=>hf)
theorem JG {id:Nat}{c:Code}(h:WPX r ds P n c (XA id Q) σ w):WPX r ds P n (.block id c) Q σ w:=by
 intro a hs
 refine wpIn_block (wpIn_mono (h a hs) ?_)
 rintro e a' w' ⟨σ',hs',hq⟩
 cases e<;>try exact⟨σ',hs',hq⟩
 case exit id'=>
  simp only[XA]at hq
  simp only[Exit.inBlock]
  split<;>rename_i hid
  ·rw[if_pos hid]at hq;exact⟨σ',hs',hq⟩
  ·rw[if_neg hid]at hq;exact⟨σ',hs',hq⟩
theorem zcA {c:Code}{kv:List (Nat×Value)}(hk:Wo σ kv)(h: ∀ρ,WPX r ds P n c Q (yd ρ kv) w):WPX r ds P n c Q σ w:=by
 rw[yW hk];exact h σ
theorem zcq {o:Oper}{w:World}{K:Act→World→Prop}{Q':Exit→Act→World→Prop}(hnd:Zd o=true)(h:o.wp P a w K Q'):o.wpIn (FR r) 0 P a w K Q':=by
 unfold Oper.wp at h
 unfold Oper.wpIn
 refine⟨fun _ _=>trivial,?_⟩
 rw[Oper.semAt_eq _ _ _ (Wp hnd)]
 generalize (execOp a.eval o).run P w=q at*
 cases q with
 |halt x w'=>cases x<;>exact h
 |ok x w'=>
  cases x<;>try exact h
  case enter f args=>exact⟨fun h=>(by cases h),QZ h⟩
  case row row args=>
   refine⟨fun h=>(by cases h),fun c cs _=>?_⟩
   obtain⟨v,w',h1,h2⟩:=h c cs
   exact⟨v,w',h1,stepsIn_wide.2 h2⟩
  case round=>exact False.elim h
theorem Xj {ops:Array Oper}{Q':Exit→Act→World→Prop}(hnd: ∀(i:Nat) (o:Oper),ops[i]? =some o→Zd o=true)(hQ: ¬LetsOut Q'): ∀(fuel:Nat) (listed:Array Bool) (a:Act) (w:World),wpAny P .any ops Q' fuel listed a w→wpAnyIn (FR r) 0 P .any ops Q' fuel listed a w
 |0,_,_,_,h=>h
 |fuel+1,listed,a,w,h=>by
  refine⟨h.1,fun i hi=>?_⟩
  have h1:=h.2 i hi
  unfold wpOp at h1
  unfold wpOpIn
  split
  ·rename_i ho
   simp only[ho]at h1
   exact Xj hnd hQ fuel _ _ _ h1
  ·rename_i o ho
   simp only[ho]at h1
   split
   ·rename_i hw
    rw[if_pos hw]at h1
    rcases h1 with h1|h1
    ·exact Oper.wpIn_mono (fun a w hk=>Xj hnd hQ fuel _ _ _ hk) (zcq (hnd _ _ ho) h1)
    ·exact(hQ h1.2).elim
   ·rename_i hw
    rw[if_neg hw]at h1
    exact⟨fun _ _=>trivial,Xj hnd hQ fuel _ _ _ h1⟩
theorem Jt {ops:List Oper}{id:Nat}(W:Nat→(Nat→Value)→World→Prop)(A:Nat→(Nat→Value)→Prop)(pre:List (List Nat))(ss:List Nat)(sees:List (Nat×Nat))(hm:P.follows .mixedOrders=true)(hd:(xp n ops&&ops.all Zd)=true)(hok:drawOk ops pre ops.length=true)
 (hkl:sees.length=ops.length) (hk:seesOk pre ss sees=true) (hsl:(ss.all fun s=>Nat.blt s ops.length)=true)
 (hW: ∀w0:World,w0.heap=w.heap→w0.os=w.os→w0.tape=w.tape→w0.output=w.output∧w.drawn≤w0.drawn→ ∀vals,W 0 vals w0)
 (hloc: ∀k vals vals' w,(∀s∈ss,vals' s=vals s)→W k vals w→W k vals' w)
 (hlocA: ∀i vals vals',(∀j,j=i∨j∈pre.getD i []→vals' j=vals j)→A i vals→A i vals')
 (hob:VB P ops pre ss sees W A σ 0 ops)
 (hfin: ∀vals w',W ss.length vals w'→(∀j,j<ops.length→A j vals)→WPs P ops.toArray (Q .normal) [] (behind ops vals σ ops.length) w')
 (hQ: ∀σ w,¬Q .outgrown σ w:=by intro σ w h;exact h):
 WPX r [] P n (.region id ops.toArray true) Q σ w:=by
 intro a hs
 rw[Bool.and_eq_true]at hd
 have hf:=drawOk.fit hok
 have hz:dn (Array.replicate ops.toArray.size false)=fun _=>false:=by
  funext i
  simp[dn,Array.getElem?_replicate]
  split<;>rfl
 refine wpIn_mono (wpIn_region_any hm (Xj (Q':=fun e a' w'=> ∃σ'',Sim n σ'' a'∧Q e σ'' w') (fun i o ho=>(List.all_eq_true.1 hd.2) o (List.mem_of_getElem? (by simpa using ho))) (by rintro⟨a0,w0,σ0,_,h0⟩;exact hQ _ _ h0) _ _ _ _ ?_)) (by rintro e a' w' ⟨σ',h1,h2⟩;exact⟨σ',.of h1,h2⟩)
 refine zaC (ss:=ss) (vals:=fun _=>undef) hf hd.1 hkl hk (fun s hs=>by
  have:=(List.all_eq_true.1 hsl) s hs;simpa[Nat.blt_eq]using this) hloc hlocA hob hfin _ _ a _ (by simp) ?_ ?_ ?_ ?_ ?_ ?_
 ·intro i hi;rw[hz]at hi;cases hi
 ·intro i hi;rw[hz]at hi;cases hi
 ·simp
 ·have:mixed ops (dn (Array.replicate ops.toArray.size false)) (fun _=>undef) σ=σ:=by
   funext t
   exact xN fun j _=>by rw[hz]
  rw[this];exact hs.sim
 ·have:xz ss (dn (Array.replicate ops.toArray.size false))=0:=Yn fun s _=>by rw[hz]
  rw[this];exact hW {w with drawn:=w.drawn+1} rfl rfl rfl ⟨rfl,Nat.le_succ _⟩ _
 ·intro i hi;rw[hz]at hi;cases hi
abbrev VL (K:Env→World→Prop):Zv:=fun e σ w=>match e with
 | .normal=>K σ w
 |_=>False
theorem zac {l p:Nat}{f:FuncId}{tm:Array Value}{v:Value}{assign body:Code}{R:Ending→World→Prop}(hs:tm.size=n∧ ∀i,tm.getD i undef=σ i)(hp:p<n)
 (h:WPX (some l) [] P n assign (VL fun σ1 w1=> ∃w2,(Instr.beginRound l).run P w1=.ok () w2∧WPX (some l) [] P n body (VL fun σ2 w3=> ∃v' w4,(Instr.endRound l none).run P w3=.ok v' w4∧R (.returned v') w4) σ1 w2) (upd σ p v) w):
 RoundIn (FR none) 0 P l f ((#[p].zip #[v]).foldl (fun t (p,v)=>t.setIfInBounds p v) tm) assign body w R:=by
 have hs':SimD [] n (upd σ p v) {tmps:=(#[p].zip #[v]).foldl (fun t (p,v)=>t.setIfInBounds p v) tm,defers:=[]}:=by
  have h1:SimD [] n σ {tmps:=tm,defers:=[]}:=⟨hs.1,rfl,hs.2⟩
  have h2:=h1.put (dst:=some p) (fun d hd=>by cases hd;exact hp) v
  have e:(#[p].zip #[v]).foldl (fun t (p,v)=>t.setIfInBounds p v) tm=tm.setIfInBounds p v:=by simp
  rw[e];exact h2
 refine roundIn_of_wpIn trivial (wpIn_mono (h _ hs') ?_)
 rintro e a' w' ⟨σ',hs'',hq⟩
 cases e<;>try exact hq.elim
 obtain⟨w2,hb,hq⟩:=hq
 refine⟨w2,hb,wpIn_mono (hq _ hs'') ?_⟩
 rintro e a'' w'' ⟨σ'',hs3,hq2⟩
 cases e<;>try exact hq2.elim
 exact hq2
def mkD (D:Nat):Deferred:={target:=.collected D,args:=#[]}
def WPZ (P:Program)(n:Nat)(c:Code)(Q:Nat→Zv)(σ:Env)(w:World):Prop:=
 ∀a,SimD [] n σ a→c.wpIn (FR none) 0 P (fun e a' w'=> ∃D σ',SimD [mkD D] n σ' a'∧Q D e σ' w') a w
theorem Un {x y:Code}{Q:Nat→Zv}(h:WP P n x (VL fun σ w=>WPZ P n y Q σ w) σ w):WPZ P n (.seq x y) Q σ w:=by
 intro a hs
 refine wpIn_seq (wpIn_mono (wpIn_wide.2 (h a hs.sim)) ?_)
 rintro e a' w' ⟨σ',hs',hq⟩
 cases e<;>try exact hq.elim
 exact hq _ (.of hs')
theorem zan {x y:Code}{Q:Nat→Zv}(h:WPZ P n x (fun D=>VL fun σ w=>WPX none [mkD D] P n y (Q D) σ w) σ w):WPZ P n (.seq x y) Q σ w:=by
 intro a hs
 refine wpIn_seq (wpIn_mono (h a hs) ?_)
 rintro e a' w' ⟨D,σ',hs',hq⟩
 cases e<;>try exact hq.elim
 exact wpIn_mono (hq _ hs') (by rintro e a'' w'' ⟨σ'',h1,h2⟩;exact⟨D,σ'',h1,h2⟩)
theorem JL {c:Code}{id:Nat}{Q:Nat→Zv}(h:WPZ P n c (fun D=>VL (Q D .normal)) σ w):WPZ P n (.block id c) Q σ w:=by
 intro a hs
 refine wpIn_block (wpIn_mono (h a hs) ?_)
 rintro e a' w' ⟨D,σ',hs',hq⟩
 cases e<;>try exact hq.elim
 exact⟨D,σ',hs',hq⟩
theorem WW {g:Operand}{p:Tmp}{assign body:Code}{gf:FuncId}{lb:List Value}{Q:Nat→Zv}
 (hg:ev σ g=.func (.func gf) #[] lb.toArray) (eg: ∀args w,(callFunc gf args).run P w=.ok (.enter gf args) w)
 (h: ∀fn (tm:Array Value),(tm.size=n∧ ∀i,tm.getD i undef=σ i)→Ret P gf (.func (.yield (w.heap.size+1)) #[] #[]::lb) ((w.alloc (.deferred (some []))).alloc (.loop {state:=.ready,pending:=none,fn,tmps:=tm,params:=#[p],assign,body,defers:=w.heap.size}))
  (fun _ w2=> ∃w3,(Instr.endLoop (w.heap.size+1)).run P w2=.ok none w3∧Q w.heap.size .normal σ w3)):WPZ P n (.rangeFunc g #[p] assign body) Q σ w:=by
 intro a hs
 refine wpIn_rangeFunc ?_
 intro fn hfn
 have hs2:a.tmps.size=n∧ ∀i,a.tmps.getD i undef=σ i:=⟨hs.size,hs.get⟩
 refine⟨w.heap.size+1,[mkD w.heap.size],(w.alloc (.deferred (some []))).alloc (.loop {state:=.ready,pending:=none,fn,tmps:=a.tmps,params:=#[p],assign,body,defers:=w.heap.size}),{target:=.fn (.func gf) lb.toArray,args:=#[.func (.yield (w.heap.size+1)) #[] #[]]},(w.alloc (.deferred (some []))).alloc (.loop {state:=.ready,pending:=none,fn,tmps:=a.tmps,params:=#[p],assign,body,defers:=w.heap.size}),gf,
  #[.func (.yield (w.heap.size+1)) #[] #[]]++lb.toArray,(w.alloc (.deferred (some []))).alloc (.loop {state:=.ready,pending:=none,fn,tmps:=a.tmps,params:=#[p],assign,body,defers:=w.heap.size}),run_enterLoop_outer _ _ _ _ _,?_,fun _ _=>trivial,?_,fun h=>(by cases h),?_⟩
 ·simp only[resolve,hs.eval,hg]
  simp[go_sem]
  rfl
 ·simp[invoke,go_sem,eg]
 ·have h1:=h fn a.tmps hs2
  unfold Ret at h1
  rw[show(Value.func (.yield (w.heap.size+1)) #[] #[]::lb).toArray=#[.func (.yield (w.heap.size+1)) #[] #[]]++lb.toArray by simp]at h1
  refine CallsIn.mono (QZ h1) ?_
  rintro e w2 ⟨v,rfl,w3,h3,h4⟩
  exact⟨none,w3,h3,w.heap.size,σ,⟨hs.size,by simp[hs.defers],hs.get⟩,h4⟩
theorem QV {f:FuncId}{fn:Func}{c:Code}{args:List Value}{w:World}{R:Value→World→Prop}
 (hf:P.funcs[f]? =some fn) (hb:fn.body=some c) (hn:Nat.ble args.length fn.ntmps=true)
 (h:WPZ P fn.ntmps c (fun D e σ w=>match e with
  | .normal| .ret=> ∃w',(Instr.takeDeferred D).run P w=.ok [] w'∧YO P fn R .ret σ w'
  |_=>False) (zde args) w):Ret P f args w R:=by
 have hn':args.length≤fn.ntmps:=Nat.le_of_ble_eq_true hn
 refine callsIn_wide.1 (callsIn_of_wp_marks (n:=0) hf hb trivial (wpIn_mono (h _ ⟨?_,rfl,fun i=>?_⟩) ?_))
 ·simp;omega
 ·simp only[zde,Array.getD_eq_getD_getElem?,List.getD_eq_getElem?_getD]
  by_cases hi:i<args.length
  ·simp[Array.getElem?_append,hi]
  ·simp only[Array.getElem?_append,List.size_toArray,hi,if_false]
   rw[List.getElem?_eq_none (by omega)]
   simp only[Option.getD_none]
   rw[Array.getElem?_replicate]
   split<;>simp
 ·rintro e a' w' ⟨D,σ',hs',hq⟩
  have key: ∀w',(∃w'',(Instr.takeDeferred D).run P w'=.ok [] w''∧YO P fn R .ret σ' w'')→LeavesInM Fence.wide 0 P fn a'.tmps (fun e w'=> ∃v,e=.returned v∧R v w') a'.defers .returning w':=by
   rintro w' ⟨w'',h1,v,hr,hR⟩
   rw[hs'.defers]
   exact⟨by simp,.inl ⟨D,w'',rfl,h1,v,hr _ hs'.get,v,rfl,hR⟩⟩
  cases e<;>try exact hq.elim
  case normal=>exact key _ hq
  case ret=>exact key _ hq
def YK (b:Nat)(o:Obj):HP:=⟨fun w f=>w.heap[b]? =some o∧f b,fun⟨h1,h2⟩ hf=>⟨((hf b h2 (xj h1)).1).trans h1,(hf b h2 (xj h1)).2⟩⟩
def hard:Obj→Bool
 | .cells .. =>false
 |_=>true
variable {G:Nat→Prop}{W w':World}{As:List HP}{o o':Obj}{b:Nat}
theorem Sep.objNew (h:Sep G W As w)(hn:New w w' b o):Sep G W (YK b o::As) w':=h.push hn.ext (f:=fun i=>i=b) ⟨hn.at_,rfl⟩ (fun i hi=>by have:=hn.eq;omega)
theorem Sep.obj (h:Sep G W As w){i:Nat}(hi:As[i]? =some (YK b o)):w.heap[b]? =some o:=by
 obtain⟨f,h1,_⟩:=h.get hi;exact h1.1
theorem zaB {es:Obj}(hb:w.heap[b]? =some o)(ho:hard o=true):Chg (fun i=>i=b) w (w.putObj b o'):=by
 refine⟨rfl,rfl,rfl,by simp[World.putObj],fun i hi hne=>World.putObj_heap_other hne,?_,Nat.le_refl _⟩
 rintro i ⟨c,T,hc⟩
 have hne:i≠b:=fun e=>by subst e;rw[hb]at hc;cases hc;cases ho
 exact⟨c,T,by rw[World.putObj_heap_other hne];exact hc⟩
theorem Sep.objPut (h:Sep G W As w){i:Nat}(hi:As[i]? =some (YK b o))(ho:hard o=true):Sep G W (As.set i (YK b o')) (w.putObj b o'):=
 h.upd hi (fun f hA _=>⟨(zaB (es:=o) hA.1 ho).weak (fun j _ hj=>by subst hj;exact hA.2),f,⟨World.putObj_heap_same (xj hA.1),hA.2⟩,fun _ hb=>.inl hb⟩)
theorem VE (w:World)(o:Obj):New w (w.alloc o) w.heap.size o:=New.mk' w o
end
end
end Go.Proofs.YtbcdijeggfoabaaGreatDoor
