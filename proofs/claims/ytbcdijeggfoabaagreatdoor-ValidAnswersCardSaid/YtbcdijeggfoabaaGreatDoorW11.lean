import Derived.Test.YtbcdijeggfoabaaGreatDoorW8
import Derived.Test.YtbcdijeggfoabaaGreatDoorW7
import Derived.Test.YtbcdijeggfoabaaGreatDoorW10
set_option linter.unusedSimpArgs false
set_option linter.unusedVariables false
set_option linter.unusedSectionVars false
set_option linter.deprecated false
open Go.Proofs.Tryz renaming sizeOf140→kT,isAgg3→lT,underlying56→mT,sizeOf96→nT,underlying75→oT,sizeOf44→pT,sizeOf3→qT,isAgg140→rT,sizeOf77→sT,underlying42→tT,results48→uT,results84→vT,isAgg44→wT,isAgg42→kR,sizeOf74→lR,sizeOf106→mR,sizeOf143→nR,isAgg4→oR,isAgg56→pR,isAgg77→qR,isAgg72→rR,underlying72→sR,sizeOf42→tR,results18→uR,isAgg74→vR,results46→wR,results85→kY,zeroValue140→lY,isAgg104→mY,underlying104→nY,isAgg41→oY,sizeOf41→pY,zeroValue44→qY,isAgg96→rY,zeroValue96→sY,zeroValue77→tY,isAgg22→uY,underlying22→vY
namespace Go.Proofs.YtbcdijeggfoabaaGreatDoor
variable {G:Nat→Prop}{W w:World}{Rs:List HP}
section
set_option maxRecDepth 8000
set_option maxHeartbeats 4000000
open Go.Proofs Go.RowKit
theorem Qd {a b:Int}(h1:InR a)(h2:InR b):xY (a+b)=a+b∨(9223372036854775808≤a+b∧xY (a+b)=a+b-18446744073709551616)∨(a+b< -9223372036854775808∧xY (a+b)=a+b+18446744073709551616):=by
 unfold xY
 rw[IntKind.wrap_i64]
 omega
theorem rem_t {l:List Int}{k:Nat}{n:Int}(hk:k<l.length)(h: ¬l.getD k 0=n):Zh (l.take (k+1)) n=Zh (l.take k) n++[l.getD k 0]:=by unfold Zh;rw[List.take_getD hk,List.filter_append];simp only[List.filter_cons,List.filter_nil];rw[if_pos (by simpa using h)]
theorem rem_f {l:List Int}{k:Nat}{n:Int}(hk:k<l.length)(h:l.getD k 0=n):Zh (l.take (k+1)) n=Zh (l.take k) n:=by unfold Zh;rw[List.take_getD (d:=0) hk,List.filter_append];simp only[List.filter_cons,List.filter_nil];rw[if_neg (by simpa using h)];simp
theorem zcy {l:List Int}{n:Int}:(Zh l n).length≤l.length:=List.length_filter_le _ _
theorem zdl {fl:Fld}{cs:List Cel}{c:Cel}{arg:Int}(h1:InR c.n)(h2:InR arg):xu fl cs c 1 arg=(((!((decide (0≤c.n)&&decide (0≤arg))&&decide (IntKind.i64.wrap (c.n+arg)<0)))&&(!((decide (c.n<0)&&decide (arg<0))&&decide (0≤IntKind.i64.wrap (c.n+arg)))))&&(!(fl.floor&&decide (IntKind.i64.wrap (c.n+arg)<0)))):=by
 have hs:=XL (c.n+arg)
 have hw:xY (c.n+arg)=c.n+arg∨(9223372036854775808≤c.n+arg∧xY (c.n+arg)=c.n+arg-18446744073709551616)∨(c.n+arg< -9223372036854775808∧xY (c.n+arg)=c.n+arg+18446744073709551616):=Qd h1 h2
 unfold xu
 rw[if_pos rfl]
 show _=(((!((decide (0≤c.n)&&decide (0≤arg))&&decide (xY (c.n+arg)<0)))&&(!((decide (c.n<0)&&decide (arg<0))&&decide (0≤xY (c.n+arg)))))&&(!(fl.floor&&decide (xY (c.n+arg)<0))))
 generalize xY (c.n+arg)=s at*
 congr 1
 rw[Bool.eq_iff_iff]
 simp only[Bool.or_eq_true,Bool.and_eq_true,Bool.not_eq_true',decide_eq_true_eq,beq_iff_eq,Bool.and_eq_false_iff,decide_eq_false_iff_not,decide_eq_decide]
 omega
theorem zdh {fl:Fld}{cs:List Cel}{c:Cel}{arg:Int}:xu fl cs c 3 arg=(decide (((c.set.length:Nat):Int)<64)||decide (arg∈c.set)):=by
 unfold xu;rw[if_neg (by decide),if_pos rfl,Bool.or_comm]
theorem zdk {fl:Fld}{cs:List Cel}{c:Cel}{arg:Int}:xu fl cs c 5 arg=(decide (c.n=(ZN fl arg).frm)&&(decide ((ZN fl arg).need<0)||decide ((ZN fl arg).least≤(yy cs (ZN fl arg).need).n))):=by
 unfold xu;rw[if_neg (by decide),if_neg (by decide),if_pos rfl]
theorem may_o {fl:Fld}{cs:List Cel}{c:Cel}{op arg:Int}(h1: ¬op=1)(h3: ¬op=3)(h5: ¬op=5):xu fl cs c op arg=true:=by
 unfold xu;rw[if_neg h1,if_neg h3,if_neg h5]
theorem YT {t:Typ}{dt0:Value}(hdt0:RdS W G dt0 t.fields)(ot:t.Ok)(hS0:Sep G W Rs w):Ret Tryz.prog 47 [.agg (t.cells dt0).toArray] w (fun r w'=> ∃(v:Value),r=(v:Value)∧Sep G W ((RowE (α:=Cel) own 140 v (List.replicate t.fields.length (⟨0,[]⟩:Cel)))::Rs) w'):=by
 have hdt0s:_*48≤_:=hdt0.small
 refine zi (args:=[.agg (t.cells dt0).toArray]) Tryz.func47 rfl rfl ?_
 refine za (R0 fun _=>st (zM (v:=.agg (t.cells dt0).toArray) rfl ?_))
 intro w3 b2 e
 have c:=hS0.new e
 refine st (aS (Iz) (zb (za (R0 fun _=>st (yS rfl (st (lD dt0 rR rfl (zd (c.b0) rfl) (st (zJ (n:=t.fields.length) sR rfl hdt0.sl (st (xW (α:=Cel) (T:=140) (bytes:=32) (n:=t.fields.length) (x1:=(⟨0,[]⟩:Cel)) oT ⟨_,_,rfl,rfl,rfl,rfl,rfl,fun _ _=>⟨_,rfl,RdS.nil _ _,⟨by decide⟩⟩⟩ rfl rfl rfl (by show t.fields.length*32≤140737488355328;omega) ?_)))))))))))
 intro f b g he7 hl8 h
 let i:=Iy b t.fields.length t.fields.length
 have a:Sep G W ((RowE (α:=Cel) own 140 i (List.replicate t.fields.length (⟨0,[]⟩:Cel)))::(Blk b2 (t.cells dt0).toArray 74)::Rs) f:=c.made g h
 have d:=a.r0
 have hr12s:_*32≤_:=d.2
 refine st (aS i (zb (zk (zG Tryz.results47 (show _=(i:Value)from rfl) ?_))))
 refine⟨i,rfl,(a.s2_a)⟩
theorem JE {vl:Value}{l:List Int}(hl:RdS W G vl l){n:Int}(hn:InR n)(hS0:Sep G W Rs w)(hfew:l.length≤1000):Ret Tryz.prog 112 [vl,.int .i64 (n)] w (fun r w'=> ∃(v:Value),r=(v:Value)∧Sep G W ((RowE (α:=Int) own 3 v (Zh l n))::Rs) w'):=by
 have hls:_*8≤_:=hl.small
 refine zi (args:=[vl,Iv n]) Tryz.func112 rfl rfl ?_
 refine za (R0 fun _=>st (aS (Iz) (zb (za (R0 fun _=>st (aS (Iz) (zb (za (za (R0 fun _=>st (aS (Iv 0) (zb (zn ?_)))))))))))))
 have E:Sep G W ((RowE (α:=Int) own 3 (Iz) ([]:List Int))::Rs) w:=hS0.rowNil own 3
 refine zZ (fun mq σ J=> ∃(k:Nat) (vo:Value) (ρ:Env),mq=l.length-k∧σ=yd ρ [(0,vl),(1,Iv n),(6,Iw k),(5,vo)]∧(k≤l.length)∧Sep G W ((RowE (α:=Int) own 3 vo (Zh (l.take k) n))::Rs) J) ⟨0,(Iz),_,rfl,sSf,Nat.zero_le _,E⟩ ?_
 rintro m3 σ4 w2 ⟨k,vo,ρl1,rfl,rfl,hkk,e⟩
 have F:=e.r0
 have hr6s:_*8≤_:=F.2
 have hrl:=zcy (l:=l.take k) (n:=n)
 rw[List.length_take]at hrl
 refine za (za (R0 fun _=>st (mV (Iw k) (st (mV vl (st (zJ (n:=l.length) tT rfl hl.sl (st (zC (k:=.i64) (a:=((k:Nat):Int)) (b:=((l.length:Nat):Int)) rfl rfl (zb ?_))))))))))
 cases h:decide (((k:Nat):Int)<((l.length:Nat):Int))
 have h:=fD h
 have H:k=l.length:=by omega
 rw[H,List.take_length]at e
 refine ze rfl (ya (zS (za (R0 fun _=>st (mV vo (st (aS vo (zb (zk (zG Tryz.results112 (show _=(vo:Value)from rfl) ?_))))))))))
 refine⟨vo,rfl,e⟩
 have h:=tD h
 refine zg rfl (zl (za (zn (za (R0 fun _=>st (mV vl (st (mV (Iw k) ?_))))))))
 have I:k<l.length:=bo
 refine st (zj (k:=1) (i:=k) tT qT rfl hl.sl rfl I ?_)
 have f:k<l.length:=bo
 obtain⟨m,u⟩:=hl.intD f
 have p:=e.cells m (hl.foot (ne_of_lt f))
 refine st (lD (Iv ((l.getD k 0))) lT rfl (p.get (j:=0) rfl) (st (mV (Iv n) (st (yn (k:=.i64) (a:=(l.getD k 0)) (b:=n) rfl rfl (zb ?_))))))
 cases d: !decide ((l.getD k 0)=n)
 have d:=zQ d
 refine ze rfl (zl (R0 fun _=>st (mV (Iw k) ?_)))
 have x:InR ((k+1:Nat):Int):=bo
 refine st (zP (r:=((k+1:Nat):Int)) (k:=.i64) (a:=((k:Nat):Int)) (b:=1) rfl rfl (by rw[show(((k:Nat):Int)+1:Int)=((k+1:Nat):Int)from bo];exact zF x) (st (aS (Iw (k+1)) (zb ?_))))
 have y:(Zh (l.take (k+1)) n)=(Zh (l.take k) n):=(rem_f om d)
 rw[←y]at e
 exact⟨_,by omega,k+1,vo,_,rfl,sSf,by omega,e⟩
 have d:=zz d
 refine zg rfl (R0 fun _=>st (mV vo (st (mV vl (st (mV (Iw k) ?_))))))
 have z:k<l.length:=bo
 refine st (zj (k:=1) (i:=k) tT qT rfl hl.sl rfl z ?_)
 have q:=e.cells m (hl.foot (ne_of_lt f))
 refine st (lD (Iv ((l.getD k 0))) lT rfl (q.get (j:=0) rfl) (st (zI (k:=1) (parts':=[(0,Iv ((l.getD k 0)))]) (c:=#[Iv ((l.getD k 0))]) tT qT Tryz.zeroValue3 dc rfl kr ?_)))
 intro w20 b19 A
 have o:=e.new A
 have s:=o.b0
 refine st (yj (src:=own) (bytes:=8) (x1:=(l.getD k 0)) ((o.s2_b).emp1) VR rfl rfl s (fun _ _ _=>(show _ from⟨rfl,u⟩)) yqb rfl ?_)
 intro t w22 g
 have B:=g.r0
 have hr28s:_*8≤_:=B.2
 refine st (aS t (zb (R0 fun _=>st (mV (Iw k) ?_))))
 have C:InR ((k+1:Nat):Int):=bo
 refine st (zP (r:=((k+1:Nat):Int)) (k:=.i64) (a:=((k:Nat):Int)) (b:=1) rfl rfl (by rw[show(((k:Nat):Int)+1:Int)=((k+1:Nat):Int)from bo];exact zF C) (st (aS (Iw (k+1)) (zb ?_))))
 have D:(Zh (l.take (k+1)) n)=(Zh (l.take k) n)++[(l.getD k 0)]:=(rem_t om d)
 rw[←D]at g
 exact⟨_,by omega,k+1,t,_,rfl,sSf,by omega,g⟩
theorem zcQ {vl:Value}{l:List Int}(hl:RdS W G vl l){n:Int}(hn:InR n)(hS0:Sep G W Rs w):Ret Tryz.prog 85 [vl,.int .i64 (n)] w (fun r w'=>r=(.bool (decide (n∈l)):Value)∧Sep G W Rs w'):=by
 have hls:_*8≤_:=hl.small
 refine zi (args:=[vl,Iv n]) Tryz.func85 rfl rfl ?_
 refine za (R0 fun _=>st (aS (.bool false) (zb (za (za (R0 fun _=>st (aS (Iv 0) (zb (zn (zZ (fun mq σ q=> ∃(k:Nat) (ρ:Env),mq=l.length-k∧σ=yd ρ [(0,vl),(1,Iv n),(5,Iw k)]∧(k≤l.length)∧(∀i,i<k→ ¬l.getD i 0=n)∧Sep G W Rs q) ⟨0,_,rfl,sSf,Nat.zero_le _,(fun i h=>absurd h (Nat.not_lt_zero i)),hS0⟩ ?_))))))))))
 rintro m2 σ3 w1 ⟨k,ρl1,rfl,rfl,hkk,hm,d⟩
 refine za (za (R0 fun _=>st (mV (Iw k) (st (mV vl (st (zJ (n:=l.length) tT rfl hl.sl (st (zC (k:=.i64) (a:=((k:Nat):Int)) (b:=((l.length:Nat):Int)) rfl rfl (zb ?_))))))))))
 cases e:decide (((k:Nat):Int)<((l.length:Nat):Int))
 have e:=fD e
 refine ze rfl (ya (zS (za (R0 fun _=>st (aS (.bool false) (zb (zk (zG kY (show _=(.bool false:Value)from rfl) ?_))))))))
 refine⟨?_,d⟩
 rw[decide_eq_false (Uz (fun i hi=>hm i (by omega)))]
 have e:=tD e
 refine zg rfl (zl (za (zn (za (R0 fun _=>st (mV vl (st (mV (Iw k) ?_))))))))
 have p:k<l.length:=bo
 refine st (zj (k:=1) (i:=k) tT qT rfl hl.sl rfl p ?_)
 have f:k<l.length:=bo
 obtain⟨g,hxe7⟩:=hl.intD f
 have m:=d.cells g (hl.foot (ne_of_lt f))
 refine st (lD (Iv ((l.getD k 0))) lT rfl (m.get (j:=0) rfl) (st (mV (Iv n) (st (zR (k:=.i64) (a:=(l.getD k 0)) (b:=n) rfl rfl (zb ?_))))))
 cases c:decide ((l.getD k 0)=n)
 have c:=fD c
 refine ze rfl (zl (R0 fun _=>st (mV (Iw k) ?_)))
 have o:InR ((k+1:Nat):Int):=bo
 refine st (zP (r:=((k+1:Nat):Int)) (k:=.i64) (a:=((k:Nat):Int)) (b:=1) rfl rfl (by rw[show(((k:Nat):Int)+1:Int)=((k+1:Nat):Int)from bo];exact zF o) (st (aS (Iw (k+1)) (zb ?_))))
 exact⟨_,by omega,k+1,_,rfl,sSf,by omega,(yL hm c),d⟩
 have c:=tD c
 refine zg rfl (za (R0 fun _=>st (aS (.bool true) (zb (zk (zG kY (show _=(.bool true:Value)from rfl) ?_))))))
 refine⟨?_,d⟩
 rw[decide_eq_true (zbe (by omega) c)]
theorem Wk {t:Typ}{dt0:Value}(hdt0:RdS W G dt0 t.fields)(ot:t.Ok){vc:Value}{c:List Cel}(hc:RdS W G vc c){fi:Int}(hfi:InR fi){op:Int}(hop:InR op){arg:Int}(harg:InR arg)(hS0:Sep G W Rs w)(hask:Yw t c fi op arg):Ret Tryz.prog 48 [.agg (t.cells dt0).toArray,vc,.int .i64 (fi),.int .i64 (op),.int .i64 (arg)] w (fun r w'=>r=(.int .i64 ((yH t c fi op arg)):Value)∧Sep G W Rs w'):=by
 let ci:=(((t.fields.getD fi.toNat default).moves).getD arg.toNat default).cells
 let ch:=zN W (sb dt0) (so dt0+fi.toNat*4+3)
 let cj:=(t.fields.getD fi.toNat default).cells ch
 let ce:=zN W (sb vc) (so vc+fi.toNat*2+1)
 let ck:=(c.getD fi.toNat default).cells ce
 have hdt0s:_*48≤_:=hdt0.small
 have hcs:_*32≤_:=hc.small
 have ha0:=hask.1
 have ha1:=hask.2.1
 have ha2:=hask.2.2.1
 refine zi (args:=[.agg (t.cells dt0).toArray,vc,Iv fi,Iv op,Iv arg]) Tryz.func48 rfl rfl ?_
 refine za (R0 fun _=>st (zM (v:=.agg (t.cells dt0).toArray) rfl ?_))
 intro w3 b2 cg
 have aK:=hS0.new cg
 refine st (aS (Iv 0) (zb (za (R0 fun _=>st (yS rfl (st (lD dt0 rR rfl (zd (aK.b0) rfl) (st (mV (Iv fi) ?_)))))))))
 have hi5:fi.toNat<t.fields.length:=bo
 refine st (zr (k:=4) (i:=fi) sR mR rfl hdt0.sl rfl ⟨by omega,by omega⟩ ?_)
 have bU:fi.toNat<t.fields.length:=bo
 obtain⟨bW,x,hoke6⟩:=hdt0.fldD bU
 have hsm8:((t.fields.getD fi.toNat default).moves).length*32≤140737488355328:=x.small
 have bX:=aK.cells bW (hdt0.foot (ne_of_lt bU))
 refine st (zh (k:=4) Tryz.isAgg106 mR rfl rfl bX (st (zq Tryz.zeroValue106 ?_)))
 intro w12 af bY
 have aL:=aK.new bY
 refine stn (zp (v:=.agg cj.toArray) (c':=cj.toArray) mR rfl rfl (aL.b0) (zX ⟨rfl,rfl,rfl,x.sl.one,trivial⟩) yqc rfl ?_)
 intro w14 bZ
 have aM:=aL.pt0 bZ
 refine zb (za (R0 fun _=>st (mV vc (st (mV (Iv fi) ?_)))))
 have hi17:fi.toNat<c.length:=bo
 refine st (zr (k:=2) (i:=fi) oT kT rfl hc.sl rfl ⟨by omega,by omega⟩ ?_)
 have aN:fi.toNat<c.length:=bo
 obtain⟨aU,z,ag⟩:=hc.celD aN
 have hsm20:((c.getD fi.toNat default).set).length*8≤140737488355328:=z.small
 have aV:=aM.cells aU (hc.foot (ne_of_lt aN))
 refine st (zh (k:=2) rT kT rfl rfl aV (st (zq lY ?_)))
 intro w24 U ca
 have aO:=aM.new ca
 refine stn (zp (v:=.agg ck.toArray) (c':=ck.toArray) kT rfl rfl (aO.b0) (zX ⟨rfl,z.sl.one,trivial⟩) yqc rfl ?_)
 intro w26 cb
 have g:=aO.pt0 cb
 refine zb (za (R0 fun _=>st (aS (.bool true) (zb (za (za (R0 fun _=>st (mV (Iv op) (zb (zn (za (R0 fun _=>st (zR (k:=.i64) (a:=op) (b:=1) rfl rfl (st (aS (.bool (decide (op=1))) (zb ?_))))))))))))))))
 cases B:decide (op=1)
 have hc29r:=B
 have B:=fD B
 refine ze rfl (za (R0 fun _=>st (zR (k:=.i64) (a:=op) (b:=3) rfl rfl (st (aS (.bool (decide (op=3))) (zb ?_))))))
 cases C:decide (op=3)
 have hc30r:=C
 have C:=fD C
 refine ze rfl (za (R0 fun _=>st (zR (k:=.i64) (a:=op) (b:=5) rfl rfl (st (aS (.bool (decide (op=5))) (zb ?_))))))
 cases y:decide (op=5)
 have hc31r:=y
 have y:=fD y
 refine ze rfl (zl (za (za (R0 fun _=>st (mV (.bool true) (zb (zg rfl (za (R0 fun _=>st (aS (Iv 0) (zb (zk (zG uT (show _=(Iv 0:Value)from rfl) ?_)))))))))))))
 refine⟨?_,(g.s3_)⟩
 congr 1
 have o:xu (xi t fi) c (yy c fi) op arg=true:=may_o om om om
 unfold yH
 rw[o];rfl
 have y:=tD y
 have bV:=hask.2.2.2.2 y
 have ha51:arg<(t.fields.getD fi.toNat default).moves.length:=bV.2.1
 have ha52:((t.fields.getD fi.toNat default).moves.getD arg.toNat default).need<0∨((t.fields.getD fi.toNat default).moves.getD arg.toNat default).need<c.length:=bV.2.2
 refine zg rfl (za (R0 fun _=>st (yF rfl (st (lD ch mY rfl (zd (g.b1) rfl) (st (mV (Iv arg) ?_)))))))
 have hi33:arg.toNat<((t.fields.getD fi.toNat default).moves).length:=bo
 refine st (zr (k:=4) (i:=arg) nY nR rfl x.sl rfl ⟨by omega,by omega⟩ ?_)
 have aP:arg.toNat<((t.fields.getD fi.toNat default).moves).length:=bo
 obtain⟨aW,hoke34⟩:=x.mvD aP
 have aX:=g.cells aW (x.foot (ne_of_lt aP))
 refine st (zh (k:=4) Tryz.isAgg143 nR rfl rfl aX (st (zq Tryz.zeroValue143 ?_)))
 intro w39 X cc
 have aQ:=g.new cc
 refine stn (zp (v:=.agg ci.toArray) (c':=ci.toArray) nR rfl rfl (aQ.b0) (zX ⟨rfl,rfl,rfl,rfl,trivial⟩) yqc rfl ?_)
 intro w41 cd
 refine zb ?_
 refine WD4 (WF [fun vals wq=>Sep G W ((Blk X ci.toArray 143)::(Blk U ck.toArray 140)::(Blk af cj.toArray 106)::(Blk b2 (t.cells dt0).toArray 74)::Rs) wq]) (AF [Vl 0 (Ix U 0),Vl 1 (Iv ((c.getD fi.toNat default).n)),Vl 2 (Ix X 0),Vl 3 (Iv ((((t.fields.getD fi.toNat default).moves).getD arg.toNat default).frm)),Vl 4 (.bool (decide (((c.getD fi.toNat default).n)=((((t.fields.getD fi.toNat default).moves).getD arg.toNat default).frm)))),Vl 5 (.bool (decide (((c.getD fi.toNat default).n)=((((t.fields.getD fi.toNat default).moves).getD arg.toNat default).frm)))),Vl 6 (if(decide (((c.getD fi.toNat default).n)=((((t.fields.getD fi.toNat default).moves).getD arg.toNat default).frm)))=true then Ix X 2 else undef),Vl 7 (if(decide (((c.getD fi.toNat default).n)=((((t.fields.getD fi.toNat default).moves).getD arg.toNat default).frm)))=true then Iv ((((t.fields.getD fi.toNat default).moves).getD arg.toNat default).need)else undef),Vl 8 (if(decide (((c.getD fi.toNat default).n)=((((t.fields.getD fi.toNat default).moves).getD arg.toNat default).frm)))=true then .bool (decide (((((t.fields.getD fi.toNat default).moves).getD arg.toNat default).need)<0))else undef),Vl 9 (if(decide (((c.getD fi.toNat default).n)=((((t.fields.getD fi.toNat default).moves).getD arg.toNat default).frm)))=true then .bool (decide (((((t.fields.getD fi.toNat default).moves).getD arg.toNat default).need)<0))else undef),Vl 10 (if((decide (((c.getD fi.toNat default).n)=((((t.fields.getD fi.toNat default).moves).getD arg.toNat default).frm)))=true)∧(decide (((((t.fields.getD fi.toNat default).moves).getD arg.toNat default).need)<0))=false then vc else undef),Vl 11 (if((decide (((c.getD fi.toNat default).n)=((((t.fields.getD fi.toNat default).moves).getD arg.toNat default).frm)))=true)∧(decide (((((t.fields.getD fi.toNat default).moves).getD arg.toNat default).need)<0))=false then Ix X 2 else undef),Vl 12 (if((decide (((c.getD fi.toNat default).n)=((((t.fields.getD fi.toNat default).moves).getD arg.toNat default).frm)))=true)∧(decide (((((t.fields.getD fi.toNat default).moves).getD arg.toNat default).need)<0))=false then Iv ((((t.fields.getD fi.toNat default).moves).getD arg.toNat default).need)else undef),Vl 13 (if((decide (((c.getD fi.toNat default).n)=((((t.fields.getD fi.toNat default).moves).getD arg.toNat default).frm)))=true)∧(decide (((((t.fields.getD fi.toNat default).moves).getD arg.toNat default).need)<0))=false then Ix (sb vc) (so vc+(((((t.fields.getD fi.toNat default).moves).getD arg.toNat default).need).toNat)*2)else undef),Vl 14 (if((decide (((c.getD fi.toNat default).n)=((((t.fields.getD fi.toNat default).moves).getD arg.toNat default).frm)))=true)∧(decide (((((t.fields.getD fi.toNat default).moves).getD arg.toNat default).need)<0))=false then Ix (sb vc) (so vc+(((((t.fields.getD fi.toNat default).moves).getD arg.toNat default).need).toNat)*2)else undef),Vl 15 (if((decide (((c.getD fi.toNat default).n)=((((t.fields.getD fi.toNat default).moves).getD arg.toNat default).frm)))=true)∧(decide (((((t.fields.getD fi.toNat default).moves).getD arg.toNat default).need)<0))=false then Iv ((c.getD (((((t.fields.getD fi.toNat default).moves).getD arg.toNat default).need).toNat) default).n)else undef),Vl 16 (if((decide (((c.getD fi.toNat default).n)=((((t.fields.getD fi.toNat default).moves).getD arg.toNat default).frm)))=true)∧(decide (((((t.fields.getD fi.toNat default).moves).getD arg.toNat default).need)<0))=false then Ix X 3 else undef),Vl 17 (if((decide (((c.getD fi.toNat default).n)=((((t.fields.getD fi.toNat default).moves).getD arg.toNat default).frm)))=true)∧(decide (((((t.fields.getD fi.toNat default).moves).getD arg.toNat default).need)<0))=false then Iv ((((t.fields.getD fi.toNat default).moves).getD arg.toNat default).least)else undef),Vl 18 (if((decide (((c.getD fi.toNat default).n)=((((t.fields.getD fi.toNat default).moves).getD arg.toNat default).frm)))=true)∧(decide (((((t.fields.getD fi.toNat default).moves).getD arg.toNat default).need)<0))=false then .bool (decide (((((t.fields.getD fi.toNat default).moves).getD arg.toNat default).least)≤((c.getD (((((t.fields.getD fi.toNat default).moves).getD arg.toNat default).need).toNat) default).n)))else undef),Vl 19 (if(decide (((c.getD fi.toNat default).n)=((((t.fields.getD fi.toNat default).moves).getD arg.toNat default).frm)))=true then .bool ((decide (((((t.fields.getD fi.toNat default).moves).getD arg.toNat default).need)<0))||(decide (((((t.fields.getD fi.toNat default).moves).getD arg.toNat default).least)≤((c.getD (((((t.fields.getD fi.toNat default).moves).getD arg.toNat default).need).toNat) default).n))))else undef),Vl 20 (.bool ((decide (((c.getD fi.toNat default).n)=((((t.fields.getD fi.toNat default).moves).getD arg.toNat default).frm)))&&((decide (((((t.fields.getD fi.toNat default).moves).getD arg.toNat default).need)<0))||(decide (((((t.fields.getD fi.toNat default).moves).getD arg.toNat default).least)≤((c.getD (((((t.fields.getD fi.toNat default).moves).getD arg.toNat default).need).toNat) default).n)))))),Vl 21 (.bool ((decide (((c.getD fi.toNat default).n)=((((t.fields.getD fi.toNat default).moves).getD arg.toNat default).frm)))&&((decide (((((t.fields.getD fi.toNat default).moves).getD arg.toNat default).need)<0))||(decide (((((t.fields.getD fi.toNat default).moves).getD arg.toNat default).least)≤((c.getD (((((t.fields.getD fi.toNat default).moves).getD arg.toNat default).need).toNat) default).n))))))]) [[],[0],[],[2],(rg 4),(rg 5),(rg 6),(rg 7),(rg 8),(rg 9),(rg 10),(rg 10),[0,1,2,3,4,5,6,7,8,9,11],(rg 13),(rg 14),(rg 15),(rg 10),[0,1,2,3,4,5,6,7,8,9,16],(rg 18),(rg 19),(rg 20),(rg 21)] [] [(0,0),(0,0),(0,0),(0,0),(0,0),(0,0),(0,0),(0,0),(0,0),(0,0),(0,0),(0,0),(0,0),(0,0),(0,0),(0,0),(0,0),(0,0),(0,0),(0,0),(0,0),(0,0)] (aQ.pt0 cd) ⟨fun _ _ _ _ _ _ _=>obl rfl (xm rfl dR),ob1 0 fun _ _ (aY:Sep _ _ _ _) aZ=>obl rfl (lD (Iv ((c.getD fi.toNat default).n)) lT (aZ 0 dc) (zd (aY.b1) rfl) dR),fun _ _ _ _ _ _ _=>obl rfl (Um rfl dR),ob1 0 fun _ _ (ba:Sep _ _ _ _) bb=>obl rfl (lD (Iv ((((t.fields.getD fi.toNat default).moves).getD arg.toNat default).frm)) lT (bb 2 dc) (zd (ba.b0) rfl) dR),ob1 0 fun _ _ _ ai=>obl rfl (zR (k:=.i64) (a:=(c.getD fi.toNat default).n) (b:=(((t.fields.getD fi.toNat default).moves).getD arg.toNat default).frm) (ai 1 dc) (ai 3 dc) dR),fun _ _ _ _ _ _ bc=>obl rfl (yi (v:=.bool (decide (((c.getD fi.toNat default).n)=((((t.fields.getD fi.toNat default).moves).getD arg.toNat default).frm)))) (bc 4 dc) dR),?_,?_,?_,?_,?_,?_,?_,?_,?_,?_,?_,?_,?_,?_,?_,fun _ _ _ _ _ _ bd=>obl rfl (zY (v:=.bool ((decide (((c.getD fi.toNat default).n)=((((t.fields.getD fi.toNat default).moves).getD arg.toNat default).frm)))&&((decide (((((t.fields.getD fi.toNat default).moves).getD arg.toNat default).need)<0))||(decide (((((t.fields.getD fi.toNat default).moves).getD arg.toNat default).least)≤((c.getD (((((t.fields.getD fi.toNat default).moves).getD arg.toNat default).need).toNat) default).n)))))) (bd 20 dc) dR),trivial⟩ ?_
 refine fun _ _ _ _ _ _ be=>(yr rfl rfl (be 5 dc) (fun K=>?_) (fun K=>fun d e _=>⟨trivial,e.trans (if_neg K).symm⟩))
 have hl315:=tD K
 exact ZW rfl (fun d e _=>⟨rfl,e.trans (if_pos K).symm⟩)
 refine ob1 0 fun _ _ (bf:Sep _ _ _ _) aj=>(yr rfl rfl (aj 5 dc) (fun D=>?_) (fun D=>fun d e _=>⟨trivial,e.trans (if_neg D).symm⟩))
 have hl326:=tD D
 exact lD (Iv ((((t.fields.getD fi.toNat default).moves).getD arg.toNat default).need)) lT (Eq.trans (aj 6 dc) (if_pos D)) (zd (bf.b0) rfl) (fun d e _=>⟨rfl,e.trans (if_pos D).symm⟩)
 refine ob1 0 fun _ _ _ ak=>(yr rfl rfl (ak 5 dc) (fun E=>?_) (fun E=>fun d e _=>⟨trivial,e.trans (if_neg E).symm⟩))
 have hl337:=tD E
 exact zC (k:=.i64) (a:=(((t.fields.getD fi.toNat default).moves).getD arg.toNat default).need) (b:=0) (Eq.trans (ak 7 dc) (if_pos E)) rfl (fun d e _=>⟨rfl,e.trans (if_pos E).symm⟩)
 refine fun _ _ _ _ _ _ al=>(yr rfl rfl (al 5 dc) (fun F=>?_) (fun F=>fun d e _=>⟨trivial,e.trans (if_neg F).symm⟩))
 have hl347:=tD F
 exact yi (v:=.bool (decide (((((t.fields.getD fi.toNat default).moves).getD arg.toNat default).need)<0))) (Eq.trans (al 8 dc) (if_pos F)) (fun d e _=>⟨rfl,e.trans (if_pos F).symm⟩)
 refine fun _ _ _ _ _ _ bg=>(xG rfl rfl (bg 9 dc) (fun H=>?_) (fun H=>fun d e _=>⟨trivial,e.trans (if_neg H).symm⟩))
 have hl356:=tD H.1
 have hl357:=fD H.2
 exact mV vc (fun d e _=>⟨rfl,e.trans (if_pos H).symm⟩)
 refine fun _ _ _ _ _ _ bh=>(xG rfl rfl (bh 9 dc) (fun I=>?_) (fun I=>fun d e _=>⟨trivial,e.trans (if_neg I).symm⟩))
 have hl366:=tD I.1
 have hl367:=fD I.2
 exact ZW rfl (fun d e _=>⟨rfl,e.trans (if_pos I).symm⟩)
 refine ob1 0 fun _ _ (bi:Sep _ _ _ _) am=>(xG rfl rfl (am 9 dc) (fun p=>?_) (fun p=>fun d e _=>⟨trivial,e.trans (if_neg p).symm⟩))
 have hl378:=tD p.1
 have hl379:=fD p.2
 exact lD (Iv ((((t.fields.getD fi.toNat default).moves).getD arg.toNat default).need)) lT (Eq.trans (am 11 dc) (if_pos ⟨p.1,p.2⟩)) (zd (bi.b0) rfl) (fun d e _=>⟨rfl,e.trans (if_pos p).symm⟩)
 refine ob1 0 fun _ _ _ Y=>(xG rfl rfl (Y 9 dc) (fun h=>?_) (fun h=>fun d e _=>⟨trivial,e.trans (if_neg h).symm⟩))
 have hl391:=tD h.1
 have hl392:=fD h.2
 have hi393:((((t.fields.getD fi.toNat default).moves).getD arg.toNat default).need).toNat<c.length:=bo
 exact zr (k:=2) (i:=(((t.fields.getD fi.toNat default).moves).getD arg.toNat default).need) oT kT (Eq.trans (Y 10 dc) (if_pos ⟨h.1,h.2⟩)) hc.sl (Eq.trans (Y 12 dc) (if_pos ⟨h.1,h.2⟩)) ⟨by omega,by omega⟩ (fun d e _=>⟨rfl,e.trans (if_pos h).symm⟩)
 refine fun _ _ _ _ _ _ an=>(xG rfl rfl (an 9 dc) (fun q=>?_) (fun q=>fun d e _=>⟨trivial,e.trans (if_neg q).symm⟩))
 have hl403:=tD q.1
 have hl404:=fD q.2
 exact xm (Eq.trans (an 13 dc) (if_pos ⟨q.1,q.2⟩)) (fun d e _=>⟨rfl,e.trans (if_pos q).symm⟩)
 refine ob1 0 fun _ _ (bj:Sep _ _ _ _) ao=>(xG rfl rfl (ao 9 dc) (fun s=>?_) (fun s=>fun d e _=>⟨trivial,e.trans (if_neg s).symm⟩))
 have hl415:=tD s.1
 have hl416:=fD s.2
 have ap:((((t.fields.getD fi.toNat default).moves).getD arg.toNat default).need).toNat<c.length:=bo
 obtain⟨aR,ah,hoke417⟩:=hc.celD ap
 have hsm419:((c.getD (((((t.fields.getD fi.toNat default).moves).getD arg.toNat default).need).toNat) default).set).length*8≤140737488355328:=ah.small
 have aT:=bj.cells aR (hc.foot (ne_of_lt ap))
 exact lD (Iv ((c.getD (((((t.fields.getD fi.toNat default).moves).getD arg.toNat default).need).toNat) default).n)) lT (Eq.trans (ao 14 dc) (if_pos ⟨s.1,s.2⟩)) (aT.get (j:=0) rfl) (fun d e _=>⟨rfl,e.trans (if_pos s).symm⟩)
 refine fun _ _ _ _ _ _ bk=>(xG rfl rfl (bk 9 dc) (fun J=>?_) (fun J=>fun d e _=>⟨trivial,e.trans (if_neg J).symm⟩))
 have hl429:=tD J.1
 have hl430:=fD J.2
 exact Uc rfl (fun d e _=>⟨rfl,e.trans (if_pos J).symm⟩)
 refine ob1 0 fun _ _ (bl:Sep _ _ _ _) aq=>(xG rfl rfl (aq 9 dc) (fun u=>?_) (fun u=>fun d e _=>⟨trivial,e.trans (if_neg u).symm⟩))
 have hl441:=tD u.1
 have hl442:=fD u.2
 exact lD (Iv ((((t.fields.getD fi.toNat default).moves).getD arg.toNat default).least)) lT (Eq.trans (aq 16 dc) (if_pos ⟨u.1,u.2⟩)) (zd (bl.b0) rfl) (fun d e _=>⟨rfl,e.trans (if_pos u).symm⟩)
 refine ob1 0 fun _ _ _ Z=>(xG rfl rfl (Z 9 dc) (fun m=>?_) (fun m=>fun d e _=>⟨trivial,e.trans (if_neg m).symm⟩))
 have hl454:=tD m.1
 have hl455:=fD m.2
 exact yR (k:=.i64) (a:=(c.getD (((((t.fields.getD fi.toNat default).moves).getD arg.toNat default).need).toNat) default).n) (b:=(((t.fields.getD fi.toNat default).moves).getD arg.toNat default).least) (Eq.trans (Z 15 dc) (if_pos ⟨m.1,m.2⟩)) (Eq.trans (Z 17 dc) (if_pos ⟨m.1,m.2⟩)) (fun d e _=>⟨rfl,e.trans (if_pos m).symm⟩)
 refine fun _ _ _ _ _ _ aa=>(yr rfl rfl (aa 5 dc) (fun A=>?_) (fun A=>fun d e _=>⟨trivial,e.trans (if_neg A).symm⟩))
 have hl466:=tD A
 exact zt (b:=decide (((((t.fields.getD fi.toNat default).moves).getD arg.toNat default).need)<0)) (b':=decide (((((t.fields.getD fi.toNat default).moves).getD arg.toNat default).least)≤((c.getD (((((t.fields.getD fi.toNat default).moves).getD arg.toNat default).need).toNat) default).n))) (Eq.trans (aa 9 dc) (if_pos A)) (fun hbp=>(Eq.trans (aa 18 dc) (if_pos ⟨A,hbp⟩))) (fun d e _=>⟨rfl,e.trans (if_pos A).symm⟩)
 exact fun _ _ _ _ _ _ ar=>obl rfl (zy (b:=decide (((c.getD fi.toNat default).n)=((((t.fields.getD fi.toNat default).moves).getD arg.toNat default).frm))) (b':=(decide (((((t.fields.getD fi.toNat default).moves).getD arg.toNat default).need)<0))||(decide (((((t.fields.getD fi.toNat default).moves).getD arg.toNat default).least)≤((c.getD (((((t.fields.getD fi.toNat default).moves).getD arg.toNat default).need).toNat) default).n)))) (ar 5 dc) (fun hbp=>(Eq.trans (ar 19 dc) (if_pos hbp))) dR)
 intro vals w482 bm bn
 have au:Sep _ _ _ _:=bm
 have cf:=bn 21 dc
 refine zT (kv:=[(0,.agg (t.cells dt0).toArray),(1,vc),(2,Iv fi),(3,Iv op),(4,Iv arg),(5,Ix b2 0),(10,Iv 0),(16,Ix b2 0),(17,dt0),(18,Iv fi),(19,Ix (sb dt0) (so dt0+fi.toNat*4)),(20,.agg ((t.fields.getD fi.toNat default).cells (zN W (sb dt0) (so dt0+fi.toNat*4+3))).toArray),(11,Ix af 0),(21,vc),(22,Iv fi),(23,Ix (sb vc) (so vc+fi.toNat*2)),(24,.agg ((c.getD fi.toNat default).cells (zN W (sb vc) (so vc+fi.toNat*2+1))).toArray),(12,Ix U 0),(13,.bool ((decide (((c.getD fi.toNat default).n)=((((t.fields.getD fi.toNat default).moves).getD arg.toNat default).frm)))&&((decide (((((t.fields.getD fi.toNat default).moves).getD arg.toNat default).need)<0))||(decide (((((t.fields.getD fi.toNat default).moves).getD arg.toNat default).least)≤((c.getD (((((t.fields.getD fi.toNat default).moves).getD arg.toNat default).need).toNat) default).n)))))),(25,Iv op),(27,.bool false),(26,.bool false),(68,.bool false),(67,.bool false),(80,.bool true),(79,.bool true),(81,Ix af 3),(82,(zN W (sb dt0) (so dt0+fi.toNat*4+3))),(83,Iv arg),(84,Ix (sb (zN W (sb dt0) (so dt0+fi.toNat*4+3))) (so (zN W (sb dt0) (so dt0+fi.toNat*4+3))+arg.toNat*4)),(85,.agg ((((t.fields.getD fi.toNat default).moves).getD arg.toNat default).cells).toArray),(15,Ix X 0)]) ⟨rfl,rfl,rfl,rfl,rfl,rfl,rfl,rfl,rfl,rfl,rfl,rfl,rfl,rfl,rfl,rfl,rfl,rfl,(by exact cf),rfl,rfl,rfl,rfl,rfl,rfl,rfl,rfl,rfl,rfl,rfl,rfl,rfl,trivial⟩ (fun ρw482=>?_)
 refine zb (za (za (R0 fun _=>st (mV (.bool ((decide (((c.getD fi.toNat default).n)=((((t.fields.getD fi.toNat default).moves).getD arg.toNat default).frm)))&&((decide (((((t.fields.getD fi.toNat default).moves).getD arg.toNat default).need)<0))||(decide (((((t.fields.getD fi.toNat default).moves).getD arg.toNat default).least)≤((c.getD (((((t.fields.getD fi.toNat default).moves).getD arg.toNat default).need).toNat) default).n)))))) (zb ?_)))))
 cases L:(decide (((c.getD fi.toNat default).n)=((((t.fields.getD fi.toNat default).moves).getD arg.toNat default).frm)))&&((decide (((((t.fields.getD fi.toNat default).moves).getD arg.toNat default).need)<0))||(decide (((((t.fields.getD fi.toNat default).moves).getD arg.toNat default).least)≤((c.getD (((((t.fields.getD fi.toNat default).moves).getD arg.toNat default).need).toNat) default).n))))
 have R:=L
 try simp only[zf]at L
 refine ze rfl (zl (za (R0 fun _=>st (aS (Iv 10) (zb (zk (zG uT (show _=(Iv 10:Value)from rfl) ?_)))))))
 refine⟨?_,(au.s4_)⟩
 congr 1
 have o:xu (xi t fi) c (yy c fi) op arg=false:=by rw[y];exact(zdk).trans R
 unfold yH
 rw[o];rfl
 have R:=L
 try simp only[zf]at L
 refine zg rfl (za (R0 fun _=>st (aS (Iv 0) (zb (zk (zG uT (show _=(Iv 0:Value)from rfl) ?_))))))
 refine⟨?_,(au.s4_)⟩
 congr 1
 have o:xu (xi t fi) c (yy c fi) op arg=true:=by rw[y];exact(zdk).trans R
 unfold yH
 rw[o];rfl
 have C:=tD C
 refine zg rfl (zA kr (st (xc rfl (st (lD ce kR rfl (zd (g.b0) rfl) (st (zJ (n:=((c.getD fi.toNat default).set).length) tT rfl z.sl (st (zC (k:=.i64) (a:=((((c.getD fi.toNat default).set).length:Nat):Int)) (b:=64) rfl rfl (st (mV (.bool (decide (((((c.getD fi.toNat default).set).length:Nat):Int)<64))) (stc (V:=Ix U 1) rfl rfl (fun bp=>?_) ?_))))))))))))
 have hl491:=fD bp
 exact xc rfl ⟨rfl,rfl⟩
 refine stc (V:=ce) rfl rfl (fun av=>?_) ?_
 have hl493:=fD av
 exact lD ce kR (if_pos av) (zd (g.b0) rfl) ⟨rfl,rfl⟩
 refine stc (V:=Iv arg) rfl rfl (fun bq=>?_) ?_
 have hl495:=fD bq
 exact mV (Iv arg) ⟨rfl,rfl⟩
 refine zcK (V:=.bool (decide (arg∈((c.getD fi.toNat default).set)))) (fun _ wq=>Sep G W ((Blk U ck.toArray 140)::(Blk af cj.toArray 106)::(Blk b2 (t.cells dt0).toArray 74)::Rs) wq) g rfl rfl (fun ab=>?_) (fun w500 aw=>?_)
 have hl497:=fD ab
 refine(zH (f:=85) (vals:=[ce,Iv arg]) (cap:=[]) rfl (yE ⟨(if_pos ab),(if_pos ab),trivial⟩) Tryz.call85 (zcQ (l:=(c.getD fi.toNat default).set) (vl:=ce) (n:=arg) z harg g) ?_)
 rintro _ w498 ⟨rfl,br⟩
 exact⟨rfl,br⟩
 refine st (zt (b:=decide (((((c.getD fi.toNat default).set).length:Nat):Int)<64)) (b':=decide (arg∈((c.getD fi.toNat default).set))) rfl (fun hbp=>(if_pos hbp)) (st (aS (.bool ((decide (((((c.getD fi.toNat default).set).length:Nat):Int)<64))||(decide (arg∈((c.getD fi.toNat default).set))))) (zb (za (za (R0 fun _=>st (mV (.bool ((decide (((((c.getD fi.toNat default).set).length:Nat):Int)<64))||(decide (arg∈((c.getD fi.toNat default).set))))) (zb ?_)))))))))
 cases M:(decide (((((c.getD fi.toNat default).set).length:Nat):Int)<64))||(decide (arg∈((c.getD fi.toNat default).set)))
 have S:=M
 try simp only[zf]at M
 refine ze rfl (zl (za (R0 fun _=>st (aS (Iv 10) (zb (zk (zG uT (show _=(Iv 10:Value)from rfl) ?_)))))))
 refine⟨?_,(aw.s3_)⟩
 congr 1
 have o:xu (xi t fi) c (yy c fi) op arg=false:=by rw[C];exact(zdh).trans S
 unfold yH
 rw[o];rfl
 have S:=M
 try simp only[zf]at M
 refine zg rfl (za (R0 fun _=>st (aS (Iv 0) (zb (zk (zG uT (show _=(Iv 0:Value)from rfl) ?_))))))
 refine⟨?_,(aw.s3_)⟩
 congr 1
 have o:xu (xi t fi) c (yy c fi) op arg=true:=by rw[C];exact(zdh).trans S
 unfold yH
 rw[o];rfl
 have B:=tD B
 refine zg rfl (za (R0 fun _=>st (xm rfl (st (lD (Iv ((c.getD fi.toNat default).n)) lT rfl (zd (g.b0) rfl) (st (mV (Iv arg) (st (zP (r:=IntKind.i64.wrap (((c.getD fi.toNat default).n)+arg)) (k:=.i64) (a:=(c.getD fi.toNat default).n) (b:=arg) rfl rfl rfl (st (aS (Iv (IntKind.i64.wrap (((c.getD fi.toNat default).n)+arg))) (zb (zA kr (st (xm rfl (st (lD (Iv ((c.getD fi.toNat default).n)) lT rfl (zd (g.b0) rfl) (st (yR (k:=.i64) (a:=(c.getD fi.toNat default).n) (b:=0) rfl rfl (st (mV (.bool (decide (0≤((c.getD fi.toNat default).n)))) (stc (V:=Iv arg) rfl rfl (fun bs=>?_) ?_))))))))))))))))))))))
 have hl506:=tD bs
 exact mV (Iv arg) ⟨rfl,rfl⟩
 refine stc (V:=.bool (decide (0≤arg))) rfl rfl (fun ax=>?_) ?_
 have hl508:=tD ax
 exact yR (k:=.i64) (a:=arg) (b:=0) (if_pos ax) rfl ⟨rfl,rfl⟩
 refine st (zy (b:=decide (0≤((c.getD fi.toNat default).n))) (b':=decide (0≤arg)) rfl (fun hbp=>(if_pos hbp)) (st (mV (.bool ((decide (0≤((c.getD fi.toNat default).n)))&&(decide (0≤arg)))) (stc (V:=Iv (IntKind.i64.wrap (((c.getD fi.toNat default).n)+arg))) rfl rfl (fun bt=>?_) ?_))))
 have bu:=bt
 try simp only[zf]at bu
 exact mV (Iv (IntKind.i64.wrap (((c.getD fi.toNat default).n)+arg))) ⟨rfl,rfl⟩
 refine stc (V:=.bool (decide ((IntKind.i64.wrap (((c.getD fi.toNat default).n)+arg))<0))) rfl rfl (fun ay=>?_) ?_
 have bv:=ay
 try simp only[zf]at bv
 exact zC (k:=.i64) (a:=IntKind.i64.wrap (((c.getD fi.toNat default).n)+arg)) (b:=0) (if_pos ay) rfl ⟨rfl,rfl⟩
 refine st (zy (b:=(decide (0≤((c.getD fi.toNat default).n)))&&(decide (0≤arg))) (b':=decide ((IntKind.i64.wrap (((c.getD fi.toNat default).n)+arg))<0)) rfl (fun hbp=>(if_pos hbp)) (st (yB (a:=((decide (0≤((c.getD fi.toNat default).n)))&&(decide (0≤arg)))&&(decide ((IntKind.i64.wrap (((c.getD fi.toNat default).n)+arg))<0))) rfl (st (mV (.bool (!(((decide (0≤((c.getD fi.toNat default).n)))&&(decide (0≤arg)))&&(decide ((IntKind.i64.wrap (((c.getD fi.toNat default).n)+arg))<0))))) (stc (V:=Ix U 0) rfl rfl (fun bw=>?_) ?_))))))
 have bx:=bw
 try simp only[zf]at bx
 exact xm rfl ⟨rfl,rfl⟩
 refine stc (V:=Iv ((c.getD fi.toNat default).n)) rfl rfl (fun az=>?_) ?_
 have bz:=az
 try simp only[zf]at bz
 exact lD (Iv ((c.getD fi.toNat default).n)) lT (if_pos az) (zd (g.b0) rfl) ⟨rfl,rfl⟩
 refine stc (V:=.bool (decide (((c.getD fi.toNat default).n)<0))) rfl rfl (fun aA=>?_) ?_
 have bA:=aA
 try simp only[zf]at bA
 exact zC (k:=.i64) (a:=(c.getD fi.toNat default).n) (b:=0) (if_pos aA) rfl ⟨rfl,rfl⟩
 refine stc (V:=.bool (decide (((c.getD fi.toNat default).n)<0))) rfl rfl (fun aB=>?_) ?_
 have bB:=aB
 try simp only[zf]at bB
 exact yi (v:=.bool (decide (((c.getD fi.toNat default).n)<0))) (if_pos aB) ⟨rfl,rfl⟩
 refine xe (V:=Iv arg) rfl rfl (fun aC=>?_) ?_
 have bC:=aC.1
 try simp only[zf]at bC
 have hl523:=tD aC.2
 exact mV (Iv arg) ⟨rfl,rfl⟩
 refine xe (V:=.bool (decide (arg<0))) rfl rfl (fun N=>?_) ?_
 have bD:=N.1
 try simp only[zf]at bD
 have hl526:=tD N.2
 exact zC (k:=.i64) (a:=arg) (b:=0) (if_pos ⟨N.1,N.2⟩) rfl ⟨rfl,rfl⟩
 refine stc (V:=.bool ((decide (((c.getD fi.toNat default).n)<0))&&(decide (arg<0)))) rfl rfl (fun ac=>?_) ?_
 have bE:=ac
 try simp only[zf]at bE
 exact zy (b:=decide (((c.getD fi.toNat default).n)<0)) (b':=decide (arg<0)) (if_pos ac) (fun hbp=>(if_pos ⟨ac,hbp⟩)) ⟨rfl,rfl⟩
 refine stc (V:=.bool ((decide (((c.getD fi.toNat default).n)<0))&&(decide (arg<0)))) rfl rfl (fun aD=>?_) ?_
 have bF:=aD
 try simp only[zf]at bF
 exact yi (v:=.bool ((decide (((c.getD fi.toNat default).n)<0))&&(decide (arg<0)))) (if_pos aD) ⟨rfl,rfl⟩
 refine xe (V:=Iv (IntKind.i64.wrap (((c.getD fi.toNat default).n)+arg))) rfl rfl (fun aE=>?_) ?_
 have bG:=aE.1
 try simp only[zf]at bG
 have bH:=aE.2
 try simp only[zf]at bH
 exact mV (Iv (IntKind.i64.wrap (((c.getD fi.toNat default).n)+arg))) ⟨rfl,rfl⟩
 refine xe (V:=.bool (decide (0≤(IntKind.i64.wrap (((c.getD fi.toNat default).n)+arg))))) rfl rfl (fun O=>?_) ?_
 have bI:=O.1
 try simp only[zf]at bI
 have bJ:=O.2
 try simp only[zf]at bJ
 exact yR (k:=.i64) (a:=IntKind.i64.wrap (((c.getD fi.toNat default).n)+arg)) (b:=0) (if_pos ⟨O.1,O.2⟩) rfl ⟨rfl,rfl⟩
 refine stc (V:=.bool (((decide (((c.getD fi.toNat default).n)<0))&&(decide (arg<0)))&&(decide (0≤(IntKind.i64.wrap (((c.getD fi.toNat default).n)+arg)))))) rfl rfl (fun ad=>?_) ?_
 have bK:=ad
 try simp only[zf]at bK
 exact zy (b:=(decide (((c.getD fi.toNat default).n)<0))&&(decide (arg<0))) (b':=decide (0≤(IntKind.i64.wrap (((c.getD fi.toNat default).n)+arg)))) (if_pos ad) (fun hbp=>(if_pos ⟨ad,hbp⟩)) ⟨rfl,rfl⟩
 refine stc (V:=.bool (!(((decide (((c.getD fi.toNat default).n)<0))&&(decide (arg<0)))&&(decide (0≤(IntKind.i64.wrap (((c.getD fi.toNat default).n)+arg))))))) rfl rfl (fun aF=>?_) ?_
 have bL:=aF
 try simp only[zf]at bL
 exact yB (a:=((decide (((c.getD fi.toNat default).n)<0))&&(decide (arg<0)))&&(decide (0≤(IntKind.i64.wrap (((c.getD fi.toNat default).n)+arg))))) (if_pos aF) ⟨rfl,rfl⟩
 refine st (zy (b:= !(((decide (0≤((c.getD fi.toNat default).n)))&&(decide (0≤arg)))&&(decide ((IntKind.i64.wrap (((c.getD fi.toNat default).n)+arg))<0)))) (b':= !(((decide (((c.getD fi.toNat default).n)<0))&&(decide (arg<0)))&&(decide (0≤(IntKind.i64.wrap (((c.getD fi.toNat default).n)+arg)))))) rfl (fun hbp=>(if_pos hbp)) (st (mV (.bool ((!(((decide (0≤((c.getD fi.toNat default).n)))&&(decide (0≤arg)))&&(decide ((IntKind.i64.wrap (((c.getD fi.toNat default).n)+arg))<0))))&&(!(((decide (((c.getD fi.toNat default).n)<0))&&(decide (arg<0)))&&(decide (0≤(IntKind.i64.wrap (((c.getD fi.toNat default).n)+arg)))))))) (stc (V:=Ix af 2) rfl rfl (fun bM=>?_) ?_))))
 have bN:=bM
 try simp only[zf]at bN
 exact Wc rfl ⟨rfl,rfl⟩
 refine stc (V:=.bool ((t.fields.getD fi.toNat default).floor)) rfl rfl (fun aG=>?_) ?_
 have bO:=aG
 try simp only[zf]at bO
 exact lD (.bool ((t.fields.getD fi.toNat default).floor)) oR (if_pos aG) (zd (g.b1) rfl) ⟨rfl,rfl⟩
 refine stc (V:=.bool ((t.fields.getD fi.toNat default).floor)) rfl rfl (fun aH=>?_) ?_
 have bP:=aH
 try simp only[zf]at bP
 exact yi (v:=.bool ((t.fields.getD fi.toNat default).floor)) (if_pos aH) ⟨rfl,rfl⟩
 refine xe (V:=Iv (IntKind.i64.wrap (((c.getD fi.toNat default).n)+arg))) rfl rfl (fun aI=>?_) ?_
 have bQ:=aI.1
 try simp only[zf]at bQ
 have hl549:=aI.2
 exact mV (Iv (IntKind.i64.wrap (((c.getD fi.toNat default).n)+arg))) ⟨rfl,rfl⟩
 refine xe (V:=.bool (decide ((IntKind.i64.wrap (((c.getD fi.toNat default).n)+arg))<0))) rfl rfl (fun P=>?_) ?_
 have bR:=P.1
 try simp only[zf]at bR
 have hl552:=P.2
 exact zC (k:=.i64) (a:=IntKind.i64.wrap (((c.getD fi.toNat default).n)+arg)) (b:=0) (if_pos ⟨P.1,P.2⟩) rfl ⟨rfl,rfl⟩
 refine stc (V:=.bool (((t.fields.getD fi.toNat default).floor)&&(decide ((IntKind.i64.wrap (((c.getD fi.toNat default).n)+arg))<0)))) rfl rfl (fun ae=>?_) ?_
 have bS:=ae
 try simp only[zf]at bS
 exact zy (b:=(t.fields.getD fi.toNat default).floor) (b':=decide ((IntKind.i64.wrap (((c.getD fi.toNat default).n)+arg))<0)) (if_pos ae) (fun hbp=>(if_pos ⟨ae,hbp⟩)) ⟨rfl,rfl⟩
 refine stc (V:=.bool (!(((t.fields.getD fi.toNat default).floor)&&(decide ((IntKind.i64.wrap (((c.getD fi.toNat default).n)+arg))<0))))) rfl rfl (fun aJ=>?_) ?_
 have bT:=aJ
 try simp only[zf]at bT
 exact yB (a:=((t.fields.getD fi.toNat default).floor)&&(decide ((IntKind.i64.wrap (((c.getD fi.toNat default).n)+arg))<0))) (if_pos aJ) ⟨rfl,rfl⟩
 refine st (zy (b:=(!(((decide (0≤((c.getD fi.toNat default).n)))&&(decide (0≤arg)))&&(decide ((IntKind.i64.wrap (((c.getD fi.toNat default).n)+arg))<0))))&&(!(((decide (((c.getD fi.toNat default).n)<0))&&(decide (arg<0)))&&(decide (0≤(IntKind.i64.wrap (((c.getD fi.toNat default).n)+arg))))))) (b':= !(((t.fields.getD fi.toNat default).floor)&&(decide ((IntKind.i64.wrap (((c.getD fi.toNat default).n)+arg))<0)))) rfl (fun hbp=>(if_pos hbp)) (st (aS (.bool (((!(((decide (0≤((c.getD fi.toNat default).n)))&&(decide (0≤arg)))&&(decide ((IntKind.i64.wrap (((c.getD fi.toNat default).n)+arg))<0))))&&(!(((decide (((c.getD fi.toNat default).n)<0))&&(decide (arg<0)))&&(decide (0≤(IntKind.i64.wrap (((c.getD fi.toNat default).n)+arg)))))))&&(!(((t.fields.getD fi.toNat default).floor)&&(decide ((IntKind.i64.wrap (((c.getD fi.toNat default).n)+arg))<0)))))) (zb (za (za (R0 fun _=>?_)))))))
 refine st (mV (.bool (((!(((decide (0≤((c.getD fi.toNat default).n)))&&(decide (0≤arg)))&&(decide ((IntKind.i64.wrap (((c.getD fi.toNat default).n)+arg))<0))))&&(!(((decide (((c.getD fi.toNat default).n)<0))&&(decide (arg<0)))&&(decide (0≤(IntKind.i64.wrap (((c.getD fi.toNat default).n)+arg)))))))&&(!(((t.fields.getD fi.toNat default).floor)&&(decide ((IntKind.i64.wrap (((c.getD fi.toNat default).n)+arg))<0)))))) (zb ?_))
 cases Q:((!(((decide (0≤((c.getD fi.toNat default).n)))&&(decide (0≤arg)))&&(decide ((IntKind.i64.wrap (((c.getD fi.toNat default).n)+arg))<0))))&&(!(((decide (((c.getD fi.toNat default).n)<0))&&(decide (arg<0)))&&(decide (0≤(IntKind.i64.wrap (((c.getD fi.toNat default).n)+arg)))))))&&(!(((t.fields.getD fi.toNat default).floor)&&(decide ((IntKind.i64.wrap (((c.getD fi.toNat default).n)+arg))<0))))
 have T:=Q
 try simp only[zf]at Q
 refine ze rfl (zl (za (R0 fun _=>st (aS (Iv 10) (zb (zk (zG uT (show _=(Iv 10:Value)from rfl) ?_)))))))
 refine⟨?_,(g.s3_)⟩
 congr 1
 have o:xu (xi t fi) c (yy c fi) op arg=false:=by rw[B];exact(zdl (ag).n harg).trans T
 unfold yH
 rw[o];rfl
 have T:=Q
 try simp only[zf]at Q
 refine zg rfl (za (R0 fun _=>st (aS (Iv 0) (zb (zk (zG uT (show _=(Iv 0:Value)from rfl) ?_))))))
 refine⟨?_,(g.s3_)⟩
 congr 1
 have o:xu (xi t fi) c (yy c fi) op arg=true:=by rw[B];exact(zdl (ag).n harg).trans T
 unfold yH
 rw[o];rfl
theorem Xo {t:Typ}{c:List Cel}{fi op arg a:Int}{S:List Int}(h:(⟨a,S⟩:Cel)=yZ (xi t fi) (yy c fi) op arg):c.set fi.toNat (⟨a,S⟩:Cel)=doL t c fi op arg:=by unfold doL;rw[h]
theorem dc_1 {fl:Fld}{c:Cel}{arg:Int}:yZ fl c 1 arg=⟨IntKind.i64.wrap (c.n+arg),c.set⟩:=rfl
theorem dc_2 {fl:Fld}{c:Cel}{arg:Int}:yZ fl c 2 arg=⟨arg,c.set⟩:=rfl
theorem dc_3 {fl:Fld}{c:Cel}{arg:Int}:yZ fl c 3 arg=⟨c.n,ZG c.set arg⟩:=rfl
theorem dc_4 {fl:Fld}{c:Cel}{arg:Int}:yZ fl c 4 arg=⟨c.n,Zh c.set arg⟩:=rfl
theorem dc_5 {fl:Fld}{c:Cel}{arg:Int}:yZ fl c 5 arg=⟨(ZN fl arg).to,c.set⟩:=rfl
theorem dc_o {fl:Fld}{c:Cel}{op arg:Int}(h1: ¬op=1)(h2: ¬op=2)(h3: ¬op=3)(h4: ¬op=4)(h5: ¬op=5):yZ fl c op arg=c:=by unfold yZ;rw[if_neg h1,if_neg h2,if_neg h3,if_neg h4,if_neg h5]
theorem zbx {t:Typ}{dt0:Value}(hdt0:RdS W G dt0 t.fields)(ot:t.Ok){vc:Value}{c:List Cel}(hc:RdS W G vc c){fi:Int}(hfi:InR fi){op:Int}(hop:InR op){arg:Int}(harg:InR arg)(hS0:Sep G W Rs w)(hask:Yw t c fi op arg)(hfew:(c.getD fi.toNat default).set.length≤1000):Ret Tryz.prog 84 [.agg (t.cells dt0).toArray,vc,.int .i64 (fi),.int .i64 (op),.int .i64 (arg)] w (fun r w'=> ∃(v:Value),r=(v:Value)∧Sep G W ((RowE (α:=Cel) own 140 v (doL t c fi op arg))::Rs) w'):=by
 let bj:=doL t c fi op arg
 let bi:=c.getD fi.toNat default
 let bh:=((t.fields.getD fi.toNat default).moves).getD arg.toNat default
 have hdt0s:_*48≤_:=hdt0.small
 have hcs:_*32≤_:=hc.small
 have ha0:=hask.1
 have ha1:=hask.2.1
 have ha2:=hask.2.2.1
 refine zi (args:=[.agg (t.cells dt0).toArray,vc,Iv fi,Iv op,Iv arg]) Tryz.func84 rfl rfl ?_
 refine za (R0 fun _=>st (zM (v:=.agg (t.cells dt0).toArray) rfl ?_))
 intro w3 b2 bd
 refine st (aS (Iz) (zb (za (R0 fun _=>st (mV vc (st (cL Tryz.call110 (zeb (c:=c) (vc:=vc) hc (hS0.new bd)) ?_)))))))
 rintro e w6 ⟨_,rfl,bf⟩
 refine st (aS e (zb (za (R0 fun _=>?_))))
 obtain⟨d,g,aH⟩:=CelW.open bf
 let be:=d.getD fi.toNat default
 have hsh9l:=g.1
 have J:Sep G W ((RowE (α:=CelS) own 140 e d)::(Star (SetRows 3 d c))::(Blk b2 (t.cells dt0).toArray 74)::Rs) w6:=aH
 have p:=J.r0
 have hr11s:_*32≤_:=p.2
 have K:=g.2 fi.toNat om
 have I:Sep G W ((RowE (α:=Int) own 3 ((d.getD fi.toNat default).v) ((c.getD fi.toNat default).set))::(Star ((SetRows 3 d c).set fi.toNat Emp))::(RowE (α:=CelS) own 140 e d)::(Blk b2 (t.cells dt0).toArray 74)::Rs) w6:=Sep.takeStar (J.mv1) (SetRows.get (i:=fi.toNat) om om)
 have m:=I.r0
 have hr14s:_*8≤_:=m.2
 refine st (mV e (st (mV (Iv fi) ?_)))
 have hi15:fi.toNat<d.length:=bo
 refine st (zr (k:=2) (i:=fi) oT kT rfl p.1 rfl ⟨by omega,by omega⟩ ?_)
 have aI:fi.toNat<d.length:=bo
 obtain⟨_,_,an,rfl,y⟩:=I.rowAtD (i:=2) (j:=fi.toNat) rfl aI
 refine st (zh (k:=2) rT kT rfl rfl an (st (zq lY ?_)))
 intro w20 b19 aJ
 have Y:=I.new aJ
 refine stn (zp (v:=.agg (be.cells).toArray) (c':=(be.cells).toArray) kT rfl rfl (Y.b0) (zX ⟨rfl,m.1.one,trivial⟩) yqc rfl ?_)
 intro w22 aK
 have f:=Y.pt0 aK
 refine zb (za (za (R0 fun _=>st (mV (Iv op) (zb (zn (za (R0 fun _=>st (zR (k:=.i64) (a:=op) (b:=1) rfl rfl (st (aS (.bool (decide (op=1))) (zb ?_))))))))))))
 cases z:decide (op=1)
 have z:=fD z
 refine ze rfl (za (R0 fun _=>st (zR (k:=.i64) (a:=op) (b:=2) rfl rfl (st (aS (.bool (decide (op=2))) (zb ?_))))))
 cases A:decide (op=2)
 have A:=fD A
 refine ze rfl (za (R0 fun _=>st (zR (k:=.i64) (a:=op) (b:=3) rfl rfl (st (aS (.bool (decide (op=3))) (zb ?_))))))
 cases B:decide (op=3)
 have B:=fD B
 refine ze rfl (za (R0 fun _=>st (zR (k:=.i64) (a:=op) (b:=4) rfl rfl (st (aS (.bool (decide (op=4))) (zb ?_))))))
 cases C:decide (op=4)
 have C:=fD C
 refine ze rfl (za (R0 fun _=>st (zR (k:=.i64) (a:=op) (b:=5) rfl rfl (st (aS (.bool (decide (op=5))) (zb ?_))))))
 cases x:decide (op=5)
 have x:=fD x
 refine ze rfl (zl (za (R0 fun _=>st (mV e (st (mV (Iv fi) (st (zh (k:=2) rT kT rfl rfl (CellsAt.all (f.b0)) ?_))))))))
 have hi30:fi.toNat<d.length:=bo
 refine st (zr (k:=2) (i:=fi) oT kT rfl p.1 rfl ⟨by omega,by omega⟩ ?_)
 have aL:=(f.mv3).emp1
 refine stn (yP (α:=CelS) (j:=fi.toNat) (o:=0) (u:=.agg ((d.getD fi.toNat default).cells).toArray) (us:=(d.getD fi.toNat default).cells) (x1:=(⟨(d.getD fi.toNat default).n,(d.getD fi.toNat default).v⟩:CelS)) aL kT bo rfl rfl rfl (Nat.le_of_ble_eq_true rfl) (zX ⟨rfl,m.1.one,trivial⟩) (fun _ _ _ hel _=>(by rw[←zB default (by omega)]at hel;obtain⟨rfl,hok⟩:=hel;exact⟨rfl,⟨y.n,m.1.one⟩⟩)) ?_)
 intro w31 Z
 have aM:=Z.r0
 have hr35s:_*32≤_:=aM.2
 refine zb (za ?_)
 have aa:Sep _ _ ((CelW e 140 3 (c.set fi.toNat (⟨(d.getD fi.toNat default).n,(c.getD fi.toNat default).set⟩:Cel)))::_) _:=CelW.close (i:=fi.toNat) (s:=(⟨(d.getD fi.toNat default).n,(d.getD fi.toNat default).v⟩:CelS)) (c:=(⟨(d.getD fi.toNat default).n,(c.getD fi.toNat default).set⟩:Cel)) g.1 g.2 om rfl (Z.s5_cdabe)
 have h:c.set fi.toNat (⟨(d.getD fi.toNat default).n,(c.getD fi.toNat default).set⟩:Cel)=doL t c fi op arg:=Xo (by rw[K,dc_o (by omega) (by omega) (by omega) (by omega) (by omega)];rfl)
 rw[h]at aa
 have aN:Sep _ _ ((RowE (α:=Cel) own 140 e bj)::_) _:=CelW.row aa
 refine R0 fun _=>st (mV e (st (aS e (zb (zk (zG vT (show _=(e:Value)from rfl) ?_))))))
 refine⟨e,rfl,(aN.s3_a)⟩
 have x:=tD x
 have bg:=hask.2.2.2.2 x
 have ha51:arg<(t.fields.getD fi.toNat default).moves.length:=bg.2.1
 refine zg rfl (R0 fun _=>st (yS rfl (st (lD dt0 rR rfl (zd (f.b4) rfl) (st (mV (Iv fi) ?_))))))
 have hi40:fi.toNat<t.fields.length:=bo
 refine st (zr (k:=4) (i:=fi) sR mR rfl hdt0.sl rfl ⟨by omega,by omega⟩ (st (yF rfl ?_)))
 have ab:fi.toNat<t.fields.length:=bo
 obtain⟨ao,q,hoke41⟩:=hdt0.fldD ab
 have hsm43:((t.fields.getD fi.toNat default).moves).length*32≤140737488355328:=q.small
 have ap:=f.cells ao (hdt0.foot (ne_of_lt ab))
 refine st (lD (zN W (sb dt0) (so dt0+fi.toNat*4+3)) mY rfl (ap.get (j:=3) rfl) (st (mV (Iv arg) ?_)))
 have hi45:arg.toNat<((t.fields.getD fi.toNat default).moves).length:=bo
 refine st (zr (k:=4) (i:=arg) nY nR rfl q.sl rfl ⟨by omega,by omega⟩ (st (Ud rfl ?_)))
 have ac:arg.toNat<((t.fields.getD fi.toNat default).moves).length:=bo
 obtain⟨aq,ad⟩:=q.mvD ac
 have ar:=f.cells aq (q.foot (ne_of_lt ac))
 refine st (lD (Iv (bh.to)) lT rfl (ar.get (j:=1) rfl) (st (xm rfl (stn (ym (v:=Iv (bh.to)) (c:=[Iv (be.n),be.v]) (c':=[Iv (bh.to),be.v]) qT rfl rfl (f.b0) rfl rfl rfl ?_)))))
 intro w49 aO
 have ae:=f.pt0 aO
 refine zb (za (R0 fun _=>st (mV e (st (mV (Iv fi) (st (zh (k:=2) rT kT rfl rfl (CellsAt.all (ae.b0)) ?_)))))))
 have hi52:fi.toNat<d.length:=bo
 refine st (zr (k:=2) (i:=fi) oT kT rfl p.1 rfl ⟨by omega,by omega⟩ ?_)
 have aP:=(ae.mv3).emp1
 refine stn (yP (α:=CelS) (j:=fi.toNat) (o:=0) (u:=.agg #[Iv ((((t.fields.getD fi.toNat default).moves).getD arg.toNat default).to),(d.getD fi.toNat default).v]) (us:=[Iv ((((t.fields.getD fi.toNat default).moves).getD arg.toNat default).to),(d.getD fi.toNat default).v]) (x1:=(⟨(((t.fields.getD fi.toNat default).moves).getD arg.toNat default).to,(d.getD fi.toNat default).v⟩:CelS)) aP kT bo rfl rfl rfl (Nat.le_of_ble_eq_true rfl) (zX ⟨rfl,m.1.one,trivial⟩) (fun _ _ _ hel _=>(by rw[←zB default (by omega)]at hel;obtain⟨rfl,hok⟩:=hel;exact⟨rfl,⟨ad.to,m.1.one⟩⟩)) ?_)
 intro w53 af
 have aQ:=af.r0
 have hr57s:_*32≤_:=aQ.2
 refine zb (za ?_)
 have ag:Sep _ _ ((CelW e 140 3 (c.set fi.toNat (⟨(((t.fields.getD fi.toNat default).moves).getD arg.toNat default).to,(c.getD fi.toNat default).set⟩:Cel)))::_) _:=CelW.close (i:=fi.toNat) (s:=(⟨(((t.fields.getD fi.toNat default).moves).getD arg.toNat default).to,(d.getD fi.toNat default).v⟩:CelS)) (c:=(⟨(((t.fields.getD fi.toNat default).moves).getD arg.toNat default).to,(c.getD fi.toNat default).set⟩:Cel)) g.1 g.2 om rfl (af.s5_cdabe)
 have h:c.set fi.toNat (⟨bh.to,bi.set⟩:Cel)=doL t c fi op arg:=Xo (by rw[x,dc_5];rfl)
 rw[h]at ag
 have aR:Sep _ _ ((RowE (α:=Cel) own 140 e bj)::_) _:=CelW.row ag
 refine R0 fun _=>st (mV e (st (aS e (zb (zk (zG vT (show _=(e:Value)from rfl) ?_))))))
 refine⟨e,rfl,(aR.s3_a)⟩
 have C:=tD C
 have aG:Asc (c.getD fi.toNat default).set:=hask.2.2.2.1 om
 refine zg rfl (R0 fun _=>st (xc rfl (st (lD (be.v) kR rfl (zd (f.b0) rfl) (st (mV (Iv arg) ?_))))))
 obtain⟨G63,aT,hB66,aU,aV⟩:=(f.mv1).lend
 have L:=RowE.rd aT
 have hrd69s:_*8≤_:=L.small
 refine st (cL Tryz.call112 (JE (l:=bi.set) (vl:=be.v) (n:=arg) L harg aU (hfew)) ?_)
 rintro D w71 ⟨_,rfl,ah⟩
 have F:=ah.r0
 have hr73s:_*8≤_:=F.2
 have ai:=aV _ _ ah
 refine st (xc rfl (stn (ym (v:=D) (c:=[Iv (be.n),be.v]) (c':=[Iv (be.n),D]) tR rfl rfl (ai.b2) F.1.one rfl rfl ?_)))
 intro w75 aW
 have aj:=ai.pt2 aW
 refine zb (za (R0 fun _=>st (mV e (st (mV (Iv fi) (st (zh (k:=2) rT kT rfl rfl (CellsAt.all (aj.b2)) ?_)))))))
 have hi78:fi.toNat<d.length:=bo
 refine st (zr (k:=2) (i:=fi) oT kT rfl p.1 rfl ⟨by omega,by omega⟩ ?_)
 have aX:=(aj.mv4).emp1
 refine stn (yP (α:=CelS) (j:=fi.toNat) (o:=0) (u:=.agg #[Iv ((d.getD fi.toNat default).n),D]) (us:=[Iv ((d.getD fi.toNat default).n),D]) (x1:=(⟨(d.getD fi.toNat default).n,D⟩:CelS)) aX kT bo rfl rfl rfl (Nat.le_of_ble_eq_true rfl) (zX ⟨rfl,F.1.one,trivial⟩) (fun _ _ _ hel _=>(by rw[←zB default (by omega)]at hel;obtain⟨rfl,hok⟩:=hel;exact⟨rfl,⟨y.n,F.1.one⟩⟩)) ?_)
 intro w79 ak
 have aY:=ak.r0
 have hr83s:_*32≤_:=aY.2
 refine zb (za ?_)
 have al:Sep _ _ ((CelW e 140 3 (c.set fi.toNat (⟨(d.getD fi.toNat default).n,(Zh ((c.getD fi.toNat default).set) arg)⟩:Cel)))::_) _:=CelW.close (i:=fi.toNat) (s:=(⟨(d.getD fi.toNat default).n,D⟩:CelS)) (c:=(⟨(d.getD fi.toNat default).n,(Zh ((c.getD fi.toNat default).set) arg)⟩:Cel)) g.1 g.2 om rfl (ak.s6_ceabdf)
 have h:c.set fi.toNat (⟨be.n,(Zh (bi.set) arg)⟩:Cel)=doL t c fi op arg:=Xo (by rw[K,C,dc_4];rfl)
 rw[h]at al
 have aZ:Sep _ _ ((RowE (α:=Cel) own 140 e bj)::_) _:=CelW.row al
 refine R0 fun _=>st (mV e (st (aS e (zb (zk (zG vT (show _=(e:Value)from rfl) ?_))))))
 refine⟨e,rfl,(aZ.s4_a)⟩
 have B:=tD B
 have aG:Asc (c.getD fi.toNat default).set:=hask.2.2.2.1 om
 refine zg rfl (R0 fun _=>st (xc rfl (st (lD (be.v) kR rfl (zd (f.b0) rfl) (st (mV (Iv arg) ?_))))))
 obtain⟨G89,ba,hB92,bb,bc⟩:=(f.mv1).lend
 have M:=RowE.rd ba
 have hrd95s:_*8≤_:=M.small
 refine st (cL Tryz.call111 (zdY (l:=bi.set) (vl:=be.v) (n:=arg) M harg bb (aG) (hfew)) ?_)
 rintro E w97 ⟨_,rfl,am⟩
 have H:=am.r0
 have hr99s:_*8≤_:=H.2
 have N:=bc _ _ am
 refine st (xc rfl (stn (ym (v:=E) (c:=[Iv (be.n),be.v]) (c':=[Iv (be.n),E]) tR rfl rfl (N.b2) H.1.one rfl rfl ?_)))
 intro w101 au
 have O:=N.pt2 au
 refine zb (za (R0 fun _=>st (mV e (st (mV (Iv fi) (st (zh (k:=2) rT kT rfl rfl (CellsAt.all (O.b2)) ?_)))))))
 have hi104:fi.toNat<d.length:=bo
 refine st (zr (k:=2) (i:=fi) oT kT rfl p.1 rfl ⟨by omega,by omega⟩ ?_)
 have av:=(O.mv4).emp1
 refine stn (yP (α:=CelS) (j:=fi.toNat) (o:=0) (u:=.agg #[Iv ((d.getD fi.toNat default).n),E]) (us:=[Iv ((d.getD fi.toNat default).n),E]) (x1:=(⟨(d.getD fi.toNat default).n,E⟩:CelS)) av kT bo rfl rfl rfl (Nat.le_of_ble_eq_true rfl) (zX ⟨rfl,H.1.one,trivial⟩) (fun _ _ _ hel _=>(by rw[←zB default (by omega)]at hel;obtain⟨rfl,hok⟩:=hel;exact⟨rfl,⟨y.n,H.1.one⟩⟩)) ?_)
 intro w105 P
 have aw:=P.r0
 have hr109s:_*32≤_:=aw.2
 refine zb (za ?_)
 have Q:Sep _ _ ((CelW e 140 3 (c.set fi.toNat (⟨(d.getD fi.toNat default).n,(ZG ((c.getD fi.toNat default).set) arg)⟩:Cel)))::_) _:=CelW.close (i:=fi.toNat) (s:=(⟨(d.getD fi.toNat default).n,E⟩:CelS)) (c:=(⟨(d.getD fi.toNat default).n,(ZG ((c.getD fi.toNat default).set) arg)⟩:Cel)) g.1 g.2 om rfl (P.s6_ceabdf)
 have h:c.set fi.toNat (⟨be.n,(ZG (bi.set) arg)⟩:Cel)=doL t c fi op arg:=Xo (by rw[K,B,dc_3];rfl)
 rw[h]at Q
 have ax:Sep _ _ ((RowE (α:=Cel) own 140 e bj)::_) _:=CelW.row Q
 refine R0 fun _=>st (mV e (st (aS e (zb (zk (zG vT (show _=(e:Value)from rfl) ?_))))))
 refine⟨e,rfl,(ax.s4_a)⟩
 have A:=tD A
 refine zg rfl (R0 fun _=>st (mV (Iv arg) (st (xm rfl (stn (ym (v:=Iv arg) (c:=[Iv (be.n),be.v]) (c':=[Iv arg,be.v]) qT rfl rfl (f.b0) rfl rfl rfl ?_))))))
 intro w114 ay
 have R:=f.pt0 ay
 refine zb (za (R0 fun _=>st (mV e (st (mV (Iv fi) (st (zh (k:=2) rT kT rfl rfl (CellsAt.all (R.b0)) ?_)))))))
 have hi117:fi.toNat<d.length:=bo
 refine st (zr (k:=2) (i:=fi) oT kT rfl p.1 rfl ⟨by omega,by omega⟩ ?_)
 have az:=(R.mv3).emp1
 refine stn (yP (α:=CelS) (j:=fi.toNat) (o:=0) (u:=.agg #[Iv arg,(d.getD fi.toNat default).v]) (us:=[Iv arg,(d.getD fi.toNat default).v]) (x1:=(⟨arg,(d.getD fi.toNat default).v⟩:CelS)) az kT bo rfl rfl rfl (Nat.le_of_ble_eq_true rfl) (zX ⟨rfl,m.1.one,trivial⟩) (fun _ _ _ hel _=>(by rw[←zB default (by omega)]at hel;obtain⟨rfl,hok⟩:=hel;exact⟨rfl,⟨harg,m.1.one⟩⟩)) ?_)
 intro w118 S
 have aA:=S.r0
 have hr122s:_*32≤_:=aA.2
 refine zb (za ?_)
 have T:Sep _ _ ((CelW e 140 3 (c.set fi.toNat (⟨arg,(c.getD fi.toNat default).set⟩:Cel)))::_) _:=CelW.close (i:=fi.toNat) (s:=(⟨arg,(d.getD fi.toNat default).v⟩:CelS)) (c:=(⟨arg,(c.getD fi.toNat default).set⟩:Cel)) g.1 g.2 om rfl (S.s5_cdabe)
 have h:c.set fi.toNat (⟨arg,bi.set⟩:Cel)=doL t c fi op arg:=Xo (by rw[A,dc_2];rfl)
 rw[h]at T
 have aB:Sep _ _ ((RowE (α:=Cel) own 140 e bj)::_) _:=CelW.row T
 refine R0 fun _=>st (mV e (st (aS e (zb (zk (zG vT (show _=(e:Value)from rfl) ?_))))))
 refine⟨e,rfl,(aB.s3_a)⟩
 have z:=tD z
 refine zg rfl (R0 fun _=>st (xm rfl (st (lD (Iv (be.n)) lT rfl (zd (f.b0) rfl) (st (mV (Iv arg) (st (zP (r:=IntKind.i64.wrap ((be.n)+arg)) (k:=.i64) (a:=be.n) (b:=arg) rfl rfl rfl (st (xm rfl (stn (ym (v:=Iv (IntKind.i64.wrap ((be.n)+arg))) (c:=[Iv (be.n),be.v]) (c':=[Iv (IntKind.i64.wrap ((be.n)+arg)),be.v]) qT rfl rfl (f.b0) rfl rfl rfl ?_))))))))))))
 intro w127 aC
 have U:=f.pt0 aC
 refine zb (za (R0 fun _=>st (mV e (st (mV (Iv fi) (st (zh (k:=2) rT kT rfl rfl (CellsAt.all (U.b0)) ?_)))))))
 have hi130:fi.toNat<d.length:=bo
 refine st (zr (k:=2) (i:=fi) oT kT rfl p.1 rfl ⟨by omega,by omega⟩ ?_)
 have aD:=(U.mv3).emp1
 refine stn (yP (α:=CelS) (j:=fi.toNat) (o:=0) (u:=.agg #[Iv (IntKind.i64.wrap (((d.getD fi.toNat default).n)+arg)),(d.getD fi.toNat default).v]) (us:=[Iv (IntKind.i64.wrap (((d.getD fi.toNat default).n)+arg)),(d.getD fi.toNat default).v]) (x1:=(⟨IntKind.i64.wrap (((d.getD fi.toNat default).n)+arg),(d.getD fi.toNat default).v⟩:CelS)) aD kT bo rfl rfl rfl (Nat.le_of_ble_eq_true rfl) (zX ⟨rfl,m.1.one,trivial⟩) (fun _ _ _ hel _=>(by rw[←zB default (by omega)]at hel;obtain⟨rfl,hok⟩:=hel;exact⟨rfl,⟨(WH _),m.1.one⟩⟩)) ?_)
 intro w131 V
 have aE:=V.r0
 have hr135s:_*32≤_:=aE.2
 refine zb (za ?_)
 have X:Sep _ _ ((CelW e 140 3 (c.set fi.toNat (⟨IntKind.i64.wrap (((d.getD fi.toNat default).n)+arg),(c.getD fi.toNat default).set⟩:Cel)))::_) _:=CelW.close (i:=fi.toNat) (s:=(⟨IntKind.i64.wrap (((d.getD fi.toNat default).n)+arg),(d.getD fi.toNat default).v⟩:CelS)) (c:=(⟨IntKind.i64.wrap (((d.getD fi.toNat default).n)+arg),(c.getD fi.toNat default).set⟩:Cel)) g.1 g.2 om rfl (V.s5_cdabe)
 have h:c.set fi.toNat (⟨IntKind.i64.wrap ((be.n)+arg),bi.set⟩:Cel)=doL t c fi op arg:=Xo (by rw[K,z,dc_1];rfl)
 rw[h]at X
 have aF:Sep _ _ ((RowE (α:=Cel) own 140 e bj)::_) _:=CelW.row X
 refine R0 fun _=>st (mV e (st (aS e (zb (zk (zG vT (show _=(e:Value)from rfl) ?_))))))
 refine⟨e,rfl,(aF.s3_a)⟩
theorem zcv {a b:Ent}(h1:a.ev=b.ev)(h2:(a.void== b.void)=true)(h3:a.byO=b.byO∧a.byS=b.byS):a=b:=by
 rw[Ent.eq_iff];exact⟨h1,by simpa using h2,h3.1,h3.2⟩
theorem zau {a b:Ent}(h:(a.ev=b.ev∧(a.void== b.void)=true)∧a.byO=b.byO∧a.byS=b.byS):a=b:=zcv h.1.1 h.1.2 h.2
theorem Vd {va:Value}{a:List Ent}(ha:RdS W G va a){vb:Value}{b:List Ent}(hb:RdS W G vb b)(hS0:Sep G W Rs w):Ret Tryz.prog 18 [va,vb] w (fun r w'=>r=(.bool (decide (a=b)):Value)∧Sep G W Rs w'):=by
 have has:_*120≤_:=ha.small
 have hbs:_*120≤_:=hb.small
 refine zi (args:=[va,vb]) Tryz.func18 rfl rfl ?_
 refine za (R0 fun _=>st (aS (.bool false) (zb (za (za (R0 fun _=>st (mV va (st (zJ (n:=a.length) mT rfl ha.sl (st (mV vb (st (zJ (n:=b.length) mT rfl hb.sl (st (yn (k:=.i64) (a:=((a.length:Nat):Int)) (b:=((b.length:Nat):Int)) rfl rfl (zb ?_))))))))))))))))
 cases V: !decide (((a.length:Nat):Int)=((b.length:Nat):Int))
 have V:=zQ V
 refine ze rfl (zl (za (za (R0 fun _=>st (aS (Iv 0) (zb (zn (zZ (fun mq σ wq=> ∃(k:Nat) (ρ:Env),mq=a.length-k∧σ=yd ρ [(0,va),(1,vb),(5,Iw k)]∧(k≤a.length)∧(∀i,i<k→a.getD i default=b.getD i default)∧Sep G W Rs wq) ⟨0,_,rfl,sSf,Nat.zero_le _,(fun i h=>absurd h (Nat.not_lt_zero i)),hS0⟩ ?_))))))))
 rintro m3 σ4 w2 ⟨k,ρl1,rfl,rfl,hkk,hm,bX⟩
 let cd:=zN W (sb vb) (so vb+k*13+3)
 let cc:=zN W (sb va) (so va+k*13+3)
 let ca:=b.getD k default
 let bZ:=a.getD k default
 let cb:=(bZ.void)== (ca.void)
 let aC:=decide (((a.getD k default).ev)=((b.getD k default).ev))
 refine za (za (R0 fun _=>st (mV (Iw k) (st (mV va (st (zJ (n:=a.length) mT rfl ha.sl (st (zC (k:=.i64) (a:=((k:Nat):Int)) (b:=((a.length:Nat):Int)) rfl rfl (zb ?_))))))))))
 cases ae:decide (((k:Nat):Int)<((a.length:Nat):Int))
 have ae:=fD ae
 refine ze rfl (ya (zS (za (R0 fun _=>st (aS (.bool true) (zb (zk (zG uR (show _=(.bool true:Value)from rfl) ?_))))))))
 refine⟨?_,bX⟩
 rw[decide_eq_true (Wg (by omega) (fun i hi=>hm i (by omega)))]
 have ae:=tD ae
 refine zg rfl (zl (za (zn (za ?_))))
 refine WD4 (WF [fun vals wq=>Sep G W Rs wq,fun vals wq=>(vals 10=(.bool aC:Value))∧Sep G W Rs wq]) (AF [Vl 0 (va),Vl 1 (Iw k),Vl 2 (Ix (sb va) (so va+k*13)),Vl 3 (Ix (sb va) (so va+k*13)),Vl 4 (.agg ((bZ.ev).cells cc).toArray),Vl 5 (vb),Vl 6 (Iw k),Vl 7 (Ix (sb vb) (so vb+k*13)),Vl 8 (Ix (sb vb) (so vb+k*13)),Vl 9 (.agg ((ca.ev).cells cd).toArray),fun _=>True,Vl 11 (.bool (!aC)),Vl 12 (.bool (!aC)),Vl 13 (if(!aC)=false then va else undef),Vl 14 (if(!aC)=false then Iw k else undef),Vl 15 (if(!aC)=false then Ix (sb va) (so va+k*13)else undef),Vl 16 (if(!aC)=false then Ix (sb va) (so va+k*13+10)else undef),Vl 17 (if(!aC)=false then .bool (bZ.void)else undef),Vl 18 (if(!aC)=false then vb else undef),Vl 19 (if(!aC)=false then Iw k else undef),Vl 20 (if(!aC)=false then Ix (sb vb) (so vb+k*13)else undef),Vl 21 (if(!aC)=false then Ix (sb vb) (so vb+k*13+10)else undef),Vl 22 (if(!aC)=false then .bool (ca.void)else undef),Vl 23 (if(!aC)=false then .bool (!cb)else undef),Vl 24 (.bool ((!aC)||(!cb))),Vl 25 (.bool ((!aC)||(!cb))),Vl 26 (if((!aC)||(!cb))=false then va else undef),Vl 27 (if((!aC)||(!cb))=false then Iw k else undef),Vl 28 (if((!aC)||(!cb))=false then Ix (sb va) (so va+k*13)else undef),Vl 29 (if((!aC)||(!cb))=false then Ix (sb va) (so va+k*13+11)else undef),Vl 30 (if((!aC)||(!cb))=false then .agg #[Iv (bZ.byO),Iv (bZ.byS)]else undef),Vl 31 (if((!aC)||(!cb))=false then vb else undef),Vl 32 (if((!aC)||(!cb))=false then Iw k else undef),Vl 33 (if((!aC)||(!cb))=false then Ix (sb vb) (so vb+k*13)else undef),Vl 34 (if((!aC)||(!cb))=false then Ix (sb vb) (so vb+k*13+11)else undef),Vl 35 (if((!aC)||(!cb))=false then .agg #[Iv (ca.byO),Iv (ca.byS)]else undef),Vl 36 (if((!aC)||(!cb))=false then .bool (!decide (bZ.byO=ca.byO∧bZ.byS=ca.byS))else undef),Vl 37 (.bool (((!aC)||(!cb))||(!decide (bZ.byO=ca.byO∧bZ.byS=ca.byS))))]) [[],[],[0,1],[0,1,2],(rg 4),[],[],[5,6],[5,6,7],[5,6,7,8],(rg 10),(rg 11),(rg 12),(rg 13),(rg 13),(rg 15),(rg 16),(rg 17),(rg 13),(rg 13),[0,1,2,3,4,5,6,7,8,9,10,11,12,18,19],[0,1,2,3,4,5,6,7,8,9,10,11,12,18,19,20],[0,1,2,3,4,5,6,7,8,9,10,11,12,18,19,20,21],(rg 23),(rg 24),(rg 25),(rg 26),(rg 26),(rg 28),(rg 29),(rg 30),(rg 26),(rg 26),[0,1,2,3,4,5,6,7,8,9,10,11,12,13,14,15,16,17,18,19,20,21,22,23,24,25,31,32],[0,1,2,3,4,5,6,7,8,9,10,11,12,13,14,15,16,17,18,19,20,21,22,23,24,25,31,32,33],[0,1,2,3,4,5,6,7,8,9,10,11,12,13,14,15,16,17,18,19,20,21,22,23,24,25,31,32,33,34],(rg 36),(rg 37)] [10] [(0,0),(0,0),(0,0),(0,0),(0,0),(0,0),(0,0),(0,0),(0,0),(0,0),(0,0),(1,1),(1,1),(1,1),(1,1),(1,1),(1,1),(1,1),(1,1),(1,1),(1,1),(1,1),(1,1),(1,1),(1,1),(1,1),(1,1),(1,1),(1,1),(1,1),(1,1),(1,1),(1,1),(1,1),(1,1),(1,1),(1,1),(1,1)] bX ⟨fun _ _ _ _ _ _ _=>obl rfl (mV va dR),fun _ _ _ _ _ _ _=>obl rfl (mV (Iw k) dR),?_,fun _ _ _ _ _ _ aU=>obl rfl (Yr (aU 2 dc) dR),?_,fun _ _ _ _ _ _ _=>obl rfl (mV vb dR),fun _ _ _ _ _ _ _=>obl rfl (mV (Iw k) dR),?_,fun _ _ _ _ _ _ aV=>obl rfl (Yr (aV 7 dc) dR),?_,?_,?_,fun _ _ _ _ _ _ aW=>obl rfl (yi (v:=.bool (!aC)) (aW 11 dc) dR),?_,?_,?_,?_,?_,?_,?_,?_,?_,?_,?_,fun _ _ _ _ _ _ af=>obl rfl (zt (b:= !aC) (b':= !cb) (af 12 dc) (fun hbp=>(Eq.trans (af 23 dc) (if_pos hbp))) dR),fun _ _ _ _ _ _ aX=>obl rfl (yi (v:=.bool ((!aC)||(!cb))) (aX 24 dc) dR),?_,?_,?_,?_,?_,?_,?_,?_,?_,?_,?_,fun _ _ _ _ _ _ ag=>obl rfl (zt (b:=(!aC)||(!cb)) (b':= !decide (bZ.byO=ca.byO∧bZ.byS=ca.byS)) (ag 25 dc) (fun hbp=>(Eq.trans (ag 36 dc) (if_pos hbp))) dR),trivial⟩ ?_
 refine ob1 0 fun _ _ _ ah=>(obl rfl ?_)
 have aY:k<a.length:=bo
 exact zj (k:=13) (i:=k) mT nT (ah 0 dc) ha.sl (ah 1 dc) aY dR
 refine ob1 0 fun _ _ (aZ:Sep _ _ _ _) ba=>(obl rfl ?_)
 have ai:k<a.length:=bo
 obtain⟨aD,X,hoke431⟩:=ha.entD ai
 have hsm433:((a.getD k default).ev.deps).length*8≤140737488355328:=X.small
 have aE:=aZ.cells aD (ha.foot (ne_of_lt ai))
 exact zh (k:=10) (cs:=[Iv (bZ.ev.origin),Iv (bZ.ev.seq),Iv (bZ.ev.lam),cc,Iv (bZ.ev.typ),Iv (bZ.ev.agg),Iv (bZ.ev.field),Iv (bZ.ev.op),Iv (bZ.ev.arg),Iv (bZ.ev.key)]) wT pT rfl (ba 3 dc) (CellsAt.sub aE 0 (cs2:=[Iv (bZ.ev.origin),Iv (bZ.ev.seq),Iv (bZ.ev.lam),cc,Iv (bZ.ev.typ),Iv (bZ.ev.agg),Iv (bZ.ev.field),Iv (bZ.ev.op),Iv (bZ.ev.arg),Iv (bZ.ev.key)]) rfl) dR
 refine ob1 0 fun _ _ _ aj=>(obl rfl ?_)
 have bb:k<b.length:=bo
 exact zj (k:=13) (i:=k) mT nT (aj 5 dc) hb.sl (aj 6 dc) bb dR
 refine ob1 0 fun _ _ (bc:Sep _ _ _ _) bd=>(obl rfl ?_)
 have ak:k<b.length:=bo
 obtain⟨aF,Y,hoke472⟩:=hb.entD ak
 have hsm474:((b.getD k default).ev.deps).length*8≤140737488355328:=Y.small
 have aG:=bc.cells aF (hb.foot (ne_of_lt ak))
 exact zh (k:=10) (cs:=[Iv (ca.ev.origin),Iv (ca.ev.seq),Iv (ca.ev.lam),cd,Iv (ca.ev.typ),Iv (ca.ev.agg),Iv (ca.ev.field),Iv (ca.ev.op),Iv (ca.ev.arg),Iv (ca.ev.key)]) wT pT rfl (bd 8 dc) (CellsAt.sub aG 0 (cs2:=[Iv (ca.ev.origin),Iv (ca.ev.seq),Iv (ca.ev.lam),cd,Iv (ca.ev.typ),Iv (ca.ev.agg),Iv (ca.ev.field),Iv (ca.ev.op),Iv (ca.ev.arg),Iv (ca.ev.key)]) rfl) dR
 refine ob1 0 fun vals _ (Z:Sep _ _ _ _) aH=>(obl rfl ?_)
 have aI:k<a.length:=bo
 obtain⟨be,O,aJ⟩:=ha.entD aI
 have hsm100:((a.getD k default).ev.deps).length*8≤140737488355328:=O.small
 have hcw101:=Z.cells be (ha.foot (ne_of_lt aI))
 have al:k<b.length:=bo
 obtain⟨aK,N,aB⟩:=hb.entD al
 have hsm104:((b.getD k default).ev.deps).length*8≤140737488355328:=N.small
 have hcw105:=Z.cells aK (hb.foot (ne_of_lt al))
 refine(zH (f:=13) (vals:=[.agg ((bZ.ev).cells cc).toArray,.agg ((ca.ev).cells cd).toArray]) (cap:=[]) rfl (yE ⟨(aH 4 dc),(aH 9 dc),trivial⟩) Tryz.call13 (Zx (a:=(bZ.ev)) (b:=(ca.ev)) O aJ.ev N aB.ev Z) ?_)
 rintro _ w106 ⟨rfl,bf⟩
 exact fun c d hv'=>⟨(zx d bf),trivial⟩
 refine ob1 1 fun _ _ bg _=>?_
 obtain⟨g,hS482⟩:=bg
 exact obl rfl (yB (a:=decide ((bZ.ev)=(ca.ev))) g dR)
 refine fun _ _ _ _ _ _ bh=>(yr rfl rfl (bh 12 dc) (fun D=>?_) (fun D=>fun c d _=>⟨trivial,d.trans (if_neg D).symm⟩))
 have hl498:=zQ D
 exact mV va (fun c d _=>⟨rfl,d.trans (if_pos D).symm⟩)
 refine fun _ _ _ _ _ _ bi=>(yr rfl rfl (bi 12 dc) (fun E=>?_) (fun E=>fun c d _=>⟨trivial,d.trans (if_neg E).symm⟩))
 have hl507:=zQ E
 exact mV (Iw k) (fun c d _=>⟨rfl,d.trans (if_pos E).symm⟩)
 refine ob1 1 fun _ _ bj P=>?_
 obtain⟨g,hS514⟩:=bj
 refine yr rfl rfl (P 12 dc) (fun l=>?_) (fun l=>fun c d _=>⟨trivial,d.trans (if_neg l).symm⟩)
 have hl519:=zQ l
 have bk:k<a.length:=bo
 exact zj (k:=13) (i:=k) mT nT (Eq.trans (P 13 dc) (if_pos l)) ha.sl (Eq.trans (P 14 dc) (if_pos l)) bk (fun c d _=>⟨rfl,d.trans (if_pos l).symm⟩)
 refine fun _ _ _ _ _ _ am=>(yr rfl rfl (am 12 dc) (fun t=>?_) (fun t=>fun c d _=>⟨trivial,d.trans (if_neg t).symm⟩))
 have hl530:=zQ t
 exact VS (Eq.trans (am 15 dc) (if_pos t)) (fun c d _=>⟨rfl,d.trans (if_pos t).symm⟩)
 refine ob1 1 fun _ _ bl an=>?_
 obtain⟨g,bm⟩:=bl
 refine yr rfl rfl (an 12 dc) (fun u=>?_) (fun u=>fun c d _=>⟨trivial,d.trans (if_neg u).symm⟩)
 have hl541:=zQ u
 have ao:k<a.length:=bo
 obtain⟨aL,aa,hoke542⟩:=ha.entD ao
 have hsm544:((a.getD k default).ev.deps).length*8≤140737488355328:=aa.small
 have aM:=bm.cells aL (ha.foot (ne_of_lt ao))
 exact lD (.bool (bZ.void)) oR (Eq.trans (an 16 dc) (if_pos u)) (aM.get (j:=10) rfl) (fun c d _=>⟨rfl,d.trans (if_pos u).symm⟩)
 refine fun _ _ _ _ _ _ bn=>(yr rfl rfl (bn 12 dc) (fun F=>?_) (fun F=>fun c d _=>⟨trivial,d.trans (if_neg F).symm⟩))
 have hl554:=zQ F
 exact mV vb (fun c d _=>⟨rfl,d.trans (if_pos F).symm⟩)
 refine fun _ _ _ _ _ _ bp=>(yr rfl rfl (bp 12 dc) (fun H=>?_) (fun H=>fun c d _=>⟨trivial,d.trans (if_neg H).symm⟩))
 have hl563:=zQ H
 exact mV (Iw k) (fun c d _=>⟨rfl,d.trans (if_pos H).symm⟩)
 refine ob1 1 fun _ _ bq Q=>?_
 obtain⟨g,hS570⟩:=bq
 refine yr rfl rfl (Q 12 dc) (fun m=>?_) (fun m=>fun c d _=>⟨trivial,d.trans (if_neg m).symm⟩)
 have hl575:=zQ m
 have br:k<b.length:=bo
 exact zj (k:=13) (i:=k) mT nT (Eq.trans (Q 18 dc) (if_pos m)) hb.sl (Eq.trans (Q 19 dc) (if_pos m)) br (fun c d _=>⟨rfl,d.trans (if_pos m).symm⟩)
 refine fun _ _ _ _ _ _ ap=>(yr rfl rfl (ap 12 dc) (fun x=>?_) (fun x=>fun c d _=>⟨trivial,d.trans (if_neg x).symm⟩))
 have hl586:=zQ x
 exact VS (Eq.trans (ap 20 dc) (if_pos x)) (fun c d _=>⟨rfl,d.trans (if_pos x).symm⟩)
 refine ob1 1 fun _ _ bs aq=>?_
 obtain⟨g,bt⟩:=bs
 refine yr rfl rfl (aq 12 dc) (fun y=>?_) (fun y=>fun c d _=>⟨trivial,d.trans (if_neg y).symm⟩)
 have hl597:=zQ y
 have ar:k<b.length:=bo
 obtain⟨aN,ab,hoke598⟩:=hb.entD ar
 have hsm600:((b.getD k default).ev.deps).length*8≤140737488355328:=ab.small
 have aO:=bt.cells aN (hb.foot (ne_of_lt ar))
 exact lD (.bool (ca.void)) oR (Eq.trans (aq 21 dc) (if_pos y)) (aO.get (j:=10) rfl) (fun c d _=>⟨rfl,d.trans (if_pos y).symm⟩)
 refine ob1 1 fun _ _ bu R=>?_
 obtain⟨g,hS608⟩:=bu
 refine yr rfl rfl (R 12 dc) (fun o=>?_) (fun o=>fun c d _=>⟨trivial,d.trans (if_neg o).symm⟩)
 have hl613:=zQ o
 exact KN (a:=bZ.void) (b:=ca.void) Tryz.underlying4 (Eq.trans (R 17 dc) (if_pos o)) (Eq.trans (R 22 dc) (if_pos o)) (fun c d _=>⟨rfl,d.trans (if_pos o).symm⟩)
 refine fun _ _ _ _ _ _ bv=>(yr rfl rfl (bv 25 dc) (fun I=>?_) (fun I=>fun c d _=>⟨trivial,d.trans (if_neg I).symm⟩))
 have bw:=I
 try simp only[zf]at bw
 exact mV va (fun c d _=>⟨rfl,d.trans (if_pos I).symm⟩)
 refine fun _ _ _ _ _ _ bx=>(yr rfl rfl (bx 25 dc) (fun J=>?_) (fun J=>fun c d _=>⟨trivial,d.trans (if_neg J).symm⟩))
 have bz:=J
 try simp only[zf]at bz
 exact mV (Iw k) (fun c d _=>⟨rfl,d.trans (if_pos J).symm⟩)
 refine ob1 1 fun _ _ bA S=>?_
 obtain⟨g,hS653⟩:=bA
 refine yr rfl rfl (S 25 dc) (fun p=>?_) (fun p=>fun c d _=>⟨trivial,d.trans (if_neg p).symm⟩)
 have bB:=p
 try simp only[zf]at bB
 have bC:k<a.length:=bo
 exact zj (k:=13) (i:=k) mT nT (Eq.trans (S 26 dc) (if_pos p)) ha.sl (Eq.trans (S 27 dc) (if_pos p)) bC (fun c d _=>⟨rfl,d.trans (if_pos p).symm⟩)
 refine fun _ _ _ _ _ _ au=>(yr rfl rfl (au 25 dc) (fun z=>?_) (fun z=>fun c d _=>⟨trivial,d.trans (if_neg z).symm⟩))
 have bD:=z
 try simp only[zf]at bD
 exact zaz (Eq.trans (au 28 dc) (if_pos z)) (fun c d _=>⟨rfl,d.trans (if_pos z).symm⟩)
 refine ob1 1 fun _ _ bE av=>?_
 obtain⟨g,bF⟩:=bE
 refine yr rfl rfl (av 25 dc) (fun A=>?_) (fun A=>fun c d _=>⟨trivial,d.trans (if_neg A).symm⟩)
 have bG:=A
 try simp only[zf]at bG
 have aw:k<a.length:=bo
 obtain⟨aP,ac,hoke681⟩:=ha.entD aw
 have hsm683:((a.getD k default).ev.deps).length*8≤140737488355328:=ac.small
 have aQ:=bF.cells aP (ha.foot (ne_of_lt aw))
 exact zh (k:=2) (cs:=[Iv (bZ.byO),Iv (bZ.byS)]) oY pY rfl (Eq.trans (av 29 dc) (if_pos A)) (CellsAt.sub aQ 11 (cs2:=[Iv (bZ.byO),Iv (bZ.byS)]) rfl) (fun c d _=>⟨rfl,d.trans (if_pos A).symm⟩)
 refine fun _ _ _ _ _ _ bH=>(yr rfl rfl (bH 25 dc) (fun K=>?_) (fun K=>fun c d _=>⟨trivial,d.trans (if_neg K).symm⟩))
 have bI:=K
 try simp only[zf]at bI
 exact mV vb (fun c d _=>⟨rfl,d.trans (if_pos K).symm⟩)
 refine fun _ _ _ _ _ _ bJ=>(yr rfl rfl (bJ 25 dc) (fun L=>?_) (fun L=>fun c d _=>⟨trivial,d.trans (if_neg L).symm⟩))
 have bK:=L
 try simp only[zf]at bK
 exact mV (Iw k) (fun c d _=>⟨rfl,d.trans (if_pos L).symm⟩)
 refine ob1 1 fun _ _ bL T=>?_
 obtain⟨g,hS709⟩:=bL
 refine yr rfl rfl (T 25 dc) (fun q=>?_) (fun q=>fun c d _=>⟨trivial,d.trans (if_neg q).symm⟩)
 have bM:=q
 try simp only[zf]at bM
 have bN:k<b.length:=bo
 exact zj (k:=13) (i:=k) mT nT (Eq.trans (T 31 dc) (if_pos q)) hb.sl (Eq.trans (T 32 dc) (if_pos q)) bN (fun c d _=>⟨rfl,d.trans (if_pos q).symm⟩)
 refine fun _ _ _ _ _ _ ax=>(yr rfl rfl (ax 25 dc) (fun B=>?_) (fun B=>fun c d _=>⟨trivial,d.trans (if_neg B).symm⟩))
 have bO:=B
 try simp only[zf]at bO
 exact zaz (Eq.trans (ax 33 dc) (if_pos B)) (fun c d _=>⟨rfl,d.trans (if_pos B).symm⟩)
 refine ob1 1 fun _ _ bP ay=>?_
 obtain⟨g,bQ⟩:=bP
 refine yr rfl rfl (ay 25 dc) (fun C=>?_) (fun C=>fun c d _=>⟨trivial,d.trans (if_neg C).symm⟩)
 have bR:=C
 try simp only[zf]at bR
 have az:k<b.length:=bo
 obtain⟨aR,ad,hoke737⟩:=hb.entD az
 have hsm739:((b.getD k default).ev.deps).length*8≤140737488355328:=ad.small
 have aT:=bQ.cells aR (hb.foot (ne_of_lt az))
 exact zh (k:=2) (cs:=[Iv (ca.byO),Iv (ca.byS)]) oY pY rfl (Eq.trans (ay 34 dc) (if_pos C)) (CellsAt.sub aT 11 (cs2:=[Iv (ca.byO),Iv (ca.byS)]) rfl) (fun c d _=>⟨rfl,d.trans (if_pos C).symm⟩)
 refine ob1 1 fun _ _ bS U=>?_
 obtain⟨g,hS747⟩:=bS
 refine yr rfl rfl (U 25 dc) (fun s=>?_) (fun s=>fun c d _=>⟨trivial,d.trans (if_neg s).symm⟩)
 have bT:=s
 try simp only[zf]at bT
 exact XY (e:=decide (bZ.byO=ca.byO∧bZ.byS=ca.byS)) (xs:=#[Iv (bZ.byO),Iv (bZ.byS)]) (ys:=#[Iv (ca.byO),Iv (ca.byS)]) zaq (Eq.trans (U 30 dc) (if_pos s)) (Eq.trans (U 35 dc) (if_pos s)) (fun c d _=>⟨rfl,d.trans (if_pos s).symm⟩)
 intro vals w761 bU bV
 obtain⟨g,aA⟩:=bU
 have bY:=bV 37 dc
 refine zT (kv:=[(0,va),(1,vb),(5,Iw k),(11,Iw k),(12,va),(13,Iw a.length),(14,.bool true),(54,.bool (((!aC)||(!cb))||(!decide (bZ.byO=ca.byO∧bZ.byS=ca.byS))))]) ⟨rfl,rfl,rfl,rfl,rfl,rfl,rfl,(by exact bY),trivial⟩ (fun ρw761=>(zb ?_))
 cases M:((!(decide (((a.getD k default).ev)=((b.getD k default).ev))))||(!(((a.getD k default).void)== ((b.getD k default).void))))||(!decide ((a.getD k default).byO=(b.getD k default).byO∧(a.getD k default).byS=(b.getD k default).byS))
 try simp only[zf]at M
 refine ze rfl (zl (R0 fun _=>st (mV (Iw k) ?_)))
 have bW:InR ((k+1:Nat):Int):=bo
 refine st (zP (r:=((k+1:Nat):Int)) (k:=.i64) (a:=((k:Nat):Int)) (b:=1) rfl rfl (by rw[show(((k:Nat):Int)+1:Int)=((k+1:Nat):Int)from bo];exact zF bW) (st (aS (Iw (k+1)) (zb ?_))))
 exact⟨_,by omega,k+1,_,rfl,sSf,by omega,(yL hm (zau M)),aA⟩
 try simp only[zf]at M
 refine zg rfl (za (R0 fun _=>st (aS (.bool false) (zb (zk (zG uR (show _=(.bool false:Value)from rfl) ?_))))))
 refine⟨?_,aA⟩
 rw[decide_eq_false (fun e=>by subst e;first|omega|(simp at M))]
 have V:=zz V
 refine zg rfl (za (R0 fun _=>st (aS (.bool false) (zb (zk (zG uR (show _=(.bool false:Value)from rfl) ?_))))))
 refine⟨?_,hS0⟩
 rw[decide_eq_false (fun e=>by subst e;first|omega|(simp at V))]
def RefV (b:Nat)(d:Dcl)(L:List Ent):HP:=Ex1 fun vt=>Ex1 fun vp=>Ex1 fun ve=>Star [Blk b #[vt,vp,ve] 103,RowE (α:=Typ) own 74 vt d.types,RowE (α:=Prj) own 112 vp d.projs,RowE (α:=Ent) own 96 ve L]
section
variable {G:Nat→Prop}{W w:World}{As:List HP}{b:Nat}{d:Dcl}{L:List Ent}
theorem RefV.open (h:Sep G W (RefV b d L::As) w): ∃vt vp ve,Sep G W (Blk b #[vt,vp,ve] 103::RowE (α:=Typ) own 74 vt d.types::RowE (α:=Prj) own 112 vp d.projs::RowE (α:=Ent) own 96 ve L::As) w:=by
 obtain⟨vt,h⟩:=h.openEx
 obtain⟨vp,h⟩:=h.openEx
 obtain⟨ve,h⟩:=h.openEx
 exact⟨vt,vp,ve,h.openStar⟩
theorem RefV.close {vt vp ve:Value}(h:Sep G W (Blk b #[vt,vp,ve] 103::RowE (α:=Typ) own 74 vt d.types::RowE (α:=Prj) own 112 vp d.projs::RowE (α:=Ent) own 96 ve L::As) w):Sep G W (RefV b d L::As) w:=by
 have h:=Sep.closeStar (Bs:=[Blk b #[vt,vp,ve] 103,RowE (α:=Typ) own 74 vt d.types,RowE (α:=Prj) own 112 vp d.projs,RowE (α:=Ent) own 96 ve L]) h
 exact Sep.closeEx (A:=fun vt=>Ex1 fun vp=>Ex1 fun ve=>Star [Blk b #[vt,vp,ve] 103,RowE (α:=Typ) own 74 vt d.types,RowE (α:=Prj) own 112 vp d.projs,RowE (α:=Ent) own 96 ve L]) vt (Sep.closeEx (A:=fun vp=>Ex1 fun ve=>Star [Blk b #[vt,vp,ve] 103,RowE (α:=Typ) own 74 vt d.types,RowE (α:=Prj) own 112 vp d.projs,RowE (α:=Ent) own 96 ve L]) vp (Sep.closeEx (A:=fun ve=>Star [Blk b #[vt,vp,ve] 103,RowE (α:=Typ) own 74 vt d.types,RowE (α:=Prj) own 112 vp d.projs,RowE (α:=Ent) own 96 ve L]) ve h))
theorem RefV.sh (h:(RefV b d L).p W G): ∃vt vp ve,(Blk b #[vt,vp,ve] 103).p W G∧RdS W G vt d.types∧RdS W G vp d.projs∧RdS W G ve L:=by
 obtain⟨vt,vp,ve,h⟩:=h
 exact⟨vt,vp,ve,Star.at_ h (i:=0) rfl,RowE.rd (T:=74) (Star.at_ h (i:=1) rfl),RowE.rd (T:=112) (Star.at_ h (i:=2) rfl),RowE.rd (T:=96) (Star.at_ h (i:=3) rfl)⟩
end
theorem xl {e:Ev}{de0:Value}(hde0:RdS W G de0 e.deps)(oe:e.Ok)(hS0:Sep G W Rs w):Ret Tryz.prog 56 [.agg (e.cells de0).toArray] w (fun r w'=> ∃(v:Value),r=(.agg (e.cells v).toArray:Value)∧Sep G W ((RowE (α:=Int) own 3 v e.deps)::Rs) w'):=by
 have hde0s:_*8≤_:=hde0.small
 refine zi (args:=[.agg (e.cells de0).toArray]) Tryz.func56 rfl rfl ?_
 refine za (R0 fun _=>st (zM (v:=.agg (e.cells de0).toArray) rfl ?_))
 intro w3 b2 n
 refine st (zq qY ?_)
 intro w7 p o
 have i:=(hS0.new n).new o
 refine zb (za (R0 fun _=>st (yQ rfl (st (lD de0 kR rfl (zd (i.b1) rfl) (st (cL Tryz.call90 (WO (l:=e.deps) (vl:=de0) hde0 i) ?_)))))))
 rintro g w10 ⟨_,rfl,a⟩
 have d:=a.r0
 have hr12s:_*8≤_:=d.2
 refine st (yQ rfl (stn (ym (v:=g) (c:=[Iv (e.origin),Iv (e.seq),Iv (e.lam),de0,Iv (e.typ),Iv (e.agg),Iv (e.field),Iv (e.op),Iv (e.arg),Iv (e.key)]) (c':=[Iv (e.origin),Iv (e.seq),Iv (e.lam),g,Iv (e.typ),Iv (e.agg),Iv (e.field),Iv (e.op),Iv (e.arg),Iv (e.key)]) tR rfl rfl (a.b2) d.1.one rfl rfl ?_)))
 intro w13 j
 have ok15:Ev.Ok e:=⟨(show InR (e.origin)from oe.origin),(show InR (e.seq)from oe.seq),(show InR (e.lam)from oe.lam),(show InR (e.typ)from oe.typ),(show InR (e.agg)from oe.agg),(show InR (e.field)from oe.field),(show InR (e.op)from oe.op),(show InR (e.arg)from oe.arg),(show InR (e.key)from oe.key)⟩
 have f:=a.pt2 j
 refine zb (za (R0 fun _=>st (zh (k:=10) wT pT rfl rfl (CellsAt.all (f.b2)) (stn (zp (v:=.agg (e.cells g).toArray) (c':=(e.cells g).toArray) pT rfl rfl (f.b1) (zX ⟨rfl,rfl,rfl,d.1.one,rfl,rfl,rfl,rfl,rfl,rfl,trivial⟩) yqc rfl ?_)))))
 intro w17 m
 have h:=f.pt1 m
 refine zb (zk (Ve (b:=p) Tryz.results56 wT pT rfl rfl (CellsAt.all (h.b1)) ?_))
 refine⟨g,rfl,(h.s3_a)⟩
theorem Vb {vl:Value}{l:List Ent}(hl:RdS W G vl l)(hS0:Sep G W Rs w):Ret Tryz.prog 59 [vl] w (fun r w'=> ∃(v:Value),r=(v:Value)∧Sep G W ((RowE (α:=Ent) own 96 v l)::Rs) w'):=by
 have hls:_*120≤_:=hl.small
 refine zi (args:=[vl]) Tryz.func59 rfl rfl ?_
 refine za (R0 fun _=>st (aS (Iz) (zb (za (R0 fun _=>st (aS (Iz) (zb (za (za (R0 fun _=>st (aS (Iv 0) (zb (zn ?_)))))))))))))
 have L:Sep G W ((RowE (α:=Ent) own 96 (Iz) ([]:List Ent))::Rs) w:=hS0.rowNil own 96
 refine zZ (fun mq σ P=> ∃(k:Nat) (vo:Value) (ρ:Env),mq=l.length-k∧σ=yd ρ [(0,vl),(4,Iw k),(3,vo)]∧(k≤l.length)∧Sep G W ((RowE (α:=Ent) own 96 vo (l.take k))::Rs) P) ⟨0,(Iz),_,rfl,sSf,Nat.zero_le _,L⟩ ?_
 rintro m3 σ4 w2 ⟨k,vo,ρl1,rfl,rfl,hkk,f⟩
 let R:=zN W (sb vl) (so vl+k*13+3)
 have M:=f.r0
 have hr6s:_*120≤_:=M.2
 refine za (za (R0 fun _=>st (mV (Iw k) (st (mV vl (st (zJ (n:=l.length) mT rfl hl.sl (st (zC (k:=.i64) (a:=((k:Nat):Int)) (b:=((l.length:Nat):Int)) rfl rfl (zb ?_))))))))))
 cases j:decide (((k:Nat):Int)<((l.length:Nat):Int))
 have j:=fD j
 have hkn:k=l.length:=by omega
 rw[hkn,List.take_of_length_le (Nat.le_refl l.length)]at f
 have N:=f.r0
 have hr8s:_*120≤_:=N.2
 refine ze rfl (ya (zS (za (R0 fun _=>st (mV vo (st (aS vo (zb (zk (zG Tryz.results59 (show _=(vo:Value)from rfl) ?_))))))))))
 refine⟨vo,rfl,f⟩
 have j:=tD j
 refine zg rfl (zl (za (zn (za (R0 fun _=>st (mV vl (st (mV (Iw k) ?_))))))))
 have O:k<l.length:=bo
 refine st (zj (k:=13) (i:=k) mT nT rfl hl.sl rfl O ?_)
 have o:k<l.length:=bo
 obtain⟨z,d,g⟩:=hl.entD o
 have hsm12:((l.getD k default).ev.deps).length*8≤140737488355328:=d.small
 have A:=f.cells z (hl.foot (ne_of_lt o))
 refine st (zh (k:=13) rY nT rfl rfl A (st (zq sY ?_)))
 intro w16 b15 D
 have p:=f.new D
 refine stn (zp (v:=.agg ((l.getD k default).cells R).toArray) (c':=((l.getD k default).cells R).toArray) nT rfl rfl (p.b0) (zX ⟨rfl,rfl,rfl,d.sl.one,rfl,rfl,rfl,rfl,rfl,rfl,rfl,rfl,rfl,trivial⟩) yqc rfl ?_)
 intro w18 E
 have q:=p.pt0 E
 refine zb (za (R0 fun _=>st (Yr rfl (st (zh (k:=10) (cs:=[Iv ((l.getD k default).ev.origin),Iv ((l.getD k default).ev.seq),Iv ((l.getD k default).ev.lam),R,Iv ((l.getD k default).ev.typ),Iv ((l.getD k default).ev.agg),Iv ((l.getD k default).ev.field),Iv ((l.getD k default).ev.op),Iv ((l.getD k default).ev.arg),Iv ((l.getD k default).ev.key)]) wT pT rfl rfl (CellsAt.sub (CellsAt.all (q.b0)) 0 (cs2:=[Iv ((l.getD k default).ev.origin),Iv ((l.getD k default).ev.seq),Iv ((l.getD k default).ev.lam),R,Iv ((l.getD k default).ev.typ),Iv ((l.getD k default).ev.agg),Iv ((l.getD k default).ev.field),Iv ((l.getD k default).ev.op),Iv ((l.getD k default).ev.arg),Iv ((l.getD k default).ev.key)]) rfl) (st (cL Tryz.call56 (xl (e:=((l.getD k default).ev)) d g.ev q) ?_)))))))
 rintro _ w22 ⟨m,rfl,h⟩
 have s:=h.r0
 have hr24s:_*8≤_:=s.2
 refine st (Yr rfl (stn (zp (v:=.agg (((l.getD k default).ev).cells m).toArray) (c':=#[Iv (((l.getD k default).ev).origin),Iv (((l.getD k default).ev).seq),Iv (((l.getD k default).ev).lam),m,Iv (((l.getD k default).ev).typ),Iv (((l.getD k default).ev).agg),Iv (((l.getD k default).ev).field),Iv (((l.getD k default).ev).op),Iv (((l.getD k default).ev).arg),Iv (((l.getD k default).ev).key),.bool ((l.getD k default).void),Iv ((l.getD k default).byO),Iv ((l.getD k default).byS)]) pT rfl rfl (h.b1) (zX ⟨rfl,rfl,rfl,s.1.one,rfl,rfl,rfl,rfl,rfl,rfl,trivial⟩) yqc rfl ?_)))
 intro w25 F
 have t:=h.pt1 F
 refine zb (R0 fun _=>st (mV vo (st (zh (k:=13) rY nT rfl rfl (CellsAt.all (t.b1)) (st (zI (k:=13) (parts':=[(0,.agg ((l.getD k default).cells m).toArray)]) (c:=((l.getD k default).cells m).toArray) mT nT sY dc rfl kr ?_))))))
 intro w30 b29 H
 have u:=t.new H
 have B:=u.b0
 refine st (yj (src:=own) (bytes:=120) (x1:=(l.getD k default)) (u.s4_dbc) zcc rfl rfl B (fun _ _ Q=>⟨_,rfl,RowE.soft Q,g⟩) yqb rfl ?_)
 intro C w32 x
 have I:=x.r0
 have hr37s:_*120≤_:=I.2
 refine st (aS C (zb (R0 fun _=>st (mV (Iw k) ?_))))
 have J:InR ((k+1:Nat):Int):=bo
 refine st (zP (r:=((k+1:Nat):Int)) (k:=.i64) (a:=((k:Nat):Int)) (b:=1) rfl rfl (by rw[show(((k:Nat):Int)+1:Int)=((k+1:Nat):Int)from bo];exact zF J) (st (aS (Iw (k+1)) (zb ?_))))
 have y:=x.s2_a
 have K:(l.take (k+1))=(l.take k)++[(l.getD k default)]:=(List.take_getD om)
 rw[←K]at y
 exact⟨_,by omega,k+1,C,_,rfl,sSf,by omega,y⟩
theorem QK {d:Dcl}{dd0:Value}(hdd0:RdS W G dd0 d.types){dd1:Value}(hdd1:RdS W G dd1 d.projs)(od:d.Ok)(hS0:Sep G W Rs w):Ret Tryz.prog 74 [.agg (d.cells dd0 dd1).toArray] w (fun r w'=> ∃(b:Nat),r=(.pointer (some ⟨b,0,none⟩):Value)∧Sep G W ((RefV b d ([]:List Ent))::Rs) w'):=by
 have hdd0s:_*24≤_:=hdd0.small
 have hdd1s:_*40≤_:=hdd1.small
 refine zi (args:=[.agg (d.cells dd0 dd1).toArray]) Tryz.func74 rfl rfl ?_
 refine za (R0 fun _=>st (zM (v:=.agg (d.cells dd0 dd1).toArray) rfl ?_))
 intro w3 b2 m
 have f:=hS0.new m
 refine st (aS (.pointer none) (zb (za (R0 fun _=>st (zh (k:=2) Tryz.isAgg25 Tryz.sizeOf25 rfl rfl (CellsAt.all (f.b0)) (st (cL Tryz.call96 (Qo (d:=d) hdd0 hdd1 od f) ?_)))))))
 rintro _ w7 ⟨a,e,rfl,g⟩
 have n:=g.r1
 have hr9s:_*40≤_:=n.2
 refine st (zL (parts':=[(0,.agg (d.cells a e).toArray)]) (v:=.agg #[a,e,(Iz)]) rfl (by simp[Instr.build,Instr.fill,go_sem,Dcl.cells]) (st (zM (v:=.agg #[a,e,(Iz)]) rfl ?_)))
 intro w12 c h
 refine st (aS (Ix c 0) (zb (zk (zG Tryz.results74 (show _=(Ix c 0:Value)from rfl) ?_))))
 have i:Sep _ _ ((RowE (α:=Typ) own 74 a d.types)::_) _:=TypW.row ((g.new h).mv1)
 have j:Sep _ _ ((RowE (α:=Ent) own 96 (Iz) ([]:List Ent))::_) _:=i.rowNil own 96
 have l:Sep _ _ ((RefV c d ([]:List Ent))::_) _:=RefV.close (d:=d) (L:=([]:List Ent)) (j.s5_cbdae)
 refine⟨c,rfl,(l.s2_a)⟩
theorem VX {b:Nat}{d:Dcl}{L:List Ent}(hb:(RefV b d L).p W G)(hS0:Sep G W Rs w):Ret Tryz.prog 20 [.pointer (some ⟨b,0,none⟩)] w (fun r w'=> ∃(v:Value),r=(v:Value)∧Sep G W ((RowE (α:=Ent) own 96 v L)::Rs) w'):=by
 refine zi (args:=[Ix b 0]) Tryz.func20 rfl rfl ?_
 obtain⟨vt1,vp2,e,h,i,j,f⟩:=RefV.sh hb
 have hsm8:d.types.length*24≤140737488355328:=i.small
 have hsm9:d.projs.length*40≤140737488355328:=j.small
 have hsm10:L.length*120≤140737488355328:=f.small
 refine za (R0 fun _=>st (aS (Iz) (zb (za (R0 fun _=>st (mV (Ix b 0) (st (zo (b:=b) (o:=0) rfl (st (Zk rfl (st (lD e pR rfl (zd (hS0.gblk h) rfl) (st (cL Tryz.call59 (Vb (l:=L) (vl:=e) f hS0) ?_))))))))))))))
 rintro a w12 ⟨_,rfl,c⟩
 have g:=c.r0
 have hr14s:_*120≤_:=g.2
 refine st (aS a (zb (zk (zG Tryz.results20 (show _=(a:Value)from rfl) ?_))))
 refine⟨a,rfl,c⟩
end
section
set_option maxRecDepth 8000
set_option maxHeartbeats 4000000
open Go.Proofs Go.RowKit
def Ran (d:Dcl)(L:List Ent):Prop:= ∃l,L=zD d l
theorem Ran.inv {d:Dcl}{L:List Ent}(hd:DclOk d)(h:Ran d L):Inv d L:=by
 obtain⟨l,rfl⟩:=h
 exact Inv.run hd l
theorem Ran.zero {d:Dcl}{L:List Ent}{ty no:Int}(h:Ran d L)(ht:ty<0∨(d.types.length:Int)≤ty):yh (ty,no) L=0:=by
 obtain⟨l,rfl⟩:=h
 by_cases hv:yh (ty,no) (zD d l)=0
 ·exact hv
 ·have:=zck l hv
  omega
theorem Ran.done {d:Dcl}{L:List Ent}{ty no:Int}(hd:DclOk d)(h:Ran d L){i:Nat}(hi:i<L.length)(hon:onL (ty,no) (L.getD i default)=true):Yw (xX d ty) (zO d (ty,no) (L.take i)) (L.getD i default).ev.field (L.getD i default).ev.op (L.getD i default).ev.arg∧((zO d (ty,no) (L.take i)).getD (L.getD i default).ev.field.toNat default).set.length≤1000:=by
 obtain⟨l,rfl⟩:=h
 rw[ZL]at hi
 have hat:=KJ (d:=d) hi
 have hev:=zcU (d:=d) hi
 unfold onL at hon
 simp only[Bool.and_eq_true,Bool.not_eq_true',decide_eq_true_eq]at hon
 obtain⟨hv,h1,h2⟩:=hon
 subst h1 h2
 rw[hat]at hv
 obtain⟨hf,hm⟩:=Xy (d:=d) (L:=(zD d l).take i) (e:=l.getD i default) hv
 obtain⟨f1,f2,hft⟩:=Yb hf
 rw[hev]
 have hR:Right (xX d (l.getD i default).typ) (zO d ((l.getD i default).typ,(l.getD i default).agg) ((zD d l).take i)):=by rw[←JF];exact Inv.run hd _ _ _ f1 f2
 exact⟨hft.ask (hd.typ _ (by omega)) hR,zag hR hft.lo hft.hi⟩
theorem zcs {d:Dcl}{k:Int×Int}{L:List Ent}{j:Nat}(hj:j<L.length)(h:onL k (L.getD j default)=true):zO d k (L.take (j+1))=doL (xX d k.1) (zO d k (L.take j)) (L.getD j default).ev.field (L.getD j default).ev.op (L.getD j default).ev.arg:=by
 have e:L.take (j+1)=L.take j++[L.getD j default]:=by rw[List.take_add_one,List.getElem?_eq_getElem hj,List.getD_eq_getElem?_getD,List.getElem?_eq_getElem hj];rfl
 rw[e,xR,if_pos h]
theorem zcO {d:Dcl}{k:Int×Int}{L:List Ent}{j:Nat}(hj:j<L.length)(h:onL k (L.getD j default)=false):zO d k (L.take (j+1))=zO d k (L.take j):=by
 have e:L.take (j+1)=L.take j++[L.getD j default]:=by rw[List.take_add_one,List.getElem?_eq_getElem hj,List.getD_eq_getElem?_getD,List.getElem?_eq_getElem hj];rfl
 rw[e,xR,h];rfl
theorem ZI {d:Dcl}{k:Int×Int}{L:List Ent}(h:yh k L=0):XR d k L=⟨0,[]⟩∧(zw d L k).isSome=false∧stL d k L=[]:=by
 have h1:stL d k L=[]:=if_pos h
 refine⟨?_,?_,h1⟩
 ·unfold XR;rw[h1,h];rfl
 ·unfold zw;rw[if_pos h];rfl
theorem Wj {d:Dcl}{k:Int×Int}{L:List Ent}(h: ¬yh k L=0):(zw d L k).isSome=true∧stL d k L=zO d k L:=by
 refine⟨?_,if_neg h⟩
 unfold zw;rw[if_neg h];rfl
theorem Wz {b:Nat}{d:Dcl}{L:List Ent}(hb:(RefV b d L).p W G){ty:Int}(hty:InR ty){no:Int}(hno:InR no)(hS0:Sep G W Rs w)(hd:DclOk d)(hrl:Ran d L)(hml:L.length≤1000000):Ret Tryz.prog 46 [.pointer (some ⟨b,0,none⟩),.int .i64 (ty),.int .i64 (no)] w (fun r w'=> ∃(v:Value),r=(.tuple #[.agg ((XR d (ty,no) L).cells v).toArray,.bool ((zw d L (ty,no)).isSome)]:Value)∧Sep G W ((RowE (α:=Cel) own 140 v (stL d (ty,no) L))::Rs) w'):=by
 refine zi (args:=[Ix b 0,Iv ty,Iv no]) Tryz.func46 rfl rfl ?_
 obtain⟨g,vp2,h,K,M,bw,y⟩:=RefV.sh hb
 let bz:=zN W (sb g) (so g+ty.toNat*1+0)
 let bA:=(d.types.getD ty.toNat default).cells bz
 have hsm8:d.types.length*24≤140737488355328:=M.small
 have hsm9:d.projs.length*40≤140737488355328:=bw.small
 have hsm10:L.length*120≤140737488355328:=y.small
 refine za (R0 fun _=>st (zq tY ?_))
 intro w13 z aV
 have u:=hS0.new aV
 refine st (aS (.bool false) (zb (za (za (zA kr (st (mV (Iv ty) (st (zC (k:=.i64) (a:=ty) (b:=0) rfl rfl (st (mV (.bool (decide (ty<0))) (stc (V:=Iv ty) rfl rfl (fun aW=>?_) ?_))))))))))))
 have hl16:=fD aW
 exact mV (Iv ty) ⟨rfl,rfl⟩
 refine stc (V:=Ix b 0) rfl rfl (fun aX=>?_) ?_
 have hl18:=fD aX
 exact mV (Ix b 0) ⟨rfl,rfl⟩
 refine stc (V:=Ix b 0) rfl rfl (fun ac=>?_) ?_
 have hl20:=fD ac
 exact zo (b:=b) (o:=0) (if_pos ac) ⟨rfl,rfl⟩
 refine stc (V:=Ix b 0) rfl rfl (fun ad=>?_) ?_
 have hl22:=fD ad
 exact Ya (if_pos ad) ⟨rfl,rfl⟩
 refine stc (V:=Ix b 0) rfl rfl (fun ae=>?_) ?_
 have hl24:=fD ae
 exact yC (if_pos ae) ⟨rfl,rfl⟩
 refine stc (V:=g) rfl rfl (fun af=>?_) ?_
 have hl26:=fD af
 exact lD g uY (if_pos af) (zd (u.gblk K) rfl) ⟨rfl,rfl⟩
 refine stc (V:=Iw d.types.length) rfl rfl (fun ag=>?_) ?_
 have hl28:=fD ag
 exact zJ (n:=d.types.length) vY (if_pos ag) M.sl ⟨rfl,rfl⟩
 refine stc (V:=.bool (decide (((d.types.length:Nat):Int)≤ty))) rfl rfl (fun P=>?_) ?_
 have hl30:=fD P
 exact yR (k:=.i64) (a:=ty) (b:=((d.types.length:Nat):Int)) (if_pos P) (if_pos P) ⟨rfl,rfl⟩
 refine st (zt (b:=decide (ty<0)) (b':=decide (((d.types.length:Nat):Int)≤ty)) rfl (fun hbp=>(if_pos hbp)) (zb ?_))
 cases Q:(decide (ty<0))||(decide (((d.types.length:Nat):Int)≤ty))
 have hc31r:=Q
 try simp only[zf]at Q
 refine ze rfl (zl (za (R0 fun _=>st (mV (Ix b 0) (st (zo (b:=b) (o:=0) rfl (st (Ya rfl (st (yC rfl (st (lD g uY rfl (zd (u.gblk K) rfl) (st (mV (Iv ty) ?_))))))))))))))
 have hi32:ty.toNat<d.types.length:=bo
 refine st (zr (k:=1) (i:=ty) vY lR rfl M.sl rfl ⟨by omega,by omega⟩ ?_)
 have ah:ty.toNat<d.types.length:=bo
 obtain⟨ax,m,N⟩:=M.typD ah
 have hsm35:((d.types.getD ty.toNat default).fields).length*48≤140737488355328:=m.small
 have ay:=u.cells ax (M.foot (ne_of_lt ah))
 refine st (zh (k:=1) vR lR rfl rfl ay (st (zq Tryz.zeroValue74 ?_)))
 intro w39 ai aY
 have aj:=u.new aY
 refine stn (zp (v:=.agg bA.toArray) (c':=bA.toArray) lR rfl rfl (aj.b0) (zX ⟨m.sl.one,trivial⟩) yqc rfl ?_)
 intro w41 aZ
 have ak:=aj.pt0 aZ
 refine zb (za (R0 fun _=>st (zh (k:=1) vR lR rfl rfl (CellsAt.all (ak.b0)) (st (cL Tryz.call47 (YT (t:=(d.types.getD ty.toNat default)) m N ak) ?_)))))
 rintro F w45 ⟨_,rfl,al⟩
 have R:=al.r0
 have hr47s:_*32≤_:=R.2
 refine st (zL (parts':=[(1,F)]) (v:=.agg #[Iv 0,F]) rfl (by obtain⟨_,_,ba,_⟩:=R.1;rw[show F=Value.slice _ _ _ from ba];simp[Instr.build,Instr.fill,Ev.cells,go_sem,Mv.cells,Fld.cells,Typ.cells,Prj.cells,Dcl.cells,Cel.cells,AskR.cells,CelS.cells,Ev.cells,Ent.cells,Sta.cells,Cmd.cells]) (st (zq tY ?_)))
 intro w51 am bb
 have an:=al.new bb
 refine stn (zp (v:=.agg #[Iv 0,F]) (c':=#[Iv 0,F]) sT rfl rfl (an.b0) (zX ⟨rfl,R.1.one,trivial⟩) yqc rfl ?_)
 intro w53 bc
 refine zb (za (za (R0 fun _=>st (aS (Iv 0) (zb (zn (zZ (fun mq σ wq=> ∃(k:Nat) (vs:Value) (ρ:Env),mq=L.length-k∧σ=yd ρ [(0,Ix b 0),(1,Iv ty),(2,Iv no),(6,Ix z 0),(7,.bool false),(8,Ix ai 0),(9,Ix am 0),(10,Iw k)]∧(k≤L.length)∧Sep G W ((Blk am #[Iw (yh (ty,no) (L.take k)),vs] 77)::(RowE (α:=Cel) own 140 vs (zO d (ty,no) (L.take k)))::(Blk ai ((d.types.getD ty.toNat default).cells (zN W (sb g) (so g+ty.toNat*1+0))).toArray 74)::(Blk z #[Iv 0,(Iz)] 77)::Rs) wq) ⟨0,F,_,rfl,sSf,Nat.zero_le _,(an.pt0 bc)⟩ ?_)))))))
 rintro m57 σ58 w56 ⟨k,vs,ρl1,rfl,rfl,hkk,e⟩
 let p:=zN W (sb h) (so h+k*13+3)
 have bd:=e.r1
 have hr60s:_*32≤_:=bd.2
 have ao:=Xa (ty,no) (L.take k)
 rw[List.length_take]at ao
 refine za (za (R0 fun _=>st (mV (Iw k) (st (mV (Ix b 0) (st (zo (b:=b) (o:=0) rfl (st (Zk rfl (st (lD h pR rfl (zd (e.gblk K) rfl) (st (zJ (n:=L.length) mT rfl y.sl (st (zC (k:=.i64) (a:=((k:Nat):Int)) (b:=((L.length:Nat):Int)) rfl rfl (zb ?_))))))))))))))))
 cases A:decide (((k:Nat):Int)<((L.length:Nat):Int))
 have hc61r:=A
 have A:=fD A
 have hkn:L.take k=L:=List.take_of_length_le om
 try simp+zetaDelta only at e
 rw[hkn]at e ao
 refine ze rfl (ya (zS (za (za (R0 fun _=>st (Xt rfl (st (lD (Iw (yh (ty,no) L)) lT rfl (zd (e.b0) rfl) (st (zR (k:=.i64) (a:=((yh (ty,no) L:Nat):Int)) (b:=0) rfl rfl (zb ?_)))))))))))
 cases B:decide (((yh (ty,no) L:Nat):Int)=0)
 have hc62r:=B
 have B:=fD B
 have l: ¬yh (ty,no) L=0:=by omega
 refine ze rfl (zl (za (R0 fun _=>st (zh (k:=2) qR sT rfl rfl (CellsAt.all (e.b0)) ?_))))
 have ap:=e.r1
 have hr65s:_*32≤_:=ap.2
 refine stn (zp (v:=.agg #[Iw (yh (ty,no) L),vs]) (c':=#[Iw (yh (ty,no) L),vs]) sT rfl rfl (e.b3) (zX ⟨rfl,ap.1.one,trivial⟩) yqc rfl ?_)
 intro w63 be
 have aq:=e.pt3 be
 refine st (aS (.bool true) (zb (zk (xD (b:=z) wR qR sT rfl rfl (CellsAt.all (aq.b3)) (show _=(.bool true:Value)from rfl) ?_))))
 have S:=aq.s4_b
 try simp+zetaDelta only at S
 rw[←(Wj (d:=d) l).2]at S
 refine⟨vs,?_,S⟩
 rw[(Wj (d:=d) l).1];unfold XR;rw[(Wj (d:=d) l).2];rfl
 have B:=tD B
 have l:yh (ty,no) L=0:=by omega
 refine zg rfl (za (yq (by kernel_rfl) (fun _=>(st (zL (parts':=[]) (v:=.agg #[Iv 0,(Iz)]) rfl (by simp+zetaDelta [Instr.build,Instr.fill,Ev.cells,go_sem,Mv.cells,Fld.cells,Typ.cells,Prj.cells,Dcl.cells,Cel.cells,AskR.cells,CelS.cells,Ev.cells,Ent.cells,Sta.cells,Cmd.cells]) (stn (zp (v:=.agg #[Iv 0,(Iz)]) (c':=#[Iv 0,(Iz)]) sT rfl rfl (e.b3) (zX ⟨rfl,rfl,trivial⟩) yqc rfl ?_)))))))
 intro bx bf
 have ar:=e.pt3 bf
 refine st (aS (.bool false) (zb (zk (xD (b:=z) wR qR sT rfl rfl (CellsAt.all (ar.b3)) (show _=(.bool false:Value)from rfl) ?_))))
 have bg:Sep G W ((RowE (α:=Cel) own 140 (Iz) (stL d (ty,no) L))::(Blk am #[Iw (yh (ty,no) L),vs] 77)::(RowE (α:=Cel) own 140 vs (zO d (ty,no) L))::(Blk ai bA.toArray 74)::(Blk z #[Iv 0,(Iz)] 77)::Rs) bx:=(by rw[(ZI (d:=d) l).2.2];exact ar.rowNil own 140)
 refine⟨(Iz),?_,(bg.s5_a)⟩
 rw[(ZI (d:=d) l).1,(ZI (d:=d) l).2.1];rfl
 have A:=tD A
 refine zg rfl (zl (za (zn (za (R0 fun _=>st (mV (Ix b 0) (st (zo (b:=b) (o:=0) rfl (st (Zk rfl (st (lD h pR rfl (zd (e.gblk K) rfl) (st (mV (Iw k) ?_))))))))))))))
 have bh:k<L.length:=bo
 refine st (zj (k:=13) (i:=k) mT nT rfl y.sl rfl bh (st (Yr rfl ?_)))
 have T:k<L.length:=bo
 obtain⟨X,H,C⟩:=y.entD T
 have hsm76:((L.getD k default).ev.deps).length*8≤140737488355328:=H.small
 have az:=e.cells X (y.foot (ne_of_lt T))
 refine st (zh (k:=10) (cs:=[Iv ((L.getD k default).ev.origin),Iv ((L.getD k default).ev.seq),Iv ((L.getD k default).ev.lam),p,Iv ((L.getD k default).ev.typ),Iv ((L.getD k default).ev.agg),Iv ((L.getD k default).ev.field),Iv ((L.getD k default).ev.op),Iv ((L.getD k default).ev.arg),Iv ((L.getD k default).ev.key)]) wT pT rfl rfl (CellsAt.sub az 0 (cs2:=[Iv ((L.getD k default).ev.origin),Iv ((L.getD k default).ev.seq),Iv ((L.getD k default).ev.lam),p,Iv ((L.getD k default).ev.typ),Iv ((L.getD k default).ev.agg),Iv ((L.getD k default).ev.field),Iv ((L.getD k default).ev.op),Iv ((L.getD k default).ev.arg),Iv ((L.getD k default).ev.key)]) rfl) (st (zq qY ?_)))
 intro w80 aU bi
 have au:=e.new bi
 refine stn (zp (v:=.agg (((L.getD k default).ev).cells p).toArray) (c':=(((L.getD k default).ev).cells p).toArray) pT rfl rfl (au.b0) (zX ⟨rfl,rfl,rfl,H.sl.one,rfl,rfl,rfl,rfl,rfl,rfl,trivial⟩) yqc rfl ?_)
 intro w82 bj
 have f:=au.pt0 bj
 refine zb (za (zA kr (st (mV (Ix b 0) (st (zo (b:=b) (o:=0) rfl (st (Zk rfl (st (lD h pR rfl (zd (f.gblk K) rfl) (st (mV (Iw k) ?_))))))))))))
 have bk:k<L.length:=bo
 refine st (zj (k:=13) (i:=k) mT nT rfl y.sl rfl bk (st (VS rfl ?_)))
 have aA:=f.cells X (y.foot (ne_of_lt T))
 refine st (lD (.bool ((L.getD k default).void)) oR rfl (aA.get (j:=10) rfl) (st (yB (a:=(L.getD k default).void) rfl (st (mV (.bool (!((L.getD k default).void))) (stc (V:=Ix aU 4) rfl rfl (fun bl=>?_) ?_))))))
 have bm:=bl
 try simp only[zf]at bm
 exact xr rfl ⟨rfl,rfl⟩
 refine stc (V:=Iv (((L.getD k default).ev).typ)) rfl rfl (fun av=>?_) ?_
 have bn:=av
 try simp only[zf]at bn
 exact lD (Iv (((L.getD k default).ev).typ)) lT (if_pos av) (zd (f.b0) rfl) ⟨rfl,rfl⟩
 refine stc (V:=Iv ty) rfl rfl (fun bp=>?_) ?_
 have bq:=bp
 try simp only[zf]at bq
 exact mV (Iv ty) ⟨rfl,rfl⟩
 refine stc (V:=.bool (decide ((((L.getD k default).ev).typ)=ty))) rfl rfl (fun U=>?_) ?_
 have br:=U
 try simp only[zf]at br
 exact zR (k:=.i64) (a:=((L.getD k default).ev).typ) (b:=ty) (if_pos U) (if_pos U) ⟨rfl,rfl⟩
 refine st (zy (b:= !((L.getD k default).void)) (b':=decide ((((L.getD k default).ev).typ)=ty)) rfl (fun hbp=>(if_pos hbp)) (st (mV (.bool ((!((L.getD k default).void))&&(decide ((((L.getD k default).ev).typ)=ty)))) (stc (V:=Ix aU 5) rfl rfl (fun bs=>?_) ?_))))
 have bt:=bs
 try simp only[zf]at bt
 exact ZC rfl ⟨rfl,rfl⟩
 refine stc (V:=Iv (((L.getD k default).ev).agg)) rfl rfl (fun aw=>?_) ?_
 have bu:=aw
 try simp only[zf]at bu
 exact lD (Iv (((L.getD k default).ev).agg)) lT (if_pos aw) (zd (f.b0) rfl) ⟨rfl,rfl⟩
 refine stc (V:=Iv no) rfl rfl (fun aB=>?_) ?_
 have aC:=aB
 try simp only[zf]at aC
 exact mV (Iv no) ⟨rfl,rfl⟩
 refine stc (V:=.bool (decide ((((L.getD k default).ev).agg)=no))) rfl rfl (fun I=>?_) ?_
 have aD:=I
 try simp only[zf]at aD
 exact zR (k:=.i64) (a:=((L.getD k default).ev).agg) (b:=no) (if_pos I) (if_pos I) ⟨rfl,rfl⟩
 refine st (zy (b:=(!((L.getD k default).void))&&(decide ((((L.getD k default).ev).typ)=ty))) (b':=decide ((((L.getD k default).ev).agg)=no)) rfl (fun hbp=>(if_pos hbp)) (zb ?_))
 cases x:((!((L.getD k default).void))&&(decide ((((L.getD k default).ev).typ)=ty)))&&(decide ((((L.getD k default).ev).agg)=no))
 have D:=x
 try simp only[zf]at x
 have honfalse:onL (ty,no) (L.getD k default)=false:=onL_raw.trans D
 refine ze rfl (zl (R0 fun _=>st (mV (Iw k) ?_)))
 have aE:InR ((k+1:Nat):Int):=bo
 refine st (zP (r:=((k+1:Nat):Int)) (k:=.i64) (a:=((k:Nat):Int)) (b:=1) rfl rfl (by rw[show(((k:Nat):Int)+1:Int)=((k+1:Nat):Int)from bo];exact zF aE) (st (aS (Iw (k+1)) (zb ?_))))
 have q:=f.s5_bcde
 have aF:yh (ty,no) (L.take (k+1))=yh (ty,no) (L.take k):=ver_f om honfalse
 try simp+zetaDelta only at q
 rw[←aF]at q
 have aG:zO d (ty,no) (L.take (k+1))=(zO d (ty,no) (L.take k)):=zcO om honfalse
 try simp+zetaDelta only at q
 rw[←aG]at q
 exact⟨_,by omega,k+1,vs,_,rfl,sSf,by omega,q⟩
 have D:=x
 try simp only[zf]at x
 have hontrue:onL (ty,no) (L.getD k default)=true:=onL_raw.trans D
 have hdn:=Ran.done hd hrl om hontrue
 refine zg rfl (za (R0 fun _=>st (zh (k:=1) vR lR rfl rfl (CellsAt.all (f.b3)) (st (xO rfl (st (lD vs Tryz.isAgg75 rfl (zd (f.b1) rfl) (st (xt rfl (st (lD (Iv (((L.getD k default).ev).field)) lT rfl (zd (f.b0) rfl) (st (xw rfl (st (lD (Iv (((L.getD k default).ev).op)) lT rfl (zd (f.b0) rfl) (st (xF rfl (st (lD (Iv (((L.getD k default).ev).arg)) lT rfl (zd (f.b0) rfl) ?_)))))))))))))))))))
 obtain⟨G110,aH,aI,aJ,aK⟩:=(f.mv2).lend
 have O:=RowE.rd aH
 have hrd116s:_*32≤_:=O.small
 refine st (cL Tryz.call84 (zbx (t:=(d.types.getD ty.toNat default)) (c:=(zO d (ty,no) (L.take k))) (vc:=vs) (fi:=((L.getD k default).ev).field) (op:=((L.getD k default).ev).op) (arg:=((L.getD k default).ev).arg) (RdS.base m aI) N O C.ev.field C.ev.op C.ev.arg aJ (hdn.1) (hdn.2)) ?_)
 rintro E w118 ⟨_,rfl,Y⟩
 have Z:=Y.r0
 have hr120s:_*32≤_:=Z.2
 have aa:=aK _ _ Y
 refine st (xO rfl (stn (ym (v:=E) (c:=[Iw (yh (ty,no) (L.take k)),vs]) (c':=[Iw (yh (ty,no) (L.take k)),E]) Tryz.sizeOf75 rfl rfl (aa.b3) Z.1.one rfl rfl ?_)))
 intro w122 aL
 have J:=aa.pt3 aL
 refine zb (R0 fun _=>st (Xt rfl (st (lD (Iw (yh (ty,no) (L.take k))) lT rfl (zd (J.b3) rfl) ?_))))
 have aM:InR ((yh (ty,no) (L.take k)+1:Nat):Int):=bo
 refine st (zP (r:=((yh (ty,no) (L.take k)+1:Nat):Int)) (k:=.i64) (a:=((yh (ty,no) (L.take k):Nat):Int)) (b:=1) rfl rfl (by rw[show(((yh (ty,no) (L.take k):Nat):Int)+1:Int)=((yh (ty,no) (L.take k)+1:Nat):Int)from bo];exact zF aM) (st (Xt rfl (stn (ym (v:=Iw (yh (ty,no) (L.take k)+1)) (c:=[Iw (yh (ty,no) (L.take k)),E]) (c':=[Iw (yh (ty,no) (L.take k)+1),E]) qT rfl rfl (J.b3) rfl rfl rfl ?_)))))
 intro w126 aN
 refine zb (R0 fun _=>st (mV (Iw k) ?_))
 have aO:InR ((k+1:Nat):Int):=bo
 refine st (zP (r:=((k+1:Nat):Int)) (k:=.i64) (a:=((k:Nat):Int)) (b:=1) rfl rfl (by rw[show(((k:Nat):Int)+1:Int)=((k+1:Nat):Int)from bo];exact zF aO) (st (aS (Iw (k+1)) (zb ?_))))
 have s:=(J.pt3 aN).s6_dbef
 have aP:yh (ty,no) (L.take (k+1))=yh (ty,no) (L.take k)+1:=ver_t om hontrue
 try simp+zetaDelta only at s
 rw[←aP]at s
 have aQ:zO d (ty,no) (L.take (k+1))=(doL (d.types.getD ty.toNat default) (zO d (ty,no) (L.take k)) (((L.getD k default).ev).field) (((L.getD k default).ev).op) (((L.getD k default).ev).arg)):=zcs om hontrue
 try simp+zetaDelta only at s
 rw[←aQ]at s
 exact⟨_,by omega,k+1,E,_,rfl,sSf,by omega,s⟩
 try simp only[zf]at Q
 have l:yh (ty,no) L=0:=hrl.zero om
 refine zg rfl (za (yq (by kernel_rfl) (fun _=>(st (zL (parts':=[]) (v:=.agg #[Iv 0,(Iz)]) rfl (by simp+zetaDelta [Instr.build,Instr.fill,Ev.cells,go_sem,Mv.cells,Fld.cells,Typ.cells,Prj.cells,Dcl.cells,Cel.cells,AskR.cells,CelS.cells,Ev.cells,Ent.cells,Sta.cells,Cmd.cells]) (stn (zp (v:=.agg #[Iv 0,(Iz)]) (c':=#[Iv 0,(Iz)]) sT rfl rfl (u.b0) (zX ⟨rfl,rfl,trivial⟩) yqc rfl ?_)))))))
 intro bv aR
 have ab:=u.pt0 aR
 refine st (aS (.bool false) (zb (zk (xD (b:=z) wR qR sT rfl rfl (CellsAt.all (ab.b0)) (show _=(.bool false:Value)from rfl) ?_))))
 have aT:Sep G W ((RowE (α:=Cel) own 140 (Iz) (stL d (ty,no) L))::(Blk z #[Iv 0,(Iz)] 77)::Rs) bv:=(by rw[(ZI (d:=d) l).2.2];exact ab.rowNil own 140)
 refine⟨(Iz),?_,(aT.s2_a)⟩
 rw[(ZI (d:=d) l).1,(ZI (d:=d) l).2.1];rfl
end
end Go.Proofs.YtbcdijeggfoabaaGreatDoor
