import Derived.Test.YtbcdijeggfoabaaGreatDoorZ11
set_option maxRecDepth 8000
set_option maxHeartbeats 4000000
set_option linter.unusedSimpArgs false
set_option linter.unusedVariables false
set_option linter.unusedSectionVars false
set_option linter.deprecated false
open Go.Proofs.Tryz renaming sizeOf44→kT,isAgg44→lT,underlying26→mT,isAgg3→nT,zeroValue44→oT,sizeOf49→pT,isAgg25→qT,sizeOf25→rT,isAgg49→sT,isAgg26→tT,results32→uT,results12→vT,underlying27→wT,call56→kR,sizeOf74→lR,call50→mR,underlying42→nR,sizeOf3→oR,results15→pR,results45→qR,isAgg22→rR,underlying22→sR,isAgg74→tR,call51→uR,call49→vR,sizeOf26→wR,call13→kY,call17→lY,call7→mY,call6→nY,results3→oY,call11→pY,call12→qY
namespace Go.Proofs.YtbcdijeggfoabaaGreatDoor
variable {G:Nat→Prop}{W w:World}{Rs:List HP}
section
open Go.Proofs Go.RowKit
section
variable {L:List Ev}{key:Int}{k:Nat}
theorem zbb (hm: ∀i,i<k→ZK key (L.getD i default)=false)(hk:k<L.length)(h:ZK key (L.getD k default)=true):yP L key=some (L.getD k default):=by
 unfold yP
 rw[List.find?_eq_some_iff_getElem]
 rw[zK _ hk]at h⊢
 refine⟨h,k,hk,rfl,fun i hi=>?_⟩
 have:=hm i hi
 rw[zK _ (by omega)]at this
 rw[this];rfl
theorem zae (hm: ∀i,i<L.length→ZK key (L.getD i default)=false):yP L key=none:=by
 unfold yP
 rw[List.find?_eq_none]
 intro x hx
 obtain⟨i,hi,rfl⟩:=List.getElem_of_mem hx
 have:=hm i hi
 rw[zK _ hi]at this
 rw[this];decide
end
theorem zaf {b:Nat}{n:Nat}{L:List Ev}(hb:(RefS b n L).p W G){key:Int}(hkey:InR key)(hS0:Sep G W Rs w):Ret Tryz.prog 45 [.pointer (some ⟨b,0,none⟩),.int .i64 (key)] w (fun r w'=> ∃(v:Value),r=(.tuple #[.agg (((yP L key).getD default).cells v).toArray,.bool (yP L key).isSome]:Value)∧(((yP L key).getD default).Ok)∧Sep G W ((RowE (α:=Int) own 3 v (((yP L key).getD default).deps))::Rs) w'):=by
 refine zm Tryz.func45 rfl rfl ?_
 let p:=((⟨0,0,0,[],0,0,0,0,0,0⟩:Ev).cells Iz)
 obtain⟨d,z,f⟩:=RefS.sh hb
 have hsm4:L.length*96≤140737488355328:=f.small
 refine za (R0 fun _=>st (zv oT ?_))
 intro w7 N ae
 refine st (aS (.bool false) (zb (za (za (R0 fun _=>st (aS (Iv 0) (zb (zu (yf (fun mq σ wq=> ∃k ρ,mq=L.length-k∧σ=yo ρ [(1,Iv key),(4,Ix N 0),(0,Ix b 0),(6,Iw k)]∧(k≤L.length)∧(∀i,i<k→ZK key (L.getD i default)=false)∧Sep G W ((Blk N #[Iv 0,Iv 0,Iv 0,(Iz),Iv 0,Iv 0,Iv 0,Iv 0,Iv 0,Iv 0] 44)::Rs) wq) ⟨0,_,rfl,sSf,zY _,(fun i h=>absurd h (yO i)),(hS0.new ae)⟩ ?_)))))))))
 rintro m10 σ11 w9 ⟨k,ρl1,rfl,rfl,hkk,hm,c⟩
 refine za (za (R0 fun _=>st (mV (Iw k) (st (mV (Ix b 0) (st (zx rfl (st (xK rfl (st (lD d tT rfl (zd (c.gblk z) rfl) (st (zS mT rfl f.sl (st (zI rfl rfl (zb ?_))))))))))))))))
 cases g:decide (((k:Nat):Int)<((L.length:Nat):Int))
 have hc13r:=g
 have g:=fD g
 refine zf rfl (yh (zX (za (R0 fun _=>?_))))
 have S:Ev.Ok (⟨0,0,0,[],0,0,0,0,0,0⟩:Ev):=⟨(show InR (0)from dc),(show InR (0)from dc),(show InR (0)from dc),(show InR (0)from dc),(show InR (0)from dc),(show InR (0)from dc),(show InR (0)from dc),(show InR (0)from dc),(show InR (0)from dc)⟩
 refine st (zQ (parts':=[]) (v:=.agg p.toArray) rfl (by simp+zetaDelta [Instr.build,Instr.fill,go_sem,Zd]) (stn (zr (v:=.agg p.toArray) kT rfl rfl (c.b0) (zZ ⟨rfl,rfl,rfl,rfl,rfl,rfl,rfl,rfl,rfl,rfl,zj⟩) yqc rfl ?_)))
 intro w15 T
 have A:=c.pt0 T
 refine st (aS (.bool false) (zb (zo (xY qR lT kT rfl rfl (zi (A.b0)) (show _=(.bool false:Value)from rfl) ?_))))
 have U:Sep _ _ ((RowE (α:=Int) own 3 Iz [])::_) _:=A.rowNil own 3
 rw[zae (fun i hi=>hm i (by omega))]
 refine⟨(Iz),?_,?_,(U.s2_a)⟩
 rfl
 exact S
 have g:=tD g
 refine zg rfl (zp (za (zu (za (zy kr (st (mV (Iv key) (st (yj rfl rfl (st (mV (.bool (!decide (key=0))) (stc (V:=Ix b 0) rfl rfl (fun X=>?_) ?_))))))))))))
 have hl21:=zC X
 exact mV (Ix b 0) rflB
 refine stc (V:=Ix b 0) rfl rfl (fun B=>?_) ?_
 have hl23:=zC B
 exact zx (ifpC B) rflB
 refine stc (V:=Ix b 1) rfl rfl (fun C=>?_) ?_
 have hl25:=zC C
 exact xK (ifpC C) rflB
 refine stc (V:=d) rfl rfl (fun D=>?_) ?_
 have hl27:=zC D
 exact lD d tT (ifpC D) (zd (c.gblk z) rfl) rflB
 refine stc (V:=Iw k) rfl rfl (fun Y=>?_) ?_
 have hl29:=zC Y
 exact mV (Iw k) rflB
 refine stc (V:=Ix (sb d) (so d+k*10)) rfl rfl (fun t=>?_) ?_
 have hl31:=zC t
 have Z:k<L.length:=bo
 exact zn (k:=10) mT kT (ifpC t) f.sl (ifpC t) Z rflB
 refine stc (V:=Ix (sb d) (so d+k*10+9)) rfl rfl (fun E=>?_) ?_
 have hl34:=zC E
 exact YV (ifpC E) rflB
 refine stc (V:=Iv ((L.getD k default).key)) rfl rfl (fun F=>?_) ?_
 have hl36:=zC F
 have H:k<L.length:=bo
 obtain⟨O,y,hoke37⟩:=f.evD H
 have hsm39:((L.getD k default).deps).length*8≤140737488355328:=y.small
 have P:=c.cells O (f.foot (ne_of_lt H))
 exact lD (Iv ((L.getD k default).key)) nT (ifpC F) (P.get (j:=9) rfl) rflB
 refine stc (V:=Iv key) rfl rfl (fun aa=>?_) ?_
 have hl42:=zC aa
 exact mV (Iv key) rflB
 refine stc (V:=.bool (decide (((L.getD k default).key)=key))) rfl rfl (fun u=>?_) ?_
 have hl44:=zC u
 exact zR (ifpC u) (ifpC u) rflB
 refine st (zF rfl (fun hbp=>(ifpC hbp)) (zb ?_))
 cases m:(!decide (key=0))&&(decide (((L.getD k default).key)=key))
 have q:=m
 try simp only[zh]at m
 refine zf rfl (zp (R0 fun _=>st (mV (Iw k) ?_)))
 have ab:InR ((k+1:Nat):Int):=bo
 refine st (zU (r:=((k+1:Nat):Int)) rfl rfl (by rw[show(((k:Nat):Int)+1:Int)=((k+1:Nat):Int)from bo];exact zJ ab) (st (aS (Iw (k+1)) (zb ?_))))
 exact⟨_,by omega,k+1,_,rfl,sSf,by omega,(yU hm q),c⟩
 have q:=m
 try simp only[zh]at m
 refine zg rfl (za (R0 fun _=>st (mV (Ix b 0) (st (zx rfl (st (xK rfl (st (lD d tT rfl (zd (c.gblk z) rfl) (st (mV (Iw k) ?_)))))))))))
 have ac:k<L.length:=bo
 refine st (zn (k:=10) mT kT rfl f.sl rfl ac ?_)
 have I:k<L.length:=bo
 obtain⟨Q,l,s⟩:=f.evD I
 have R:=c.cells Q (f.foot (ne_of_lt I))
 refine st (ze lT kT rfl rfl R (st (cL kR (xF l s c) ?_)))
 rintro _ w53 ⟨J,rfl,x⟩
 have K:=x.r0
 refine stn (zr (v:=.agg ((L.getD k default).cells J).toArray) kT rfl rfl (x.b1) (zZ ⟨rfl,rfl,rfl,K.1.one,rfl,rfl,rfl,rfl,rfl,rfl,zj⟩) yqc rfl ?_)
 intro w56 ad
 have M:=x.pt1 ad
 refine st (aS (.bool true) (zb (zo (xY qR lT kT rfl rfl (zi (M.b1)) (show _=(.bool true:Value)from rfl) ?_))))
 rw[zbb hm (by omega) q]
 refine⟨J,?_,?_,(M.s2_a)⟩
 rfl
 exact s
theorem JE {b:Nat}{n:Nat}{L:List Ev}(hb:(RefS b n L).p W G)(hS0:Sep G W Rs w):Ret Tryz.prog 17 [.pointer (some ⟨b,0,none⟩)] w (fun r w'=> ∃(v:Value),r=(v:Value)∧Sep G W ((RowE (α:=Ev) own 44 v L)::Rs) w'):=by
 refine zm Tryz.func17 rfl rfl ?_
 obtain⟨y,z,h⟩:=RefS.sh hb
 have hsm4:L.length*96≤140737488355328:=h.small
 refine za (R0 fun _=>st (aS Iz (zb (za (R0 fun _=>st (aS Iz (zb (za (za (R0 fun _=>st (aS (Iv 0) (zb (zu ?_)))))))))))))
 have K:Sep G W ((RowE (α:=Ev) own 44 Iz [])::Rs) w:=hS0.rowNil own 44
 refine yf (fun mq σ N=> ∃k vo ρ,mq=L.length-k∧σ=yo ρ [(0,Ix b 0),(4,Iw k),(3,vo)]∧(k≤L.length)∧Sep G W ((RowE own 44 vo (L.take k))::Rs) N) ⟨0,(Iz),_,rfl,sSf,zY _,K⟩ ?_
 rintro m7 σ8 w6 ⟨k,vo,ρl1,rfl,rfl,hkk,d⟩
 have C:=d.r0
 have hr10s:_*96≤_:=C.2
 refine za (za (R0 fun _=>st (mV (Iw k) (st (mV (Ix b 0) (st (zx rfl (st (xK rfl (st (lD y tT rfl (zd (d.gblk z) rfl) (st (zS mT rfl h.sl (st (zI rfl rfl (zb ?_))))))))))))))))
 cases g:decide (((k:Nat):Int)<((L.length:Nat):Int))
 have g:=fD g
 refine zf rfl (yh (zX (za (R0 fun _=>st (mV vo (st (aS vo (zb (zo (zN Tryz.results17 (show _=(vo:Value)from rfl) ?_))))))))))
 have M:k=L.length:=by omega
 rw[M,List.take_length]at d
 refine⟨vo,rfl,d⟩
 have g:=tD g
 refine zg rfl (zp (za (zu (R0 fun _=>st (mV vo (st (mV (Ix b 0) (st (zx rfl (st (xK rfl (st (lD y tT rfl (zd (d.gblk z) rfl) (st (mV (Iw k) ?_)))))))))))))))
 have D:k<L.length:=bo
 refine st (zn (k:=10) mT kT rfl h.sl rfl D ?_)
 have m:k<L.length:=bo
 obtain⟨t,f,j⟩:=h.evD m
 have hsm15:((L.gd k).deps).length*8≤140737488355328:=f.small
 have u:=d.cells t (h.foot (ne_of_lt m))
 refine st (ze lT kT rfl rfl u (st (cL kR (xF f j d) ?_)))
 rintro _ w18 ⟨A,rfl,q⟩
 have E:=q.r0
 have hr20s:_*8≤_:=E.2
 refine st (zL (c:=((L.gd k).cells A).toArray) mT kT oT dc rfl kr ?_)
 intro w23 b22 F
 have s:=q.new F
 have x:=s.b0
 refine st (yx (src:=own) (bytes:=96) (x1:=(L.gd k)) (s.s3_cb) QF rfl rfl x (fun _ _ O=>⟨_,rfl,RowE.soft O,j⟩) yqb rfl ?_)
 intro B w25 l
 have H:=l.r0
 have hr30s:_*96≤_:=H.2
 refine st (aS B (zb (R0 fun _=>st (mV (Iw k) ?_))))
 have I:InR ((k+1:Nat):Int):=bo
 refine st (zU (r:=((k+1:Nat):Int)) rfl rfl (by rw[show(((k:Nat):Int)+1:Int)=((k+1:Nat):Int)from bo];exact zJ I) (st (aS (Iw (k+1)) (zb ?_))))
 have J:(L.take (k+1))=(L.take k)++[(L.gd k)]:=(List.take_getD om)
 rw[←J]at l
 exact⟨_,by omega,k+1,B,_,rfl,sSf,by omega,l⟩
end
section
open Go.Proofs Go.RowKit
theorem zdO {c:Cmd}{v:Int}(h:(!decide (c.expect= -1)&& !decide (c.expect=v))=true):xy c v=11:=by
 unfold xy
 rw[Bool.and_eq_true,Bool.not_eq_true',Bool.not_eq_true']at h
 rw[h.1,h.2];rfl
theorem zcC {c:Cmd}{v:Int}(h:(!decide (c.expect= -1)&& !decide (c.expect=v))=false):xy c v=0:=by
 unfold xy
 rw[if_pos]
 revert h
 cases decide (c.expect= -1)<;>cases decide (c.expect=v)<;>simp
theorem JP {b:Nat}{n:Nat}{L:List Ev}(hb:(RefS b n L).p W G)(hS0:Sep G W Rs w)(hG:Good n L):Ret Tryz.prog 51 [.pointer (some ⟨b,0,none⟩)] w (fun r w'=>r=(.int .i64 ((zP L)):Value)∧Sep G W Rs w'):=by
 refine Ret.mono (zdf hb hS0 hG) ?_
 rintro r w' ⟨h1,_,h3⟩
 exact⟨h1,h3⟩
set_option maxHeartbeats 8000000 in
theorem JH {d:Dcl}{dd0:Value}(hdd0:RdS W G dd0 d.types){dd1:Value}(hdd1:RdS W G dd1 d.projs)(od:d.Ok){sq:Nat}{n:Nat}{L:List Ev}(hsq:(RefS sq n L).p W G){vb:Nat}{V:List Ent}(hvb:(RefV vb d V).p W G){o:Int}(ho:InR o){start:Int}(hstart:InR start){c:Cmd}(oc:c.Ok)(hS0:Sep G W Rs w)(hd:DclOk d)(hrl:Ran d V)(hml:V.length≤1000000)(hG:Good n L)(hn:n≤1000)(htop:InR (zP L)):Ret Tryz.prog 12 [.agg (d.cells dd0 dd1).toArray,.pointer (some ⟨sq,0,none⟩),.pointer (some ⟨vb,0,none⟩),.int .i64 (o),.int .i64 (start),.agg (c.cells).toArray] w (fun r w'=> ∃(vd:Value),r=(.tuple #[.agg ((exR d n L V o start c).1.cells vd).toArray,.bool ((exR d n L V o start c).2.1),.int .i64 ((exR d n L V o start c).2.2)]:Value)∧Sep G W ((RowE (α:=Int) own 3 vd ((exR d n L V o start c).1.deps))::Rs) w'):=by
 have hdd0s:_*24≤_:=hdd0.small
 have hdd1s:_*40≤_:=hdd1.small
 refine zm (args:=[.agg (d.cells dd0 dd1).toArray,Ix sq 0,Ix vb 0,Iv o,Iv start,.agg (c.cells).toArray]) Tryz.func12 rfl rfl ?_
 refine za ?_
 obtain⟨vl1,hb2,dX⟩:=RefS.sh hsq
 have hsm4:L.length*96≤140737488355328:=dX.small
 obtain⟨vt5,vp6,ve7,hb8,dY,dk,dl⟩:=RefV.sh hvb
 have hsm12:d.types.length*24≤140737488355328:=dY.small
 have hsm13:d.projs.length*40≤140737488355328:=dk.small
 have hsm14:V.length*120≤140737488355328:=dl.small
 refine R0 fun _=>st (zT (v:=.agg (d.cells dd0 dd1).toArray) rfl ?_)
 intro w17 N dm
 let eh:=Blk N (d.cells dd0 dd1).toArray 25
 refine st (zT (v:=.agg (c.cells).toArray) rfl ?_)
 intro w21 A dp
 refine st (zv oT ?_)
 intro w25 D dq
 let ed:=Blk D #[Iv 0,Iv 0,Iv 0,(Iz),Iv 0,Iv 0,Iv 0,Iv 0,Iv 0,Iv 0] 44
 have ax:=((hS0.new dm).new dp).new dq
 refine st (aS (.bool false) (st (aS (Iv 0) (zb (za (R0 fun _=>st (ze (k:=2) qT rT rfl rfl (zi (ax.b2)) (st (ze (k:=7) sT pT rfl rfl (zi (ax.b1)) (st (cL Tryz.call44 (JY (d:=d) (c:=c) hdd0 hdd1 od oc ax) ?_)))))))))))
 rintro _ w27 ⟨rfl,aa⟩
 refine st (aS (Iv (xc d c)) (zb (za (za (R0 fun _=>st (mV (Iv (xc d c)) (st (yj (k:=.i64) (a:=xc d c) (b:=0) rfl rfl (zb ?_)))))))))
 cases M: !decide ((xc d c)=0)
 have hc29r:=M
 have M:=zB M
 have hzc:xc d c=0:=by simpa using M
 obtain⟨dZ,ea,eb⟩:=ZM (YW hzc)
 refine zf rfl (zp (za (R0 fun _=>st (mV (Ix sq 0) (st (Yd rfl (st (lD (Iv (c.ckey)) nT rfl (zd (aa.b1) rfl) (st (cL Tryz.call45 (zaf (key:=c.ckey) hsq oc.ckey aa) ?_))))))))))
 rintro _ w32 ⟨z,rfl,hgo31,bg⟩
 let p:=((yP L c.ckey).getD default).cells z
 have ay:=bg.r0
 have hr34s:_*8≤_:=ay.2
 refine st (mV (.tuple #[.agg p.toArray,.bool (yP L c.ckey).isSome]) (st (zl (vs:=[.agg p.toArray,.bool ((yP L c.ckey).isSome)]) (i:=0) (v:=.agg p.toArray) rfl rfl (st (zl (vs:=[.agg p.toArray,.bool ((yP L c.ckey).isSome)]) (i:=1) (v:=.bool ((yP L c.ckey).isSome)) rfl rfl (st (zv oT ?_)))))))
 intro w37 bh dr
 have bi:=bg.new dr
 refine stn (zr (v:=.agg p.toArray) (c':=p.toArray) kT rfl rfl (bi.b0) (zZ ⟨rfl,rfl,rfl,ay.1.one,rfl,rfl,rfl,rfl,rfl,rfl,zj⟩) yqc rfl ?_)
 intro w39 ds
 have P:=bi.pt0 ds
 refine st (aS (.bool ((yP L c.ckey).isSome)) (zb (za (za (R0 fun _=>st (mV (.bool ((yP L c.ckey).isSome)) (zb ?_)))))))
 cases az:(yP L c.ckey).isSome
 have hc42r:=az
 have hzk:(yP L c.ckey).isSome=false:=by simpa using az
 refine zf rfl (zp (za (R0 fun _=>st (mV (Ix vb 0) (st (Zu rfl (st (lD (Iv (c.ctyp)) nT rfl (zd (P.b3) rfl) (st (YB rfl (st (lD (Iv (c.cagg)) nT rfl (zd (P.b3) rfl) (st (cL Tryz.call46 (Vn (ty:=c.ctyp) (no:=c.cagg) hvb oc.ctyp oc.cagg P hd hrl hml) ?_))))))))))))))
 rintro _ w44 ⟨S,rfl,bj⟩
 let ec:=(yR d (c.ctyp,c.cagg) V).cells S
 have bk:=bj.r0
 have hr46s:_*32≤_:=bk.2
 refine st (mV (.tuple #[.agg ec.toArray,.bool ((zt d V (c.ctyp,c.cagg)).isSome)]) (st (zl (vs:=[.agg ec.toArray,.bool ((zt d V (c.ctyp,c.cagg)).isSome)]) (i:=0) (v:=.agg ec.toArray) rfl rfl (st (zl (vs:=[.agg ec.toArray,.bool ((zt d V (c.ctyp,c.cagg)).isSome)]) (i:=1) (v:=.bool ((zt d V (c.ctyp,c.cagg)).isSome)) rfl rfl (st (zv Tryz.zeroValue77 ?_)))))))
 intro w49 K dt
 have bl:=bj.new dt
 refine stn (zr (v:=.agg ec.toArray) (c':=ec.toArray) Tryz.sizeOf77 rfl rfl (bl.b0) (zZ ⟨rfl,bk.1.one,zj⟩) yqc rfl ?_)
 intro w51 du
 have Q:=bl.pt0 du
 refine st (aS (.bool ((zt d V (c.ctyp,c.cagg)).isSome)) (zb (za (za (R0 fun _=>st (mV (.bool ((zt d V (c.ctyp,c.cagg)).isSome)) (st (yw (a:=(zt d V (c.ctyp,c.cagg)).isSome) rfl (zb (WC (fun σ B=> ∃(H:Value) (ρ:Env),σ=yo ρ [(1,Ix sq 0),(2,Ix vb 0),(3,Iv o),(4,Iv start),(6,Ix N 0),(11,Ix A 0),(12,Ix D 0),(18,Ix K 0)]∧Sep G W ((Blk K ((xq d (c.ctyp,c.cagg) V).cells H).toArray 77)::(RowE (α:=Cel) own 140 H (zM d (c.ctyp,c.cagg) V))::(Blk bh p.toArray 44)::(RowE (α:=Int) own 3 z (((yP L c.ckey).getD default).deps))::ed::(Blk A (c.cells).toArray 49)::eh::Rs) B) ?_ ?_))))))))))
 cases ab: !((zt d V (c.ctyp,c.cagg)).isSome)
 try simp only[zh]at ab
 refine zf rfl (zp ?_)
 have aA:(stL d (c.ctyp,c.cagg) V)=(zM d (c.ctyp,c.cagg) V):=WB (by simpa using ab)
 rw[aA]at Q
 exact⟨rfl,S,_,yZ ⟨(show _=(Ix sq 0:Value)from rfl),(show _=(Ix vb 0:Value)from rfl),(show _=(Iv o:Value)from rfl),(show _=(Iv start:Value)from rfl),(show _=(Ix N 0:Value)from rfl),(show _=(Ix A 0:Value)from rfl),(show _=(Ix D 0:Value)from rfl),(show _=(Ix K 0:Value)from rfl),zj⟩,Q⟩
 try simp only[zh]at ab
 refine zg rfl (R0 fun _=>st (yJ rfl (st (lD dd0 rR rfl (zd (Q.b6) rfl) (st (Zu rfl (st (lD (Iv (c.ctyp)) nT rfl (zd (Q.b5) rfl) ?_))))))))
 have hi55:c.ctyp.toNat<d.types.length:=bo
 refine st (zA (k:=1) (i:=c.ctyp) sR lR rfl hdd0.sl rfl ⟨by omega,by omega⟩ ?_)
 have bm:c.ctyp.toNat<d.types.length:=bo
 obtain⟨bx,Z,bn⟩:=hdd0.typD bm
 have hsm58:((d.types.gd c.ctyp.toNat).fields).length*48≤140737488355328:=Z.small
 have bz:=Q.cells bx (hdd0.foot (ne_of_lt bm))
 refine st (ze (k:=1) tR lR rfl rfl bz (st (cL Tryz.call47 (Xv (t:=(d.types.gd c.ctyp.toNat)) Z bn Q) ?_)))
 rintro bp w61 ⟨_,rfl,aB⟩
 have bq:=aB.r0
 have hr63s:_*32≤_:=bq.2
 refine st (xu rfl (stn (yr (v:=bp) (c:=[Iv ((yR d (c.ctyp,c.cagg) V).ver),S]) Tryz.sizeOf75 rfl rfl (aB.b1) bq.1.one rfl rfl ?_)))
 intro w64 dv
 have br:=aB.pt1 dv
 refine zb ?_
 have aA:(List.replicate (d.types.getD c.ctyp.toNat default).fields.length (⟨0,[]⟩:Cel))=(zM d (c.ctyp,c.cagg) V):=(WH (d:=d) (k:=(c.ctyp,c.cagg)) (L:=V) (XQ (by simpa using ab))).symm
 rw[aA]at br
 exact⟨rfl,bp,_,yZ ⟨(show _=(Ix sq 0:Value)from rfl),(show _=(Ix vb 0:Value)from rfl),(show _=(Iv o:Value)from rfl),(show _=(Iv start:Value)from rfl),(show _=(Ix N 0:Value)from rfl),(show _=(Ix A 0:Value)from rfl),(show _=(Ix D 0:Value)from rfl),(show _=(Ix K 0:Value)from rfl),zj⟩,((br.s8_abdefgh).mv1)⟩
 rintro _ w69 ⟨H,ρj1,rfl,R⟩
 refine za (za (zy kr (st (Zk rfl (st (lD (Iv (c.expect)) nT rfl (zd (R.b5) rfl) (st (yj (k:=.i64) (a:=c.expect) (b:= -1) rfl rfl (st (mV (.bool (!decide (c.expect=(-1)))) (stc (V:=Ix A 5) rfl rfl (fun dw=>?_) ?_)))))))))))
 have hl72:=zC dw
 exact Zk rfl rflB
 refine stc (V:=Iv (c.expect)) rfl rfl (fun bs=>?_) ?_
 have hl74:=zC bs
 exact lD (Iv (c.expect)) nT (ifpC bs) (zd (R.b5) rfl) rflB
 refine stc (V:=Ix K 0) rfl rfl (fun dx=>?_) ?_
 have hl76:=zC dx
 exact Zr rfl rflB
 refine stc (V:=Iv ((xq d (c.ctyp,c.cagg) V).ver)) rfl rfl (fun bt=>?_) ?_
 have hl78:=zC bt
 exact lD (Iv ((xq d (c.ctyp,c.cagg) V).ver)) nT (ifpC bt) (zd (R.b0) rfl) rflB
 refine stc (V:=.bool (!decide (c.expect=((xq d (c.ctyp,c.cagg) V).ver)))) rfl rfl (fun aC=>?_) ?_
 have hl80:=zC aC
 exact yj (k:=.i64) (a:=c.expect) (b:=(xq d (c.ctyp,c.cagg) V).ver) (ifpC aC) (ifpC aC) rflB
 refine st (zF (b:= !decide (c.expect=(-1))) (b':= !decide (c.expect=((xq d (c.ctyp,c.cagg) V).ver))) rfl (fun hbp=>(ifpC hbp)) (zb ?_))
 cases ac:(!decide (c.expect=(-1)))&&(!decide (c.expect=((xq d (c.ctyp,c.cagg) V).ver)))
 have ad:=ac
 try simp only[zh]at ac
 have hzx:xy c ((yn (c.ctyp,c.cagg) V:Nat):Int)=0:=zcC ad
 refine zf rfl (zp (za (za ?_)))
 refine WD4 ((fun TT F dj=>WF [fun vals B=>Sep G W (F::dj::TT) B,fun vals B=>(vals 14=(Iv ((yN (d.types.gd c.ctyp.toNat) (zM d (c.ctyp,c.cagg) V) c.cfield c.cop c.carg)):Value))∧Sep G W (dj::F::TT) B]) ((Blk bh p.toArray 44)::(RowE (α:=Int) own 3 z (((yP L c.ckey).getD default).deps))::ed::(Blk A (c.cells).toArray 49)::eh::Rs) (Blk K ((xq d (c.ctyp,c.cagg) V).cells H).toArray 77) (RowE (α:=Cel) own 140 H (zM d (c.ctyp,c.cagg) V))) (AF [Vl 0 (Ix N 0),Vl 1 dd0,Vl 2 (Ix A 0),Vl 3 (Iv (c.ctyp)),Vl 4 (Ix (sb dd0) (so dd0+c.ctyp.toNat*1)),Vl 5 (.agg ((d.types.gd c.ctyp.toNat).cells (zV W (sb dd0) (so dd0+c.ctyp.toNat*1+0))).toArray),Vl 6 (Ix K 1),Vl 7 H,Vl 8 (Ix A 2),Vl 9 (Iv (c.cfield)),Vl 10 (Ix A 3),Vl 11 (Iv (c.cop)),Vl 12 (Ix A 4),Vl 13 (Iv (c.carg)),fun _=>True,Vl 15 (.bool (!decide ((yN (d.types.gd c.ctyp.toNat) (zM d (c.ctyp,c.cagg) V) c.cfield c.cop c.carg)=0)))]) [[],[0],[],[2],(rg 4),(rg 5),[],[6],[],[8],[],[10],[],[12],(rg 14),(rg 15)] [14] [(0,0),(0,0),(0,0),(0,0),(0,0),(0,0),(0,0),(0,0),(0,0),(0,0),(0,0),(0,0),(0,0),(0,0),(0,0),(1,1)] R ⟨fun _ _ _ _ _ _ _=>obl rfl (yJ rfl dR),ob1 0 fun _ _ (bA:Sep _ _ _ _) bB=>obl rfl (lD dd0 rR (bB 0 dc) (zd (bA.b6) rfl) dR),fun _ _ _ _ _ _ _=>obl rfl (Zu rfl dR),ob1 0 fun _ _ (bC:Sep _ _ _ _) bD=>obl rfl (lD (Iv (c.ctyp)) nT (bD 2 dc) (zd (bC.b5) rfl) dR),?_,?_,fun _ _ _ _ _ _ _=>obl rfl (xu rfl dR),ob1 0 fun _ _ (bE:Sep _ _ _ _) bF=>obl rfl (lD H Tryz.isAgg75 (bF 6 dc) (zd (bE.b0) rfl) dR),fun _ _ _ _ _ _ _=>obl rfl (Xu rfl dR),ob1 0 fun _ _ (bG:Sep _ _ _ _) bH=>obl rfl (lD (Iv (c.cfield)) nT (bH 8 dc) (zd (bG.b5) rfl) dR),fun _ _ _ _ _ _ _=>obl rfl (Xw rfl dR),ob1 0 fun _ _ (bI:Sep _ _ _ _) bJ=>obl rfl (lD (Iv (c.cop)) nT (bJ 10 dc) (zd (bI.b5) rfl) dR),fun _ _ _ _ _ _ _=>obl rfl (Yj rfl dR),ob1 0 fun _ _ (bK:Sep _ _ _ _) bL=>obl rfl (lD (Iv (c.carg)) nT (bL 12 dc) (zd (bK.b5) rfl) dR),?_,?_,zj⟩ ?_
 refine ob1 0 fun _ _ _ aE=>(obl rfl ?_)
 have hi260:c.ctyp.toNat<d.types.length:=bo
 exact zA (k:=1) (i:=c.ctyp) sR lR (aE 1 dc) hdd0.sl (aE 3 dc) ⟨by omega,by omega⟩ dR
 refine ob1 0 fun _ _ (bM:Sep _ _ _ _) bN=>(obl rfl ?_)
 have aF:c.ctyp.toNat<d.types.length:=bo
 obtain⟨bu,aD,hoke269⟩:=hdd0.typD aF
 have hsm271:((d.types.gd c.ctyp.toNat).fields).length*48≤140737488355328:=aD.small
 have bv:=bM.cells bu (hdd0.foot (ne_of_lt aF))
 exact ze (k:=1) tR lR rfl (bN 4 dc) bv dR
 refine ob1 0 fun vals _ (aG:Sep _ _ _ _) O=>(obl rfl ?_)
 have aH:c.ctyp.toNat<d.types.length:=bo
 obtain⟨bw,X,bf⟩:=hdd0.typD aH
 have hsm202:((d.types.gd c.ctyp.toNat).fields).length*48≤140737488355328:=X.small
 have hcw203:=aG.cells bw (hdd0.foot (ne_of_lt aH))
 obtain⟨G205,bO,bP,bQ,bR⟩:=(aG.mv1).lend
 have ai:=RowE.rd bO
 have hrd211s:_*32≤_:=ai.small
 refine(zO (f:=48) (vals:=[.agg ((d.types.gd c.ctyp.toNat).cells (zV W (sb dd0) (so dd0+c.ctyp.toNat*1+0))).toArray,H,Iv (c.cfield),Iv (c.cop),Iv (c.carg)]) (cap:=[]) rfl (yK ⟨(O 5 dc),(O 7 dc),(O 9 dc),(O 11 dc),(O 13 dc),zj⟩) Tryz.call48 (WU (t:=(d.types.gd c.ctyp.toNat)) (c:=(zM d (c.ctyp,c.cagg) V)) (vc:=H) (fi:=c.cfield) (op:=c.cop) (arg:=c.carg) (zk X bP) bf ai oc.cfield oc.cop oc.carg bQ ((show YU _ _ _ _ _ from eb.ask (hd.typ _ om) (hrl.inv hd c.ctyp c.cagg dZ ea)))) ?_)
 rintro _ w212 ⟨rfl,bS⟩
 have bT:=bR _ _ bS
 exact fun x y s=>⟨(zG y bT),zj⟩
 refine ob1 1 fun _ _ bU _=>?_
 obtain⟨aI,hS335⟩:=bU
 exact obl rfl (yj (k:=.i64) (a:=(yN (d.types.gd c.ctyp.toNat) (zM d (c.ctyp,c.cagg) V) c.cfield c.cop c.carg)) (b:=0) aI rfl dR)
 intro vals w336 bV bW
 obtain⟨aI,ae⟩:=bV
 have dy:=bW 15 dc
 refine yd (kv:=[(1,Ix sq 0),(2,Ix vb 0),(3,Iv o),(4,Iv start),(6,Ix N 0),(11,Ix A 0),(12,Ix D 0),(18,Ix K 0),(56,Ix A 5),(57,Iv (c.expect)),(58,.bool (!decide (c.expect=(-1)))),(59,.bool (!decide (c.expect=(-1)))),(65,.bool false),(82,.bool (!decide ((yN (d.types.gd c.ctyp.toNat) (zM d (c.ctyp,c.cagg) V) c.cfield c.cop c.carg)=0)))]) ⟨rfl,rfl,rfl,rfl,rfl,rfl,rfl,rfl,rfl,rfl,rfl,rfl,rfl,(by exact dy),zj⟩ (fun ρw336=>(zb ?_))
 cases E: !decide ((yN (d.types.gd c.ctyp.toNat) (zM d (c.ctyp,c.cagg) V) c.cfield c.cop c.carg)=0)
 have hc341r:=E
 have E:=zB E
 have hzm:=E
 refine zf rfl (zp (za ?_))
 refine WD6 ((fun TT F=>WF [fun vals B=>Sep G W (F::TT) B,fun vals B=> ∃(g:Value),(vals 3=(g:Value))∧Sep G W ((RowE (α:=Int) own 3 g (zw n L))::F::TT) B,fun _ _=>True,fun vals B=> ∃(g:Value),(vals 3=(g:Value))∧(vals 5=(Iv ((zP L)):Value))∧Sep G W ((RowE (α:=Int) own 3 g (zw n L))::F::TT) B,fun _ _=>True,fun _ _=>True,fun _ _=>True,fun vals B=> ∃(g:Value) (e:Value),(vals 3=(g:Value))∧(vals 5=(Iv ((zP L)):Value))∧(vals 8=(.tuple #[.agg ((evE c o (zw n L) (max (zP L) start)).cells e).toArray,Iv ((evN o (zw n L) (max (zP L) start)))]:Value))∧Sep G W ((RowE (α:=Int) own 3 g (zw n L))::(RowE (α:=Int) own 3 e ((evE c o (zw n L) (max (zP L) start)).deps))::F::TT) B,fun vals B=> ∃(j:Nat),(vals 12=(Ix j 0:Value))∧Sep G W ((Blk j #[Iv 0,Iv 0,Iv 0,(Iz),Iv 0,Iv 0,Iv 0,Iv 0,Iv 0,Iv 0] 44)::F::TT) B,fun vals B=> ∃(g:Value) (j:Nat),(vals 3=(g:Value))∧(vals 12=(Ix j 0:Value))∧Sep G W ((Blk j #[Iv 0,Iv 0,Iv 0,(Iz),Iv 0,Iv 0,Iv 0,Iv 0,Iv 0,Iv 0] 44)::(RowE (α:=Int) own 3 g (zw n L))::F::TT) B,fun _ _=>True,fun vals B=> ∃(g:Value) (j:Nat),(vals 3=(g:Value))∧(vals 5=(Iv ((zP L)):Value))∧(vals 12=(Ix j 0:Value))∧Sep G W ((Blk j #[Iv 0,Iv 0,Iv 0,(Iz),Iv 0,Iv 0,Iv 0,Iv 0,Iv 0,Iv 0] 44)::(RowE (α:=Int) own 3 g (zw n L))::F::TT) B,fun _ _=>True,fun _ _=>True,fun _ _=>True,fun vals B=> ∃(g:Value) (e:Value) (j:Nat),(vals 3=(g:Value))∧(vals 5=(Iv ((zP L)):Value))∧(vals 8=(.tuple #[.agg ((evE c o (zw n L) (max (zP L) start)).cells e).toArray,Iv ((evN o (zw n L) (max (zP L) start)))]:Value))∧(vals 12=(Ix j 0:Value))∧Sep G W ((Blk j #[Iv 0,Iv 0,Iv 0,(Iz),Iv 0,Iv 0,Iv 0,Iv 0,Iv 0,Iv 0] 44)::(RowE (α:=Int) own 3 g (zw n L))::(RowE (α:=Int) own 3 e ((evE c o (zw n L) (max (zP L) start)).deps))::F::TT) B,fun _ _=>True,fun _ _=>True,fun _ _=>True,fun _ _=>True,fun _ _=>True,fun _ _=>True,fun _ _=>True,fun _ _=>True,fun _ _=>True,fun _ _=>True,fun _ _=>True,fun _ _=>True,fun _ _=>True,fun _ _=>True,fun _ _=>True,fun vals B=> ∃(g:Value) (e:Value) (j:Nat),(vals 3=(g:Value))∧(vals 5=(Iv ((zP L)):Value))∧(vals 8=(.tuple #[.agg ((evE c o (zw n L) (max (zP L) start)).cells e).toArray,Iv ((evN o (zw n L) (max (zP L) start)))]:Value))∧(vals 12=(Ix j 0:Value))∧Sep G W ((Blk j ((evE c o (zw n L) (max (zP L) start)).cells e).toArray 44)::(RowE (α:=Int) own 3 g (zw n L))::(RowE (α:=Int) own 3 e ((evE c o (zw n L) (max (zP L) start)).deps))::F::TT) B]) ((Blk K ((xq d (c.ctyp,c.cagg) V).cells H).toArray 77)::(Blk bh p.toArray 44)::(RowE (α:=Int) own 3 z (((yP L c.ckey).getD default).deps))::ed::(Blk A (c.cells).toArray 49)::eh::Rs) (RowE (α:=Cel) own 140 H (zM d (c.ctyp,c.cagg) V))) (AF [Vl 0 (.agg (c.cells).toArray),Vl 1 (Iv o),Vl 2 (Ix sq 0),fun _=>True,Vl 4 (Ix sq 0),fun _=>True,Vl 6 (Iv start),Vl 7 (Iv (max (zP L) start)),fun _=>True,fun vals=> ∀(e:Value),vals 8=(.tuple #[.agg ((evE c o (zw n L) (max (zP L) start)).cells e).toArray,Iv ((evN o (zw n L) (max (zP L) start)))]:Value)→vals 9=(.tuple #[.agg ((evE c o (zw n L) (max (zP L) start)).cells e).toArray,Iv ((evN o (zw n L) (max (zP L) start)))]:Value),fun vals=> ∀(e:Value),vals 8=(.tuple #[.agg ((evE c o (zw n L) (max (zP L) start)).cells e).toArray,Iv ((evN o (zw n L) (max (zP L) start)))]:Value)→vals 10=(.agg ((evE c o (zw n L) (max (zP L) start)).cells e).toArray:Value),Vl 11 (Iv ((evN o (zw n L) (max (zP L) start)))),fun _=>True,fun _=>True,Vl 14 (Iv ((evN o (zw n L) (max (zP L) start))))]) [[],[],[],[2],[],[2,3,4],[],[2,3,4,5,6],(rg 8),(rg 9),(rg 10),(rg 10),[],[0,1,2,3,4,5,6,7,8,9,10,12],(rg 14)] [3,5,8,12,13] [[0,1,3,8,9,11],[0,1,3,8,9,11],[0,8],[0,8],[0,1,8,9],[1,9],[0,1,3,8,9,11],[3,11],[3,11],[7,15],[7,15],[7,15,31],[0,1,3,7],[15],[31]] ae ⟨?_,fun _ _ _ _ _ _=>obl rfl (mV (Iv o) dR),fun _ _ _ _ _ _=>obl rfl (mV (Ix sq 0) dR),?_,fun _ _ _ _ _ _=>obl rfl (mV (Ix sq 0) dR),?_,fun _ _ _ _ _ _=>obl rfl (mV (Iv start) dR),?_,?_,?_,?_,?_,?_,?_,fun _ _ _ _ _ bX=>obl rfl (ya (v:=Iv ((evN o (zw n L) (max (zP L) start)))) (bX 11 dc) dR),zj⟩ ?_ (hlocA:=xd ⟨dA,dA,dA,dT,dA,dT,dA,dA,dT,fun vals x y h=>fun e C=>(y 9 (.inl rfl)).trans (h e ((y 8 (.inr dc)).symm.trans C)),fun vals x y h=>fun e C=>(y 10 (.inl rfl)).trans (h e ((y 8 (.inr dc)).symm.trans C)),dA,dT,dT,dA,zj⟩)
 intro dz vals w473 bY I hA474
 have aj:dz∈[0,1,3,8,9,11]:=bY
 simp only[yF]at aj
 rcases aj with rfl|rfl|rfl|rfl|rfl|rfl
 have bZ:Sep _ _ _ _:=I
 exact obl rfl (ze (k:=7) sT pT rfl rfl (zi (bZ.b5)) dR)
 obtain⟨g,l,ca⟩:=I
 exact obl rfl (ze (k:=7) sT pT rfl rfl (zi (ca.b6)) dR)
 obtain⟨g,l,m,cb⟩:=I
 exact obl rfl (ze (k:=7) sT pT rfl rfl (zi (cb.b6)) dR)
 obtain⟨j,u,cc⟩:=I
 exact obl rfl (ze (k:=7) sT pT rfl rfl (zi (cc.b6)) dR)
 obtain⟨g,j,l,u,cd⟩:=I
 exact obl rfl (ze (k:=7) sT pT rfl rfl (zi (cd.b7)) dR)
 obtain⟨g,j,l,m,u,ce⟩:=I
 exact obl rfl (ze (k:=7) sT pT rfl rfl (zi (ce.b7)) dR)
 intro dB vals w504 cf aJ aK
 have ak:dB∈[0,8]:=cf
 simp only[yF]at ak
 rcases ak with rfl|rfl
 have cg:Sep _ _ _ _:=aJ
 refine obl rfl ((zO (f:=50) (vals:=[Ix sq 0]) (cap:=[]) rfl (yK ⟨(aK 2 dc),zj⟩) mR (Qh hsq cg hG hn) ?_))
 rintro g w511 ⟨_,rfl,aL⟩
 have ch:=aL.r0
 have hr513s:_*8≤_:=ch.2
 exact fun x y s=>⟨(exiA g (zG y aL)),zj⟩
 obtain⟨j,u,ci⟩:=aJ
 refine obl rfl ((zO (f:=50) (vals:=[Ix sq 0]) (cap:=[]) rfl (yK ⟨(aK 2 dc),zj⟩) mR (Qh hsq ci hG hn) ?_))
 rintro g w517 ⟨_,rfl,aM⟩
 have cj:=aM.r0
 have hr519s:_*8≤_:=cj.2
 exact fun x y s=>⟨(exiA g (exiA j (zG y (zG ((s 12 dc).trans u) (aM.mv1))))),zj⟩
 intro dC vals w527 ck aN aO
 have al:dC∈[1,9]:=ck
 simp only[yF]at al
 rcases al with rfl|rfl
 obtain⟨g,l,cl⟩:=aN
 refine obl rfl ((zO (f:=51) (vals:=[Ix sq 0]) (cap:=[]) rfl (yK ⟨(aO 4 dc),zj⟩) uR (JP hsq cl hG) ?_))
 rintro _ w533 ⟨rfl,cm⟩
 exact fun x y s=>⟨(exiA g (zG ((s 3 dc).trans l) (zG y cm))),zj⟩
 obtain⟨g,j,l,u,cn⟩:=aN
 refine obl rfl ((zO (f:=51) (vals:=[Ix sq 0]) (cap:=[]) rfl (yK ⟨(aO 4 dc),zj⟩) uR (JP hsq cn hG) ?_))
 rintro _ w537 ⟨rfl,co⟩
 exact fun x y s=>⟨(exiA g (exiA j (zG ((s 3 dc).trans l) (zG y (zG ((s 12 dc).trans u) co))))),zj⟩
 intro dD vals w545 cp aP aQ
 have am:dD∈[3,11]:=cp
 simp only[yF]at am
 rcases am with rfl|rfl
 obtain⟨g,l,m,hS549⟩:=aP
 exact obl rfl (YG (k:=.i64) (a:=(zP L)) (b:=start) m (aQ 6 dc) dR)
 obtain⟨g,j,l,m,u,hS551⟩:=aP
 exact obl rfl (YG (k:=.i64) (a:=(zP L)) (b:=start) m (aQ 6 dc) dR)
 intro dE vals w554 cq aR J
 have an:dE∈[3,11]:=cq
 simp only[yF]at an
 rcases an with rfl|rfl
 obtain⟨g,l,m,cr⟩:=aR
 refine obl rfl ?_
 obtain⟨G562,cs,hB565,ct,cu⟩:=cr.lend
 have ao:=RowE.rd cs
 have hrd568s:_*8≤_:=ao.small
 refine(zO (f:=49) (vals:=[.agg (c.cells).toArray,Iv o,g,Iv (max (zP L) start)]) (cap:=[]) rfl (yK ⟨(J 0 dc),(J 1 dc),l,(J 7 dc),zj⟩) vR (VV (c:=c) (o:=o) (v:=zw n L) (vv:=g) (lam:=max (zP L) start) oc om ao (by have h1:InR (zP L):=(by omega);have h2:InR start:=(by omega);omega) ct) ?_)
 rintro _ w570 ⟨e,rfl,aT⟩
 have cv:=aT.r0
 have hr572s:_*8≤_:=cv.2
 have cw:=cu _ _ aT
 exact fun x y s=>⟨(exiA g (exiA e (zG ((s 3 dc).trans l) (zG ((s 5 dc).trans m) (zG y cw))))),zj⟩
 obtain⟨g,j,l,m,u,cx⟩:=aR
 refine obl rfl ?_
 obtain⟨G579,cy,hB582,cz,cC⟩:=(cx.mv1).lend
 have ap:=RowE.rd cy
 have hrd585s:_*8≤_:=ap.small
 refine(zO (f:=49) (vals:=[.agg (c.cells).toArray,Iv o,g,Iv (max (zP L) start)]) (cap:=[]) rfl (yK ⟨(J 0 dc),(J 1 dc),l,(J 7 dc),zj⟩) vR (VV (c:=c) (o:=o) (v:=zw n L) (vv:=g) (lam:=max (zP L) start) oc om ap (by have h1:InR (zP L):=(by omega);have h2:InR start:=(by omega);omega) cz) ?_)
 rintro _ w587 ⟨e,rfl,aU⟩
 have cD:=aU.r0
 have hr589s:_*8≤_:=cD.2
 have cE:=cC _ _ aU
 exact fun x y s=>⟨(exiA g (exiA e (exiA j (zG ((s 3 dc).trans l) (zG ((s 5 dc).trans m) (zG y (zG ((s 12 dc).trans u) (cE.mv2)))))))),zj⟩
 intro dG vals w593 cF aV hA594
 have aq:dG∈[7,15]:=cF
 simp only[yF]at aq
 rcases aq with rfl|rfl
 obtain⟨g,e,l,m,q,hS597⟩:=aV
 refine obl rfl (yg (v:=.tuple #[.agg ((evE c o (zw n L) (max (zP L) start)).cells e).toArray,Iv ((evN o (zw n L) (max (zP L) start)))]) q (fun x y s=>⟨rfl,?_⟩))
 intro Y C
 rw[s 8 (by decide)]at C;cases q.symm.trans C
 exact y
 obtain⟨g,e,j,l,m,q,u,hS598⟩:=aV
 refine obl rfl (yg (v:=.tuple #[.agg ((evE c o (zw n L) (max (zP L) start)).cells e).toArray,Iv ((evN o (zw n L) (max (zP L) start)))]) q (fun x y s=>⟨rfl,?_⟩))
 intro Y C
 rw[s 8 (by decide)]at C;cases q.symm.trans C
 exact y
 intro dH vals w600 cG aW aX
 have ar:dH∈[7,15]:=cG
 simp only[yF]at ar
 rcases ar with rfl|rfl
 obtain⟨g,e,l,m,q,hS604⟩:=aW
 let ee:=(evE c o (zw n L) (max (zP L) start)).cells e
 have dI:vals 9=(.tuple #[.agg ee.toArray,Iv ((evN o (zw n L) (max (zP L) start)))]:Value):=aX 9 dc e q
 refine obl rfl (zl (vs:=[.agg ee.toArray,Iv ((evN o (zw n L) (max (zP L) start)))]) (i:=0) (v:=.agg ee.toArray) dI rfl (fun x y s=>⟨rfl,?_⟩))
 intro Y C
 rw[s 8 (by decide)]at C;cases q.symm.trans C
 exact y
 obtain⟨g,e,j,l,m,q,u,hS606⟩:=aW
 let ef:=(evE c o (zw n L) (max (zP L) start)).cells e
 have dJ:vals 9=(.tuple #[.agg ef.toArray,Iv ((evN o (zw n L) (max (zP L) start)))]:Value):=aX 9 dc e q
 refine obl rfl (zl (vs:=[.agg ef.toArray,Iv ((evN o (zw n L) (max (zP L) start)))]) (i:=0) (v:=.agg ef.toArray) dJ rfl (fun x y s=>⟨rfl,?_⟩))
 intro Y C
 rw[s 8 (by decide)]at C;cases q.symm.trans C
 exact y
 intro dK vals w609 cH af ag
 have au:dK∈[7,15,31]:=cH
 simp only[yF]at au
 rcases au with rfl|rfl|rfl
 obtain⟨g,e,l,m,q,hS613⟩:=af
 have dL:vals 9=(.tuple #[.agg ((evE c o (zw n L) (max (zP L) start)).cells e).toArray,Iv ((evN o (zw n L) (max (zP L) start)))]:Value):=ag 9 dc e q
 exact obl rfl (zl (vs:=[.agg ((evE c o (zw n L) (max (zP L) start)).cells e).toArray,Iv ((evN o (zw n L) (max (zP L) start)))]) (i:=1) (v:=Iv ((evN o (zw n L) (max (zP L) start)))) dL rfl dR)
 obtain⟨g,e,j,l,m,q,u,hS615⟩:=af
 have dM:vals 9=(.tuple #[.agg ((evE c o (zw n L) (max (zP L) start)).cells e).toArray,Iv ((evN o (zw n L) (max (zP L) start)))]:Value):=ag 9 dc e q
 exact obl rfl (zl (vs:=[.agg ((evE c o (zw n L) (max (zP L) start)).cells e).toArray,Iv ((evN o (zw n L) (max (zP L) start)))]) (i:=1) (v:=Iv ((evN o (zw n L) (max (zP L) start)))) dM rfl dR)
 obtain⟨g,e,j,l,m,q,u,hS617⟩:=af
 have dN:vals 9=(.tuple #[.agg ((evE c o (zw n L) (max (zP L) start)).cells e).toArray,Iv ((evN o (zw n L) (max (zP L) start)))]:Value):=ag 9 dc e q
 exact obl rfl (zl (vs:=[.agg ((evE c o (zw n L) (max (zP L) start)).cells e).toArray,Iv ((evN o (zw n L) (max (zP L) start)))]) (i:=1) (v:=Iv ((evN o (zw n L) (max (zP L) start)))) dN rfl dR)
 intro dO vals w620 cI T hA621
 have av:dO∈[0,1,3,7]:=cI
 simp only[yF]at av
 rcases av with rfl|rfl|rfl|rfl
 have cJ:Sep _ _ _ _:=T
 refine obl rfl ((zv oT ?_))
 intro w627 j cK
 exact fun x y s=>⟨(exiA j (zG y (cJ.new cK))),zj⟩
 obtain⟨g,l,cM⟩:=T
 refine obl rfl ((zv oT ?_))
 intro w632 j cN
 exact fun x y s=>⟨(exiA g (exiA j (zG ((s 3 dc).trans l) (zG y (cM.new cN))))),zj⟩
 obtain⟨g,l,m,cO⟩:=T
 refine obl rfl ((zv oT ?_))
 intro w637 j cP
 exact fun x y s=>⟨(exiA g (exiA j (zG ((s 3 dc).trans l) (zG ((s 5 dc).trans m) (zG y (cO.new cP)))))),zj⟩
 obtain⟨g,e,l,m,q,cQ⟩:=T
 refine obl rfl ((zv oT ?_))
 intro w642 j cR
 exact fun x y s=>⟨(exiA g (exiA e (exiA j (zG ((s 3 dc).trans l) (zG ((s 5 dc).trans m) (zG ((s 8 dc).trans q) (zG y (cQ.new cR)))))))),zj⟩
 intro dP vals w645 cS cT cU
 have aw:dP∈[15]:=cS
 simp only[yF]at aw
 subst aw
 obtain⟨g,e,j,l,m,q,u,ah⟩:=cT
 let eg:=(evE c o (zw n L) (max (zP L) start)).cells e
 refine obl rfl ?_
 have dQ:vals 10=(.agg eg.toArray:Value):=cU 10 dc e q
 have aY:=ah.r2
 have hr653s:_*8≤_:=aY.2
 refine(zr (v:=.agg eg.toArray) (c':=eg.toArray) kT u dQ (ah.b0) (zZ ⟨rfl,rfl,rfl,aY.1.one,rfl,rfl,rfl,rfl,rfl,rfl,zj⟩) yqc rfl ?_)
 intro w651 cV
 exact fun x y s=>⟨(exiA g (exiA e (exiA j (zG ((s 3 dc).trans l) (zG ((s 5 dc).trans m) (zG ((s 8 dc).trans q) (zG ((s 12 dc).trans u) (ah.pt0 cV)))))))),zj⟩
 intro vals w661 cW cX
 obtain⟨g,e,j,l,m,q,u,U⟩:=cW
 have dS:=cX 14 dc
 refine yd (kv:=[(1,Ix sq 0),(2,Ix vb 0),(3,Iv o),(4,Iv start),(6,Ix N 0),(11,Ix A 0),(12,Ix D 0),(18,Ix K 0),(56,Ix A 5),(57,Iv (c.expect)),(58,.bool (!decide (c.expect=(-1)))),(59,.bool (!decide (c.expect=(-1)))),(65,.bool false),(82,.bool false),(20,Ix j 0),(15,Iv ((evN o (zw n L) (max (zP L) start))))]) ⟨rfl,rfl,rfl,rfl,rfl,rfl,rfl,rfl,rfl,rfl,rfl,rfl,rfl,rfl,(by exact u),(by exact dS),zj⟩ (fun ρw661=>(zb (za (R0 fun _=>st (ze (k:=10) lT kT rfl rfl (zi (U.b0)) (st (mV (Iv ((evN o (zw n L) (max (zP L) start)))) (st (zR (k:=.i64) (b:=0) rfl rfl (st (mV (Iv ((evN o (zw n L) (max (zP L) start)))) ?_)))))))))))
 have aZ:=U.r2
 have hr668s:_*8≤_:=aZ.2
 refine stn (zr (v:=.agg ((evE c o (zw n L) (max (zP L) start)).cells e).toArray) (c':=((evE c o (zw n L) (max (zP L) start)).cells e).toArray) kT rfl rfl (U.b7) (zZ ⟨rfl,rfl,rfl,aZ.1.one,rfl,rfl,rfl,rfl,rfl,rfl,zj⟩) yqc rfl ?_)
 intro dU cY
 have ba:=U.pt7 cY
 refine st (aS (.bool (decide ((evN o (zw n L) (max (zP L) start))=0))) (st (aS (Iv ((evN o (zw n L) (max (zP L) start)))) (zb (zo (Xn (b:=D) vT lT kT rfl rfl (zi (ba.b7)) (show _=(.bool (decide ((evN o (zw n L) (max (zP L) start))=0)):Value)from rfl) (show _=(Iv ((evN o (zw n L) (max (zP L) start))):Value)from rfl) ?_))))))
 have cZ:Sep G W ((RowE (α:=Int) own 3 e ((evE c o (zw n L) (max (zP L) start)).deps))::Rs) dU:=ba.sel 10 [2] (yL _ _) rfl rfl
 rw[show exR d n L V o start c=((evE c o (zw n L) (max (zP L) start)),decide ((evN o (zw n L) (max (zP L) start))=0),(evN o (zw n L) (max (zP L) start)))from VF hzc hzk hzx hzm]
 refine⟨e,rfl,cZ⟩
 have E:=zC E
 have hzm:=E
 have dV:yN (xR d c.ctyp) (zM d (c.ctyp,c.cagg) V) c.cfield c.cop c.carg=10:=mayL_two.resolve_left hzm
 refine zg rfl (za (yy (by kernel_rfl) (fun _=>(st (zQ (parts':=[]) (v:=.agg (ev0.cells Iz).toArray) rfl (by simp+zetaDelta [Instr.build,Instr.fill,go_sem,Ev.cells,ev0]) (stn (zr (v:=.agg (ev0.cells Iz).toArray) (c':=(ev0.cells Iz).toArray) kT rfl rfl (ae.b4) (zZ ⟨rfl,rfl,rfl,rfl,rfl,rfl,rfl,rfl,rfl,rfl,zj⟩) yqc rfl ?_)))))))
 intro w671 da
 have bb:=ae.pt4 da
 refine st (aS (.bool false) (st (aS (Iv 10) (zb (zo (Xn (b:=D) vT lT kT rfl rfl (zi (bb.b4)) (show _=(.bool false:Value)from rfl) (show _=(Iv 10:Value)from rfl) ?_))))))
 have db:Sep _ _ ((RowE (α:=Int) own 3 Iz ([]:List Int))::_) _:=bb.rowNil own 3
 rw[show exR d n L V o start c=(ev0,false,10)from(Vb hzc hzk hzx hzm).trans (by rw[dV])]
 refine⟨(Iz),rfl,(db.s8_a)⟩
 have ad:=ac
 try simp only[zh]at ac
 have hzx:xy c ((yn (c.ctyp,c.cagg) V:Nat):Int)=11:=zdO ad
 refine zg rfl (za (yy (by kernel_rfl) (fun _=>(st (zQ (parts':=[]) (v:=.agg (ev0.cells Iz).toArray) rfl (by simp+zetaDelta [Instr.build,Instr.fill,go_sem,Ev.cells,ev0]) (stn (zr (v:=.agg (ev0.cells Iz).toArray) (c':=(ev0.cells Iz).toArray) kT rfl rfl (R.b4) (zZ ⟨rfl,rfl,rfl,rfl,rfl,rfl,rfl,rfl,rfl,rfl,zj⟩) yqc rfl ?_)))))))
 intro w676 dd
 have bc:=R.pt4 dd
 refine st (aS (.bool false) (st (aS (Iv 11) (zb (zo (Xn (b:=D) vT lT kT rfl rfl (zi (bc.b4)) (show _=(.bool false:Value)from rfl) (show _=(Iv 11:Value)from rfl) ?_))))))
 have de:Sep _ _ ((RowE (α:=Int) own 3 Iz ([]:List Int))::_) _:=bc.rowNil own 3
 rw[show exR d n L V o start c=(ev0,false,11)from(Vm hzc hzk (by rw[hzx];decide)).trans (by rw[hzx])]
 refine⟨(Iz),rfl,(de.s8_a)⟩
 have hzk:(yP L c.ckey).isSome=true:=by simpa using az
 refine zg rfl (za (R0 fun _=>st (ze (k:=10) lT kT rfl rfl (zi (P.b0)) (stn (zr (v:=.agg p.toArray) (c':=p.toArray) kT rfl rfl (P.b2) (zZ ⟨rfl,rfl,rfl,ay.1.one,rfl,rfl,rfl,rfl,rfl,rfl,zj⟩) yqc rfl ?_)))))
 intro dW df
 have bd:=P.pt2 df
 refine st (aS (.bool false) (st (aS (Iv 0) (zb (zo (Xn (b:=D) vT lT kT rfl rfl (zi (bd.b2)) (show _=(.bool false:Value)from rfl) (show _=(Iv 0:Value)from rfl) ?_))))))
 have dg:Sep G W ((RowE (α:=Int) own 3 z (((yP L c.ckey).getD default).deps))::Rs) dW:=bd.sel 5 [1] (yL _ _) rfl rfl
 rw[show exR d n L V o start c=(((yP L c.ckey).getD default),false,0)from YO hzc hzk]
 refine⟨z,rfl,dg⟩
 have M:=zC M
 have hzc: ¬xc d c=0:=by simpa using M
 refine zg rfl (za (yy (by kernel_rfl) (fun _=>(st (zQ (parts':=[]) (v:=.agg (ev0.cells Iz).toArray) rfl (by simp+zetaDelta [Instr.build,Instr.fill,go_sem,Ev.cells,ev0]) (st (mV (Iv (xc d c)) (stn (zr (v:=.agg (ev0.cells Iz).toArray) (c':=(ev0.cells Iz).toArray) kT rfl rfl (aa.b0) (zZ ⟨rfl,rfl,rfl,rfl,rfl,rfl,rfl,rfl,rfl,rfl,zj⟩) yqc rfl ?_)))))))))
 intro w685 dh
 have be:=aa.pt0 dh
 refine st (aS (.bool false) (st (aS (Iv (xc d c)) (zb (zo (Xn (b:=D) vT lT kT rfl rfl (zi (be.b0)) (show _=(.bool false:Value)from rfl) (show _=(Iv (xc d c):Value)from rfl) ?_))))))
 have di:Sep _ _ ((RowE (α:=Int) own 3 Iz ([]:List Int))::_) _:=be.rowNil own 3
 rw[show exR d n L V o start c=(ev0,false,xc d c)from Xr hzc]
 refine⟨(Iz),rfl,(di.s4_a)⟩
def yV (e:Ev)(L:List Ev)(k:Nat):Bool:=(L.take k).any (ltE e)
def Zh (e:Ev)(L:List Ev)(k:Nat):List Ev:=if yV e L k=true then xE e (L.take k)else L.take k
section
variable {e x:Ev}{A B L:List Ev}{k:Nat}
theorem QS: ∀{A:List Ev},A.any (ltE e)=true→xE e (A++B)=xE e A++B
 |x::l,h=>by
  simp only[List.cons_append,xE]
  by_cases hx:ltE e x=true
  ·rw[if_pos hx,if_pos hx];rfl
  ·rw[if_neg hx,if_neg hx]
   rw[List.any_cons,Bool.or_eq_true]at h
   rw[QS (h.resolve_left hx)];rfl
theorem Ud: ∀{A:List Ev},A.any (ltE e)=false→xE e A=A++[e]
 |[],_=>rfl
 |x::l,h=>by
  rw[List.any_cons,Bool.or_eq_false_iff]at h
  simp only[xE]
  rw[if_neg (by rw[h.1];decide),Ud h.2];rfl
theorem VY: ∀{A:List Ev},A.any (ltE e)=false→ltE e x=true→xE e (A++[x])=A++[e]++[x]
 |[],_,hx=>by show xE e [x]=_;simp only[xE];rw[if_pos hx];rfl
 |y::l,h,hx=>by
  rw[List.any_cons,Bool.or_eq_false_iff]at h
  simp only[List.cons_append,xE]
  rw[if_neg (by rw[h.1];decide),VY h.2 hx]
theorem Vc (hk:k<L.length):yV e L (k+1)=(yV e L k||ltE e (L.getD k default)):=by
 unfold yV
 rw[ZU hk,List.any_append];simp
theorem Qu (hk:k<L.length)(h:((!yV e L k)&&ltE e (L.getD k default))=true):Zh e L (k+1)=Zh e L k++[e]++[L.getD k default]∧yV e L (k+1)=true:=by
 rw[Bool.and_eq_true,Bool.not_eq_true']at h
 have h2:yV e L (k+1)=true:=by rw[Vc hk,h.2,Bool.or_true]
 refine⟨?_,h2⟩
 unfold Zh
 rw[if_pos h2,if_neg (by rw[h.1];decide),ZU hk,VY h.1 h.2]
theorem Un (hk:k<L.length)(h:((!yV e L k)&&ltE e (L.getD k default))=false):Zh e L (k+1)=Zh e L k++[L.getD k default]∧yV e L (k+1)=yV e L k:=by
 have h2:yV e L (k+1)=yV e L k:=by
  rw[Vc hk]
  revert h;cases yV e L k<;>simp
 refine⟨?_,h2⟩
 unfold Zh
 rw[h2]
 by_cases hb:yV e L k=true
 ·rw[if_pos hb,if_pos hb,ZU hk,QS hb]
 ·rw[if_neg hb,if_neg hb,ZU hk]
theorem zaA:(Zh e L k).length≤k+1:=by
 unfold Zh
 split
 ·rw[Km,List.length_take];omega
 ·rw[List.length_take];omega
theorem zci (hk:k=L.length)(h:yV e L k=true):Zh e L k=xE e L:=by
 unfold Zh
 rw[if_pos h,hk,List.take_length]
theorem JS (hk:k=L.length)(h:yV e L k=false):Zh e L k++[e]=xE e L:=by
 unfold Zh
 unfold yV at h
 unfold yV
 rw[if_neg (by rw[h];decide),Ud (A:=L) (by rw[hk,List.take_length]at h;exact h),hk,List.take_length]
theorem zcB {F:Nat→Prop}{W w:World}{f:Nat→Prop}{cs:List Value}(h:Rep.rd W F cs x):((alt F W).el cs x).p w f:=Or.inr h
end
theorem JI {x:Ev}{F:Nat→Prop}{W w:World}{f:Nat→Prop}{v:Value}(h:(RowE (α:=Int) own 3 v x.deps).p w f)(ho:x.Ok):((alt F W).el (x.cells v) x).p w f:=Or.inl ⟨_,rfl,RowE.soft h,ho⟩
theorem zcQ {b:Nat}{n:Nat}{L:List Ev}{e:Ev}{de0:Value}(hde0:RdS W G de0 e.deps)(oe:e.Ok)(hS0:Sep G W ((RefS b n L)::Rs) w)(hG:Good n L)(hn:n≤1000)(hL:L.length≤1000000):Ret Tryz.prog 32 [.pointer (some ⟨b,0,none⟩),.agg (e.cells de0).toArray] w (fun r w'=> ∃(L1:List Ev),r=(.int .i64 ((ZE n L e)):Value)∧(L1=addL n L e)∧Sep G W ((RefS b n L1)::Rs) w'):=by
 have hde0s:_*8≤_:=hde0.small
 refine zm Tryz.func32 rfl rfl ?_
 refine za ?_
 obtain⟨G1,aA,dw,dW,au⟩:=hS0.lend
 obtain⟨vl7,dx,dy⟩:=RefS.sh aA
 have hsm10:L.length*96≤140737488355328:=dy.small
 have hvl9:(zw n L).length=n:=xM
 refine R0 fun _=>st (zT rfl ?_)
 intro w13 x dz
 let dQ:=Blk x (e.cells de0).toArray 44
 refine st (aS (Iv 0) (zb (za ?_)))
 refine WD4 ((fun T=>WF [fun vals I=>Sep G1 w (T::Rs) I,fun vals I=>(vals 5=(Iv ((yE e ((n:Nat):Int))):Value))∧Sep G1 w (T::Rs) I]) dQ) (AF [Vl 0 (.agg (e.cells de0).toArray),Vl 1 (Ix b 0),Vl 2 (Ix b 0),Vl 3 (Ix b 0),Vl 4 (Iw n),fun _=>True,Vl 6 (Iv ((yE e ((n:Nat):Int))))]) [[],[],[1],[1,2],[1,2,3],(rg 5),(rg 6)] [5] [(0,0),(0,0),(0,0),(0,0),(0,0),(0,0),(1,1)] (dW.new dz) ⟨ob1 0 fun _ _ (dB:Sep _ _ _ _) _=>obl rfl (ze lT kT rfl rfl (zi (dB.b0)) dR),fun _ _ _ _ _ _ _=>obl rfl (mV (Ix b 0) dR),fun _ _ _ _ _ _ dC=>obl rfl (zx (dC 1 dc) dR),fun _ _ _ _ _ _ dD=>obl rfl (Qm (dD 2 dc) dR),ob1 0 fun _ _ (bJ:Sep _ _ _ _) dE=>obl rfl (lD (Iw n) nT (dE 3 dc) (zd (bJ.gblk dx) rfl) dR),?_,?_,zj⟩ ?_
 refine ob1 0 fun vals _ (dG:Sep _ _ _ _) bl=>(obl rfl ?_)
 refine(zO (vals:=[.agg (e.cells de0).toArray,Iw n]) rfl (yK ⟨(bl 0 dc),(bl 4 dc),zj⟩) Tryz.call27 (zai (zk hde0 dw) oe yqe dG) ?_)
 rintro _ w59 ⟨rfl,dH⟩
 exact fun m s av=>⟨(zG s dH),zj⟩
 refine ob1 1 fun _ _ bK _=>?_
 obtain⟨bm,hS110⟩:=bK
 exact obl rfl (ya bm dR)
 intro vals w111 bL bM
 obtain⟨bm,ad⟩:=bL
 have dI:=bM 6 dc
 refine yd (kv:=[(0,Ix b 0),(1,.agg (e.cells de0).toArray),(3,Ix x 0),(4,Iv 0),(5,Iv ((yE e ((n:Nat):Int))))]) ⟨rfl,rfl,rfl,rfl,(by exact dI),zj⟩ (fun ρw111=>(zb (za (za (R0 fun _=>st (mV (Iv ((yE e ((n:Nat):Int)))) (st (yj rfl rfl (zb ?_)))))))))
 cases q: !decide ((yE e ((n:Nat):Int))=0)
 have hc116r:=q
 have q:=zB q
 obtain⟨⟨ho9,ho9'⟩,⟨hs9,dy⟩,dX,hq9⟩:=Zq q
 have U:(zw n L).getD e.origin.toNat 0=((ZD L e.origin.toNat:Nat):Int):=Xd om
 have hcl9:=Wv (L:=L) (o:=e.origin.toNat)
 refine zf rfl (zp (za (R0 fun _=>st (mV (Ix b 0) (st (yA rfl (st (ze Tryz.isAgg41 Tryz.sizeOf41 rfl rfl (CellsAt.sub (zi (ad.b0)) 0 rfl) (st (cL Tryz.call71 (Jl aA oe.origin oe.seq ad) ?_))))))))))
 rintro _ w119 ⟨l,rfl,hgo118,aB⟩
 let bk:=((yp L (e.origin,e.seq)).getD default).cells l
 have aC:=aB.r0
 have hr121s:_*8≤_:=aC.2
 refine st (mV (.tuple #[.agg bk.toArray,.bool (yp L (e.origin,e.seq)).isSome]) (st (zl rfl rfl (st (zl rfl rfl (st (zv oT ?_)))))))
 intro w124 z bN
 let dY:=Blk z bk.toArray 44
 have aD:=aB.new bN
 refine stn (zr (v:=.agg bk.toArray) kT rfl rfl (aD.b0) (zZ ⟨rfl,rfl,rfl,aC.1.one,rfl,rfl,rfl,rfl,rfl,rfl,zj⟩) yqc rfl ?_)
 intro w126 bO
 have aE:=aD.pt0 bO
 refine st (aS (.bool ((yp L (e.origin,e.seq)).isSome)) (zb (za (za (R0 fun _=>st (mV (.bool ((yp L (e.origin,e.seq)).isSome)) (zb ?_)))))))
 cases y:(yp L (e.origin,e.seq)).isSome
 have hc129r:=y
 refine zf rfl (zp (za (za ?_)))
 refine WD4 ((fun TT T=>WF [fun vals I=>Sep G1 w (T::TT) I,fun vals I=> ∃g,(vals 4=g)∧Sep G1 w ((RowE own 3 g (zw n L))::T::TT) I]) ((RowE own 3 l (((yp L (e.origin,e.seq)).getD default).deps))::dQ::Rs) dY) (AF [Vl 0 (Ix x 0),Vl 1 (Ix x 1),Vl 2 (Iv (e.seq)),Vl 3 (Ix b 0),fun _=>True,Vl 5 (Ix x 0),Vl 6 (Ix x 0),Vl 7 (Iv (e.origin)),fun vals=> ∀(g:Value),vals 4=g→vals 8=(Ix (sb g) (so g+e.origin.toNat*1):Value),Vl 9 (Iv (((zw n L).getD e.origin.toNat 0))),Vl 10 (Iv (((zw n L).getD e.origin.toNat 0)+1)),Vl 11 (.bool (!decide (e.seq=(((zw n L).getD e.origin.toNat 0)+1))))]) [[],[0],[0,1],[],[3],[],[5],[5,6],[3,4,5,6,7],[3,4,5,6,7,8],[3,4,5,6,7,8,9],(rg 11)] [4] [(0,1),(0,1),(0,1),(0,0),(0,0),(0,1),(0,1),(0,1),(1,1),(1,1),(1,1),(1,1)] aE ⟨fun _ _ _ _ _ _ _=>obl rfl (yA rfl dR),fun _ _ _ _ _ _ bP=>obl rfl (Za (bP 0 dc) dR),?_,fun _ _ _ _ _ _ _=>obl rfl (mV (Ix b 0) dR),?_,fun _ _ _ _ _ _ _=>obl rfl (yA rfl dR),fun _ _ _ _ _ _ bQ=>obl rfl (xm (bQ 5 dc) dR),?_,?_,?_,?_,?_,zj⟩ ?_ (hlocA:=xd ⟨dA,dA,dA,dA,dT,dA,dA,dA,fun vals m s h=>fun g aF=>(s 8 (.inl rfl)).trans (h g ((s 4 (.inr dc)).symm.trans aF)),dA,dA,dA,zj⟩)
 refine fun ae _ _ dJ dK aG aH=>?_
 have hkk:=xz dJ dK
 rcases hkk with rfl|rfl
 have bR:=aG
 exact obl rfl (lD (Iv (e.seq)) nT (aH 1 dc) (zd (bR.b2) rfl) dR)
 obtain⟨g,A,bS⟩:=aG
 exact obl rfl (lD (Iv (e.seq)) nT (aH 1 dc) (zd (bS.b3) rfl) dR)
 refine ob1 0 fun vals _ (bT:Sep _ _ _ _) bU=>(obl rfl ?_)
 refine(zO (vals:=[Ix b 0]) rfl (yK ⟨(bU 3 dc),zj⟩) mR (Qh aA bT hG bo) ?_)
 rintro g w166 ⟨_,rfl,aI⟩
 have bV:=aI.r0
 have hr168s:_*8≤_:=bV.2
 exact fun m s av=>⟨(exiA g (zG s aI)),zj⟩
 refine fun af _ _ dL dM aJ aK=>?_
 have hkk:=xz dL dM
 rcases hkk with rfl|rfl
 have bW:=aJ
 exact obl rfl (lD (Iv (e.origin)) nT (aK 6 dc) (zd (bW.b2) rfl) dR)
 obtain⟨g,A,bX⟩:=aJ
 exact obl rfl (lD (Iv (e.origin)) nT (aK 6 dc) (zd (bX.b3) rfl) dR)
 refine ob1 1 fun _ _ bY bZ=>?_
 obtain⟨g,A,ca⟩:=bY
 refine obl rfl ?_
 have hi289:e.origin.toNat<(zw n L).length:=bo
 have aL:=ca.r0
 have hr290s:_*8≤_:=aL.2
 refine zA (k:=1) (i:=e.origin) nR oR A aL.1 (bZ 7 dc) ⟨by omega,by omega⟩ (fun m s av=>⟨rfl,?_⟩)
 intro v165q aF
 rw[av 4 (by decide)]at aF;cases A.symm.trans aF
 exact s
 refine ob1 1 fun vals _ cb cc=>?_
 obtain⟨g,A,cd⟩:=cb
 have dN:=cc 8 dc g A
 refine obl rfl ?_
 have ce:e.origin.toNat<(zw n L).length:=bo
 obtain⟨_,_,bn,rfl,hxe299⟩:=cd.rowAtI (i:=0) rfl ce
 exact lD (Iv (((zw n L).getD e.origin.toNat 0))) nT dN (bn.get (j:=0) rfl) dR
 refine ob1 1 fun _ _ cf cg=>?_
 obtain⟨g,A,hS307⟩:=cf
 refine obl rfl ?_
 have ch:InR (((zw n L).getD e.origin.toNat 0)+1):=by omega
 exact zU (r:=((zw n L).getD e.origin.toNat 0)+1) (cg 9 dc) rfl (zJ ch) dR
 refine ob1 1 fun _ _ ci aM=>?_
 obtain⟨g,A,hS316⟩:=ci
 exact obl rfl (yj (aM 2 dc) (aM 10 dc) dR)
 intro vals w319 cj ck
 obtain⟨g,A,aN⟩:=cj
 have dO:=ck 11 dc
 refine yd (kv:=[(0,Ix b 0),(1,.agg (e.cells de0).toArray),(3,Ix x 0),(4,Iv 0),(5,Iv ((yE e ((n:Nat):Int)))),(18,Iv ((yE e ((n:Nat):Int)))),(19,.bool false),(22,Ix b 0),(23,Ix x 0),(24,.agg #[Iv (e.origin),Iv (e.seq)]),(6,Ix z 0),(28,.bool false),(40,.bool (!decide (e.seq=(((zw n L).getD e.origin.toNat 0)+1))))]) ⟨rfl,rfl,rfl,rfl,rfl,rfl,rfl,rfl,rfl,rfl,rfl,rfl,(by exact dO),zj⟩ (fun ρw319=>(zb ?_))
 cases p: !decide (e.seq=(((zw n L).getD e.origin.toNat 0)+1))
 have p:=zB p
 refine zf rfl (zp (za (za (R0 fun _=>st (aS (Iv 0) (zb (zu (yf (fun mq σ I=> ∃k ρ,mq=n-k∧σ=yo ρ [(0,Ix b 0),(3,Ix x 0),(8,Iw k)]∧(k≤n)∧(∀i,i<k→xW L e i=true)∧Sep G1 w ((RowE own 3 g (zw n L))::(Blk z (((yp L (e.origin,e.seq)).getD default).cells l).toArray 44)::(RowE own 3 l (((yp L (e.origin,e.seq)).getD default).deps))::(Blk x (e.cells de0).toArray 44)::Rs) I) ⟨0,_,rfl,sSf,zY _,(fun i h=>absurd h (yO i)),aN⟩ ?_))))))))
 rintro m326 σ327 t ⟨k,ρl1,rfl,rfl,hkk,hm,V⟩
 refine za (za (R0 fun _=>st (mV (Iw k) (st (mV (Ix b 0) (st (zx rfl (st (Qm rfl (st (lD (Iw n) nT rfl (zd (V.gblk dx) rfl) (st (zI rfl rfl (zb ?_))))))))))))))
 cases J:decide (((k:Nat):Int)<((n:Nat):Int))
 have J:=fD J
 refine zf rfl (yh (zX (za (R0 fun _=>st (aS Iz (zb (za (R0 fun _=>st (aS (.bool false) (zb (za (za ?_))))))))))))
 have cl:=au _ _ V
 obtain⟨d,cm⟩:=RefS.open cl
 let eb:=Blk b #[Iw n,d] 93
 have aw:Sep G W (eb::(RowE (α:=Ev) own 44 d L)::(RowE own 3 g (zw n L))::dY::(RowE own 3 l (((yp L (e.origin,e.seq)).getD default).deps))::dQ::Rs) t:=cm
 have cn:=aw.r1
 obtain⟨B,ag,ah,bp,ai,co,aO⟩:=(aw.mv1).lendA
 have u:=zk ah bp
 refine R0 fun _=>st (aS (Iv 0) (zb (zu ?_)))
 have cp:Sep _ _ ((RowE (α:=Ev) (alt B t) 44 Iz [])::_) _:=co.rowNil (alt B t) 44
 refine yf (fun mq σ I=> ∃k vo ρ,mq=L.length-k∧σ=yo ρ [(0,Ix b 0),(3,Ix x 0),(10,.bool ((yV e L k))),(11,Iw k),(9,vo)]∧(k≤L.length)∧Sep ag t ((RowE (alt B t) 44 vo (Zh e L k))::(Blk b #[Iw n,d] 93)::(RowE own 3 g (zw n L))::(Blk z (((yp L (e.origin,e.seq)).getD default).cells l).toArray 44)::(RowE own 3 l (((yp L (e.origin,e.seq)).getD default).deps))::(Blk x (e.cells de0).toArray 44)::Rs) I) ⟨0,(Iz),_,rfl,sSf,zY _,cp⟩ ?_
 rintro m346 σ347 bq ⟨k,vo,ρl2,rfl,rfl,hkk,D⟩
 let dZ:=zV t (sb d) (so d+k*10+3)
 let ea:=(L.getD k default).cells dZ
 have cq:=D.r0
 have hlk9:=zaA (e:=e) (L:=L) (k:=k)
 refine za (za (R0 fun _=>st (mV (Iw k) (st (mV (Ix b 0) (st (zx (b:=b) (o:=0) rfl (st (xK rfl (st (lD d tT rfl (zd (D.b1) rfl) (st (zS (n:=L.length) mT rfl u.sl (st (zI (k:=.i64) (a:=((k:Nat):Int)) (b:=((L.length:Nat):Int)) rfl rfl (zb ?_))))))))))))))))
 cases K:decide (((k:Nat):Int)<((L.length:Nat):Int))
 have hc350r:=K
 have K:=fD K
 refine zf rfl (yh (zX (za (za (R0 fun _=>st (mV (.bool ((yV e L k))) (st (yw (a:=(yV e L k)) rfl (zb ?_)))))))))
 cases M: !(yV e L k)
 have hc351r:=M
 try simp only[zh]at M
 refine zf rfl (zp (za ?_))
 have aj:Sep G W ((RowE (α:=Ev) own 44 vo (Zh e L k))::eb::(RowE (α:=Int) own 3 g (zw n L))::dY::(RowE (α:=Int) own 3 l (((yp L (e.origin,e.seq)).getD default).deps))::dQ::Rs) bq:=aO _ _ _ _ _ D
 have cr:=aj.r0
 have hr353s:_*96≤_:=cr.2
 rw[zci (by omega) (by simpa using M)]at aj
 have ak:Sep G W ((RowE (α:=Ev) own 44 vo (xE e L))::eb::(RowE (α:=Int) own 3 g (zw n L))::dY::(RowE (α:=Int) own 3 l (((yp L (e.origin,e.seq)).getD default).deps))::dQ::Rs) bq:=aj
 have aP:=ak.r0
 have hr355s:_*96≤_:=aP.2
 refine R0 fun _=>st (mV (Ix b 0) (st (mV vo (st (zx (b:=b) (o:=0) rfl (st (xK rfl (stn (yr (v:=vo) (c:=[Iw n,d]) (c':=[Iw n,vo]) wR rfl rfl (ak.b1) aP.1.one rfl rfl ?_)))))))))
 intro dP ct
 refine zb (za (R0 fun _=>st (aS (Iv 0) (zb (zo (zN uT (show _=(Iv 0:Value)from rfl) ?_))))))
 have cu:Sep G W ((RefS b n (xE e L))::(RowE (α:=Int) own 3 g (zw n L))::dY::(RowE (α:=Int) own 3 l (((yp L (e.origin,e.seq)).getD default).deps))::dQ::Rs) dP:=RefS.close (n:=n) (L:=(xE e L)) ((ak.pt1 ct).mv1)
 refine⟨(xE e L),?_,?_,(cu.s5_a)⟩
 rw[Vu q y (by rw[U]at p;exact p) (fun i hi=>hm i (by omega))]
 rw[Vq (Vu q y (by rw[U]at p;exact p) (fun i hi=>hm i (by omega)))]
 try simp only[zh]at M
 refine zg rfl (R0 fun _=>st (mV vo (st (ze (k:=10) lT kT rfl rfl (zi (D.b5)) (st (cL kR (xF (e:=e) (zk hde0 ai) oe D) ?_))))))
 rintro _ w363 ⟨br,rfl,aQ⟩
 have cv:=aQ.r0
 have hr365s:_*8≤_:=cv.2
 refine st (zL (k:=10) (parts':=[(0,.agg (e.cells br).toArray)]) (c:=(e.cells br).toArray) mT kT oT dc rfl kr ?_)
 intro w368 b367 cw
 have aR:=aQ.new cw
 have bs:=aR.b0
 refine st (yx (src:=(alt B t)) (bytes:=96) (x1:=e) (aR.s8_cbdefgh) QF rfl rfl bs (fun _ _ hN=>JI hN oe) yqb rfl ?_)
 intro S bt aT
 have cx:=aT.r0
 refine st (aS S (zb (za ?_)))
 have al:Sep G W ((RowE (α:=Ev) own 44 S ((Zh e L k)++[e]))::eb::(RowE own 3 g (zw n L))::dY::(RowE own 3 l (((yp L (e.origin,e.seq)).getD default).deps))::dQ::Rs) bt:=aO _ _ _ _ _ aT
 have cy:=al.r0
 rw[JS (by omega) (by simpa using M)]at al
 have am:Sep G W ((RowE (α:=Ev) own 44 S (xE e L))::eb::(RowE own 3 g (zw n L))::dY::(RowE own 3 l (((yp L (e.origin,e.seq)).getD default).deps))::dQ::Rs) bt:=al
 have aU:=am.r0
 refine R0 fun _=>st (mV (Ix b 0) (st (mV S (st (zx rfl (st (xK rfl (stn (yr (v:=S) wR rfl rfl (am.b1) aU.1.one rfl rfl ?_)))))))))
 intro dS cz
 refine zb (za (R0 fun _=>st (aS (Iv 0) (zb (zo (zN uT (show _=(Iv 0:Value)from rfl) ?_))))))
 have cC:Sep G W ((RefS b n (xE e L))::(RowE (α:=Int) own 3 g (zw n L))::dY::(RowE own 3 l (((yp L (e.origin,e.seq)).getD default).deps))::dQ::Rs) dS:=RefS.close ((am.pt1 cz).mv1)
 refine⟨(xE e L),?_,?_,(cC.s5_a)⟩
 rw[Vu q y (by rw[U]at p;exact p) (fun i hi=>hm i (by omega))]
 rw[Vq (Vu q y (by rw[U]at p;exact p) (fun i hi=>hm i (by omega)))]
 have K:=tD K
 refine zg rfl (zp (za (zu (za (za ?_)))))
 refine WD4 ((fun TT T=>WF [fun vals I=>Sep ag t (T::TT) I,fun vals I=>(vals 11=(if(!(yV e L k))=true then(.bool ((ltE e (L.getD k default))):Value)else undef))∧Sep ag t (T::TT) I]) (eb::(RowE own 3 g (zw n L))::dY::(RowE own 3 l (((yp L (e.origin,e.seq)).getD default).deps))::dQ::Rs) (RowE (alt B t) 44 vo (Zh e L k))) (AF [Vl 0 (.bool ((yV e L k))),Vl 1 (.bool (!(yV e L k))),Vl 2 (.bool (!(yV e L k))),Vl 3 (if(!(yV e L k))=true then .agg (e.cells de0).toArray else undef),Vl 4 (if(!(yV e L k))=true then Ix b 0 else undef),Vl 5 (if(!(yV e L k))=true then Ix b 0 else undef),Vl 6 (if(!(yV e L k))=true then Ix b 1 else undef),Vl 7 (if(!(yV e L k))=true then d else undef),Vl 8 (if(!(yV e L k))=true then Iw k else undef),Vl 9 (if(!(yV e L k))=true then Ix (sb d) (so d+k*10)else undef),Vl 10 (if(!(yV e L k))=true then .agg ea.toArray else undef),fun _=>True,Vl 12 (.bool ((!(yV e L k))&&(ltE e (L.getD k default))))]) [[],[0],[0,1],[0,1,2],[0,1,2],[0,1,2,4],[0,1,2,4,5],[0,1,2,4,5,6],[0,1,2],[0,1,2,4,5,6,7,8],[0,1,2,4,5,6,7,8,9],(rg 11),(rg 12)] [11] [(0,0),(0,0),(0,0),(0,0),(0,0),(0,0),(0,0),(0,0),(0,0),(0,0),(0,0),(0,0),(1,1)] D ⟨fun _ _ _ _ _ _ _=>obl rfl (mV (.bool ((yV e L k))) dR),fun _ _ _ _ _ _ cD=>obl rfl (yw (cD 0 dc) dR),fun _ _ _ _ _ _ cE=>obl rfl (yg (cE 1 dc) dR),?_,?_,?_,?_,?_,?_,?_,?_,?_,?_,zj⟩ ?_
 refine ob1 0 fun _ _ (cF:Sep _ _ _ _) cG=>(yq rfl rfl (cG 2 dc) (fun X=>?_) yD)
 have cH:=X
 try simp only[zh]at cH
 exact ze lT kT rfl rfl (zi (cF.b5)) (yC X)
 refine fun _ _ _ _ _ _ cI=>(yq rfl rfl (cI 2 dc) (fun Y=>?_) yD)
 have cJ:=Y
 try simp only[zh]at cJ
 exact mV (Ix b 0) (yC Y)
 refine fun _ _ _ _ _ _ aV=>(yq rfl rfl (aV 2 dc) (fun N=>?_) yD)
 have cK:=N
 try simp only[zh]at cK
 exact zx (zH (aV 4 dc) (ifpC N)) (yC N)
 refine fun _ _ _ _ _ _ aW=>(yq rfl rfl (aW 2 dc) (fun O=>?_) yD)
 have cM:=O
 try simp only[zh]at cM
 exact xK (zH (aW 5 dc) (ifpC O)) (yC O)
 refine ob1 0 fun _ _ (cN:Sep _ _ _ _) aX=>(yq rfl rfl (aX 2 dc) (fun P=>?_) yD)
 have cO:=P
 try simp only[zh]at cO
 exact lD d tT (zH (aX 6 dc) (ifpC P)) (zd (cN.b1) rfl) (yC P)
 refine fun _ _ _ _ _ _ cP=>(yq rfl rfl (cP 2 dc) (fun Z=>?_) yD)
 have cQ:=Z
 try simp only[zh]at cQ
 exact mV (Iw k) (yC Z)
 refine ob1 0 fun _ _ _ an=>(yq rfl rfl (an 2 dc) (fun E=>?_) yD)
 have cR:=E
 try simp only[zh]at cR
 have cS:k<L.length:=bo
 exact zn (k:=10) mT kT (zH (an 7 dc) (ifpC E)) u.sl (zH (an 8 dc) (ifpC E)) cS (yC E)
 refine ob1 0 fun _ _ (cT:Sep _ _ _ _) aY=>(yq rfl rfl (aY 2 dc) (fun Q=>?_) yD)
 have cU:=Q
 try simp only[zh]at cU
 have aZ:k<L.length:=bo
 obtain⟨bu,ax,hoke623⟩:=u.evD aZ
 have bv:=cT.cells bu (u.foot (ne_of_lt aZ))
 exact ze lT kT rfl (zH (aY 9 dc) (ifpC Q)) bv (yC Q)
 refine ob1 0 fun vals dU (ao:Sep _ _ _ _) ap=>(yq rfl rfl (ap 2 dc) (fun F=>?_) (fun F m s av=>?_))
 have cV:=F
 try simp only[zh]at cV
 have ba:k<L.length:=bo
 obtain⟨bw,ac,bj⟩:=u.evD ba
 refine(zO (vals:=[.agg (e.cells de0).toArray,.agg ea.toArray]) rfl (yK ⟨(zH (ap 3 dc) (ifpC F)),(zH (ap 10 dc) (ifpC F)),zj⟩) Tryz.call73 (zbB (zk hde0 ai) oe ac bj ao) ?_)
 rintro _ w509 ⟨rfl,cW⟩
 exact fun m s av=>⟨(zG (s.trans (ifpC F).symm) cW),zj⟩
 refine⟨?_,zj⟩
 show(m 11=(if(!(yV e L k))=true then(.bool ((ltE e (L.getD k default))):Value)else undef))∧Sep ag t ((RowE (alt B t) 44 vo (Zh e L k))::eb::(RowE own 3 g (zw n L))::dY::(RowE own 3 l (((yp L (e.origin,e.seq)).getD default).deps))::dQ::Rs) dU
 exact⟨(s.trans (ifnC F).symm),ao⟩
 refine ob1 1 fun _ _ cX cY=>?_
 obtain⟨bb,hS633⟩:=cX
 exact obl rfl (zF (cY 2 dc) (fun hbp=>(zH bb (ifpC hbp))) dR)
 intro vals w635 cZ da
 obtain⟨bb,R⟩:=cZ
 have dV:=da 12 dc
 refine yd (kv:=[(0,Ix b 0),(3,Ix x 0),(10,.bool ((yV e L k))),(11,Iw k),(9,vo),(54,Iw k),(55,Ix b 0),(56,Ix b 0),(57,Ix b 1),(58,d),(59,Iw L.length),(60,.bool true),(75,.bool ((!(yV e L k))&&(ltE e (L.getD k default))))]) ⟨rfl,rfl,rfl,rfl,rfl,rfl,rfl,rfl,rfl,rfl,rfl,rfl,(by exact dV),zj⟩ (fun ρw635=>(zb ?_))
 cases aa:(!(yV e L k))&&(ltE e (L.getD k default))
 have C:=aa
 try simp only[zh]at aa
 refine zf rfl (zp (R0 fun _=>st (mV vo (st (mV (Ix b 0) (st (zx rfl (st (xK rfl (st (lD d tT rfl (zd (R.b1) rfl) (st (mV (Iw k) ?_)))))))))))))
 have db:k<L.length:=bo
 refine st (zn (k:=10) mT kT rfl u.sl rfl db ?_)
 have bc:k<L.length:=bo
 obtain⟨bx,ay,hoke642⟩:=u.evD bc
 have bz:=R.cells bx (u.foot (ne_of_lt bc))
 refine st (ze lT kT rfl rfl bz (st (zL (c:=ea.toArray) mT kT oT dc rfl kr ?_)))
 intro w648 b647 dd
 have bd:=R.new dd
 have bA:=bd.b0
 refine st (yx (src:=(alt B t)) (bytes:=96) (x1:=(L.getD k default)) ((bd.s7_bcdefg).emp1) QF rfl rfl bA (fun _ _ _=>(show _ from zcB (RdS.evG ah (by omega)))) yqb rfl ?_)
 intro bB w650 aq
 have de:=aq.r0
 refine st (aS bB (zb (R0 fun _=>st (mV (Iw k) ?_))))
 have df:InR ((k+1:Nat):Int):=bo
 refine st (zU (r:=((k+1:Nat):Int)) rfl rfl (by rw[show(((k:Nat):Int)+1:Int)=((k+1:Nat):Int)from bo];exact zJ df) (st (aS (Iw (k+1)) (zb ?_))))
 have dg:=(Un om C).1
 rw[←dg]at aq
 exact⟨_,by omega,k+1,bB,_,rfl,yZ ⟨rfl,rfl,((congrArg Value.bool (Un om C).2).symm),rfl,rfl,zj⟩,by omega,aq⟩
 have C:=aa
 try simp only[zh]at aa
 refine zg rfl (za (R0 fun _=>st (mV vo (st (ze lT kT rfl rfl (zi (R.b5)) (st (cL kR (xF (zk hde0 ai) oe R) ?_)))))))
 rintro _ w660 ⟨bC,rfl,be⟩
 have dh:=be.r0
 refine st (zL (c:=(e.cells bC).toArray) mT kT oT dc rfl kr ?_)
 intro w665 b664 di
 have bf:=be.new di
 have bD:=bf.b0
 refine st (yx (src:=(alt B t)) (bytes:=96) (x1:=e) (bf.s8_cbdefgh) QF rfl rfl bD (fun _ _ hN=>JI hN oe) yqb rfl ?_)
 intro bE w667 ab
 have dj:=ab.r0
 refine st (aS bE (zb (R0 fun _=>st (aS (.bool true) (zb (R0 fun _=>st (mV bE (st (mV (Ix b 0) (st (zx rfl (st (xK rfl (st (lD d tT rfl (zd (ab.b1) rfl) (st (mV (Iw k) ?_)))))))))))))))))
 have dk:k<L.length:=bo
 refine st (zn (k:=10) mT kT rfl u.sl rfl dk ?_)
 have bg:k<L.length:=bo
 obtain⟨bF,az,hoke674⟩:=u.evD bg
 have bG:=ab.cells bF (u.foot (ne_of_lt bg))
 refine st (ze lT kT rfl rfl bG (st (zL (c:=ea.toArray) mT kT oT dc rfl kr ?_)))
 intro w680 b679 dl
 have bh:=ab.new dl
 have bH:=bh.b0
 refine st (yx (src:=(alt B t)) (bytes:=96) (x1:=(L.getD k default)) ((bh.s7_bcdefg).emp1) QF rfl rfl bH (fun _ _ _=>(show _ from zcB (RdS.evG ah (by omega)))) yqb rfl ?_)
 intro bI w682 ar
 have dm:=ar.r0
 refine st (aS bI (zb (R0 fun _=>st (mV (Iw k) ?_))))
 have dp:InR ((k+1:Nat):Int):=bo
 refine st (zU (r:=((k+1:Nat):Int)) rfl rfl (by rw[show(((k:Nat):Int)+1:Int)=((k+1:Nat):Int)from bo];exact zJ dp) (st (aS (Iw (k+1)) (zb ?_))))
 have dq:=(Qu om C).1
 rw[←dq]at ar
 exact⟨_,by omega,k+1,bI,_,rfl,yZ ⟨rfl,rfl,((congrArg Value.bool (Qu om C).2).symm),rfl,rfl,zj⟩,by omega,ar⟩
 have J:=tD J
 refine zg rfl (zp (za (zu (za (R0 fun _=>st (mV (Ix b 0) (st (ze lT kT rfl rfl (zi (V.b3)) (st (mV (Iw k) ?_))))))))))
 refine st (cL Tryz.call72 (zcy (e:=e) (o:=k) aA (zk hde0 dw) oe yqe V dX (hG.len)) ?_)
 rintro _ w691 ⟨rfl,bi⟩
 refine st (yw rfl (zb ?_))
 cases H: !(xW L e k)
 try simp only[zh]at H
 refine zf rfl (zp (R0 fun _=>st (mV (Iw k) ?_)))
 have dr:InR ((k+1:Nat):Int):=bo
 refine st (zU (r:=((k+1:Nat):Int)) rfl rfl (by rw[show(((k:Nat):Int)+1:Int)=((k+1:Nat):Int)from bo];exact zJ dr) (st (aS (Iw (k+1)) (zb ?_))))
 exact⟨_,by omega,k+1,_,rfl,sSf,by omega,(yU hm (by simpa using H)),bi⟩
 try simp only[zh]at H
 refine zg rfl (za (R0 fun _=>st (aS (Iv 9) (zb (zo (zN uT (show _=(Iv 9:Value)from rfl) ?_))))))
 have ds:=au _ _ bi
 refine⟨L,?_,?_,(ds.s5_a)⟩
 rw[Jn q y (by rw[U]at p;exact p) (k:=k) (by omega) (by simpa using H)]
 rw[ZY (by rw[Jn q y (by rw[U]at p;exact p) (k:=k) (by omega) (by simpa using H)];decide)]
 have p:=zC p
 refine zg rfl (za (R0 fun _=>st (aS (Iv 9) (zb (zo (zN uT (show _=(Iv 9:Value)from rfl) ?_))))))
 have dt:=au _ _ aN
 refine⟨L,?_,?_,(dt.s5_a)⟩
 rw[Ju q y (by rw[U]at p;exact p)]
 rw[ZY (by rw[Ju q y (by rw[U]at p;exact p)];decide)]
 refine zg rfl (za (R0 fun _=>st (aS (Iv 16) (zb (zo (zN uT (show _=(Iv 16:Value)from rfl) ?_))))))
 have du:=au _ _ aE
 refine⟨L,?_,?_,(du.s4_a)⟩
 rw[Jq q y]
 rw[ZY (by rw[Jq q y];decide)]
 have q:=zC q
 refine zg rfl (za (R0 fun _=>st (mV (Iv ((yE e ((n:Nat):Int)))) (st (aS (Iv ((yE e ((n:Nat):Int)))) (zb (zo (zN uT (show _=(Iv ((yE e ((n:Nat):Int))):Value)from rfl) ?_))))))))
 have dv:=au _ _ ad
 refine⟨L,?_,?_,(dv.s2_a)⟩
 rw[JK q]
 rw[ZY (by rw[JK q];exact q)]
theorem zaK {b:Nat}{n:Nat}{L:List Ev}{e:Ev}{de0:Value}(hde0:RdS W G de0 e.deps)(oe:e.Ok)(hS0:Sep G W ((RefS b n L)::Rs) w)(hG:Good n L)(hn:n≤1000)(hL:L.length≤1000000):Ret Tryz.prog 32 [.pointer (some ⟨b,0,none⟩),.agg (e.cells de0).toArray] w (fun r w'=>r=(.int .i64 ((ZE n L e)):Value)∧Sep G W ((RefS b n (addL n L e))::Rs) w'):=by
 refine Ret.mono (zcQ hde0 oe hS0 hG hn hL) ?_
 rintro r w' ⟨L1,h1,h2,h3⟩
 subst h2
 exact⟨h1,h3⟩
end
section
open Go.Proofs Go.RowKit
theorem QE (n:Int):InR (IntKind.i64.wrap n):=by
 rw[IntKind.wrap_i64]
 omega
theorem QD {i:Int}(hi:InR i)(hS0:Sep G W Rs w):Ret Tryz.prog 53 [.int .i64 (i)] w (fun r w'=> ∃(m:Int),r=(.int .i64 (m):Value)∧(InR m)∧Sep G W Rs w'):=by
 refine zm Tryz.func53 rfl rfl ?_
 refine za (R0 fun _=>st (aS (Iv 0) (zb (za (R0 fun _=>st (mV (Iv i) (st (zbj rfl rfl rfl (st (zU (r:=IntKind.i64.wrap (7001+(IntKind.i64.wrap (13*i)))) rfl rfl rfl (st (aS (Iv (IntKind.i64.wrap (7001+(IntKind.i64.wrap (13*i))))) (zb (zo (zN Tryz.results53 rfl ?_)))))))))))))))
 refine⟨IntKind.i64.wrap (7001+(IntKind.i64.wrap (13*i))),rfl,?_,hS0⟩
 exact QE _
theorem Qk {w0:World}{f0:Nat→Prop}{X:Nat→Nat→Prop}{vl:Value}{l:List Int}(hl9:RdS w0 f0 vl l)(hS0:Sep G W ((ML w0 f0 X)::Rs) w):Ret Tryz.prog 14 [vl] w (fun r w'=>r=(.tuple #[]:Value)∧Sep G W ((ML w0 f0 X)::Rs) w'):=by
 have hl9s:_*8≤_:=hl9.small
 refine zm Tryz.func14 rfl rfl ?_
 refine za (R0 fun _=>st (aS (Iv 0) (zb (zu (yf (fun mq σ t=> ∃k ρ,mq=l.length-k∧σ=yo ρ [(0,vl),(2,Iw k)]∧(k≤l.length)∧Sep G W ((ML w0 f0 X)::Rs) t) ⟨0,_,rfl,sSf,zY _,hS0⟩ ?_)))))
 rintro m2 σ3 w1 ⟨k,ρl1,rfl,rfl,hkk,f⟩
 refine za (za (R0 fun _=>st (mV (Iw k) (st (mV vl (st (zS nR rfl hl9.sl (st (zI rfl rfl (zb ?_))))))))))
 cases c:decide (((k:Nat):Int)<((l.length:Nat):Int))
 have c:=fD c
 refine zf rfl (yh (zX (Qq Tryz.results14 ?_)))
 refine⟨rfl,f⟩
 have c:=tD c
 refine zg rfl (zp (za (zu (R0 fun _=>st (mV vl (st (mV (Iw k) (st (mV (Iw k) ?_)))))))))
 have g:InR ((k+7:Nat):Int):=bo
 refine st (zU (r:=((k+7:Nat):Int)) rfl rfl (by rw[show(((k:Nat):Int)+7:Int)=((k+7:Nat):Int)from bo];exact zJ g) (st (cL Tryz.call53 (QD g f) ?_)))
 rintro _ w9 ⟨j,rfl,hr8,m⟩
 have p:k<l.length:=bo
 refine st (zn (k:=1) nR oR rfl hl9.sl rfl p ?_)
 have d:k<l.length:=bo
 obtain⟨e,_⟩:=hl9.int d
 refine stn (KB (b:=sb vl) (o:=so vl+k*1) (u:=Iv j) (us:=[Iv j]) m oR rfl (hl9.foot (ne_of_lt d)) rfl rfl (zZ ⟨rfl,zj⟩) e rfl (Nat.zero_lt_succ _) (fun v x y z A=>.inr (MildAll.at_ (show MildAll [Iv (l[k])] [Iv j]from⟨MildV.num om,zj⟩) v x y z A)) (fun _ _ h=>h) ?_)
 intro w12 q
 refine zb (R0 fun _=>st (mV (Iw k) ?_))
 have s:InR ((k+1:Nat):Int):=bo
 refine st (zU (r:=((k+1:Nat):Int)) rfl rfl (by rw[show(((k:Nat):Int)+1:Int)=((k+1:Nat):Int)from bo];exact zJ s) (st (aS (Iw (k+1)) (zb ?_))))
 exact⟨_,by omega,k+1,_,rfl,sSf,by omega,q⟩
theorem Sep.depoML {G:Nat→Prop}{W w:World}{As:List HP}{d:Value}{l:List Int}(h:Sep G W (DepO d l::As) w): ∃f0,RdS w f0 d l∧Sep G W (ML w f0 noX::As) w:=by
 obtain⟨f,hA,hl,hT⟩:=h.take (i:=0) rfl
 exact⟨fun b=>f b∧Soft w b,hA,hT w _ f (Chg.refl _ _) (fun b hb=>⟨hb.1,hb.2,fun o v hv=>⟨v,hv,.inr (.inl rfl)⟩⟩) (fun _ h=>.inl h)⟩
theorem Qo {va:Value}{a:List Ev}(ha:RdS W G va a){vb:Value}{b:List Ev}(hb:RdS W G vb b)(hS0:Sep G W Rs w):Ret Tryz.prog 15 [va,vb] w (fun r w'=>r=(.bool (decide (a=b)):Value)∧Sep G W Rs w'):=by
 have has:_*96≤_:=ha.small
 have hbs:_*96≤_:=hb.small
 refine zm Tryz.func15 rfl rfl ?_
 refine za (R0 fun _=>st (aS (.bool false) (zb (za (za (R0 fun _=>st (mV va (st (zS mT rfl ha.sl (st (mV vb (st (zS mT rfl hb.sl (st (yj rfl rfl (zb ?_))))))))))))))))
 cases j: !decide (((a.length:Nat):Int)=((b.length:Nat):Int))
 have j:=zB j
 refine zf rfl (zp (za (za (R0 fun _=>st (aS (Iv 0) (zb (zu (yf (fun mq σ x=> ∃k ρ,mq=a.length-k∧σ=yo ρ [(0,va),(1,vb),(5,Iw k)]∧(k≤a.length)∧(∀i,i<k→a.gd i=b.gd i)∧Sep G W Rs x) ⟨0,_,rfl,sSf,zY _,(fun i h=>absurd h (yO i)),hS0⟩ ?_))))))))
 rintro m3 σ4 w2 ⟨k,ρl1,rfl,rfl,hkk,hm,V⟩
 refine za (za (R0 fun _=>st (mV (Iw k) (st (mV va (st (zS mT rfl ha.sl (st (zI rfl rfl (zb ?_))))))))))
 cases p:decide (((k:Nat):Int)<((a.length:Nat):Int))
 have p:=fD p
 refine zf rfl (yh (zX (za (R0 fun _=>st (aS (.bool true) (zb (zo (zN pR (show _=(.bool true:Value)from rfl) ?_))))))))
 refine⟨?_,V⟩
 rw[decide_eq_true (Xx (by omega) (fun i hi=>hm i (by omega)))]
 have p:=tD p
 refine zg rfl (zp (za (zu (za (WD4 (WF [fun vals x=>Sep G W Rs x,fun vals x=>(vals 8=(.bool (decide ((a.gd k)=(b.gd k))):Value))∧Sep G W Rs x]) (AF [Vl 0 va,Vl 1 (Iw k),Vl 2 (Ix (sb va) (so va+k*10)),Vl 3 (.agg ((a.gd k).cells (zV W (sb va) (so va+k*10+3))).toArray),Vl 4 vb,Vl 5 (Iw k),Vl 6 (Ix (sb vb) (so vb+k*10)),Vl 7 (.agg ((b.gd k).cells (zV W (sb vb) (so vb+k*10+3))).toArray),fun _=>True,Vl 9 (.bool (!(decide ((a.gd k)=(b.gd k)))))]) [[],[],[0,1],[0,1,2],[],[],[4,5],[4,5,6],(rg 8),(rg 9)] [8] [(0,0),(0,0),(0,0),(0,0),(0,0),(0,0),(0,0),(0,0),(0,0),(1,1)] V ⟨fun _ _ _ _ _ _ _=>obl rfl (mV va dR),fun _ _ _ _ _ _ _=>obl rfl (mV (Iw k) dR),?_,?_,fun _ _ _ _ _ _ _=>obl rfl (mV vb dR),fun _ _ _ _ _ _ _=>obl rfl (mV (Iw k) dR),?_,?_,?_,?_,zj⟩ ?_)))))
 refine ob1 0 fun _ _ _ q=>(obl rfl ?_)
 have J:k<a.length:=bo
 exact zn (k:=10) mT kT (q 0 dc) ha.sl (q 1 dc) J dR
 refine ob1 0 fun _ _ (K:Sep _ _ _ _) L=>(obl rfl ?_)
 have s:k<a.length:=bo
 obtain⟨y,l,hoke132⟩:=ha.evD s
 have hsm134:((a.gd k).deps).length*8≤140737488355328:=l.small
 have z:=K.cells y (ha.foot (ne_of_lt s))
 exact ze lT kT rfl (L 2 dc) z dR
 refine ob1 0 fun _ _ _ t=>(obl rfl ?_)
 have M:k<b.length:=bo
 exact zn (k:=10) mT kT (t 4 dc) hb.sl (t 5 dc) M dR
 refine ob1 0 fun _ _ (N:Sep _ _ _ _) O=>(obl rfl ?_)
 have u:k<b.length:=bo
 obtain⟨A,m,hoke166⟩:=hb.evD u
 have hsm168:((b.gd k).deps).length*8≤140737488355328:=m.small
 have B:=N.cells A (hb.foot (ne_of_lt u))
 exact ze lT kT rfl (O 6 dc) B dR
 refine ob1 0 fun vals _ (o:Sep _ _ _ _) C=>(obl rfl ?_)
 have D:k<a.length:=bo
 obtain⟨P,d,E⟩:=ha.evD D
 have hsm86:((a.gd k).deps).length*8≤140737488355328:=d.small
 have hcw87:=o.cells P (ha.foot (ne_of_lt D))
 have F:k<b.length:=bo
 obtain⟨Q,g,H⟩:=hb.evD F
 have hsm90:((b.gd k).deps).length*8≤140737488355328:=g.small
 have hcw91:=o.cells Q (hb.foot (ne_of_lt F))
 refine(zO (vals:=[.agg ((a.gd k).cells (zV W (sb va) (so va+k*10+3))).toArray,.agg ((b.gd k).cells (zV W (sb vb) (so vb+k*10+3))).toArray]) rfl (yK ⟨(C 3 dc),(C 7 dc),zj⟩) kY (xw (a:=(a.gd k)) (b:=(b.gd k)) d E g H o) ?_)
 rintro _ w92 ⟨rfl,X⟩
 exact fun vals' Z hv'=>⟨(zG Z X),zj⟩
 refine ob1 1 fun _ _ R _=>?_
 obtain⟨I,hS176⟩:=R
 exact obl rfl (yw I dR)
 intro vals w177 S T
 obtain⟨I,v⟩:=S
 have Y:=T 9 dc
 refine yd (kv:=[(0,va),(1,vb),(5,Iw k),(11,Iw k),(12,va),(13,Iw a.length),(14,.bool true),(26,.bool (!(decide ((a.gd k)=(b.gd k)))))]) ⟨rfl,rfl,rfl,rfl,rfl,rfl,rfl,(by exact Y),zj⟩ (fun ρw177=>(zb ?_))
 cases c: !(decide ((a.gd k)=(b.gd k)))
 have c:=zB c
 refine zf rfl (zp (R0 fun _=>st (mV (Iw k) ?_)))
 have U:InR ((k+1:Nat):Int):=bo
 refine st (zU (r:=((k+1:Nat):Int)) rfl rfl (by rw[show(((k:Nat):Int)+1:Int)=((k+1:Nat):Int)from bo];exact zJ U) (st (aS (Iw (k+1)) (zb ?_))))
 exact⟨_,by omega,k+1,_,rfl,sSf,by omega,(yU hm (by simpa using c)),v⟩
 have c:=zC c
 refine zg rfl (za (R0 fun _=>st (aS (.bool false) (zb (zo (zN pR (show _=(.bool false:Value)from rfl) ?_))))))
 refine⟨?_,v⟩
 rw[decide_eq_false (fun e=>by subst e;first|omega|(simp at c))]
 have j:=zC j
 refine zg rfl (za (R0 fun _=>st (aS (.bool false) (zb (zo (zN pR (show _=(.bool false:Value)from rfl) ?_))))))
 refine⟨?_,hS0⟩
 rw[decide_eq_false (fun e=>by subst e;first|omega|(simp at j))]
theorem KV {d:Dcl}{dd0:Value}(hdd0:RdS W G dd0 d.types){dd1:Value}(hdd1:RdS W G dd1 d.projs)(od:d.Ok){vl:Value}{l:List Ev}(hl:RdS W G vl l)(hS0:Sep G W Rs w)(hd:DclOk d)(hfew:l.length≤1000000):Ret Tryz.prog 33 [.agg (d.cells dd0 dd1).toArray,vl] w (fun r w'=> ∃(b:Nat),r=(.pointer (some ⟨b,0,none⟩):Value)∧Sep G W ((RefV b d (zq d l))::Rs) w'):=by
 refine zm Tryz.func33 rfl rfl ?_
 refine za (R0 fun _=>st (zT rfl ?_))
 intro w3 b2 B
 have u:=hS0.new B
 refine st (aS (.pointer none) (zb (za (R0 fun _=>st (ze qT rT rfl rfl (zi (u.b0)) (st (cL Tryz.call74 (KC hdd0 hdd1 od u) ?_)))))))
 rintro _ w6 ⟨g,rfl,C⟩
 refine st (aS (Ix g 0) (zb (za (za (R0 fun _=>st (aS (Iv 0) (zb (zu (yf (fun mq σ D=> ∃k ρ,mq=l.length-k∧σ=yo ρ [(1,vl),(2,Ix b2 0),(5,Ix g 0),(6,Iw k)]∧(k≤l.length)∧Sep G W ((RefV g d (zq d (l.take k)))::(Blk b2 (d.cells dd0 dd1).toArray 25)::Rs) D) ⟨0,_,rfl,sSf,zY _,C⟩ ?_)))))))))
 rintro m9 σ10 w8 ⟨k,ρl1,rfl,rfl,hkk,h⟩
 refine za (za (R0 fun _=>st (mV (Iw k) (st (mV vl (st (zS mT rfl hl.sl (st (zI rfl rfl (zb ?_))))))))))
 cases f:decide (((k:Nat):Int)<((l.length:Nat):Int))
 have f:=fD f
 refine zf rfl (yh (zX (za (R0 fun _=>st (mV (Ix g 0) (st (aS (Ix g 0) (zb (zo (zN Tryz.results33 (show _=(Ix g 0:Value)from rfl) ?_))))))))))
 have j:=h.s2_a
 have hkn:k=l.length:=by omega
 rw[hkn,List.take_length]at j
 refine⟨g,rfl,j⟩
 have f:=tD f
 refine zg rfl (zp (za (zu (R0 fun _=>st (mV (Ix g 0) (st (mV vl (st (mV (Iw k) ?_)))))))))
 have x:k<l.length:=bo
 refine st (zn (k:=10) mT kT rfl hl.sl rfl x ?_)
 have m:k<l.length:=bo
 obtain⟨s,c,o⟩:=hl.evD m
 have t:=h.cells s (hl.foot (ne_of_lt m))
 refine st (ze lT kT rfl rfl t (st (cL Tryz.call75 (zbw c o h hd (⟨_,rfl⟩) ((JJ hfew))) ?_)))
 rintro _ w21 ⟨v19,rfl,hok20,p⟩
 have y:=p.r1
 refine zb (R0 fun _=>st (mV (Iw k) ?_))
 have z:InR ((k+1:Nat):Int):=bo
 refine st (zU (r:=((k+1:Nat):Int)) rfl rfl (by rw[show(((k:Nat):Int)+1:Int)=((k+1:Nat):Int)from bo];exact zJ z) (st (aS (Iw (k+1)) (zb ?_))))
 have q:=p.s3_ac
 have A:(zq d (l.take (k+1)))=((zq d (l.take k))++[yI d (zq d (l.take k)) (l.gd k)]):=(Uf om)
 rw[←A]at q
 exact⟨_,by omega,k+1,_,rfl,sSf,by omega,q⟩
theorem zev {d:Dcl}{dd0:Value}(hdd0:RdS W G dd0 d.types){dd1:Value}(hdd1:RdS W G dd1 d.projs)(od:d.Ok){n:Nat}(hn:n≤1000){vl:Value}{l:List Ev}(hl:RdS W G vl l)(hS0:Sep G W Rs w)(hd:DclOk d)(hl9:l.length≤1000):Ret Tryz.prog 10 [.agg (d.cells dd0 dd1).toArray,.int .i64 ((n:Nat):Int),vl] w (fun r w'=> ∃(bs:Nat) (bv:Nat),r=(.tuple #[.pointer (some ⟨bs,0,none⟩),.pointer (some ⟨bv,0,none⟩)]:Value)∧Sep G W ((RefS bs n (yX n l))::(RefV bv d (zq d (yX n l)))::Rs) w'):=by
 refine zm Tryz.func10 rfl rfl ?_
 refine za (R0 fun _=>st (zT rfl ?_))
 intro w3 b2 ax
 refine st (aS (.pointer none) (st (aS (.pointer none) (zb (za (R0 fun _=>st (mV (Iw n) ?_)))))))
 refine st (cL Tryz.call31 (zcU (n:=n) yqe (hS0.new ax)) ?_)
 rintro _ w6 ⟨j,rfl,ay⟩
 refine st (aS (Ix j 0) (zb (za (za (R0 fun _=>st (aS (Iv 0) (zb (zu (yf (fun mq σ x=> ∃(k:Nat) (ρ:Env),mq=l.length-k∧σ=yo ρ [(1,Iw n),(2,vl),(3,Ix b2 0),(8,Ix j 0),(9,Iw k)]∧(k≤l.length)∧Sep G W ((RefS j n (yX n (l.take k)))::(Blk b2 (d.cells dd0 dd1).toArray 25)::Rs) x) ⟨0,_,rfl,sSf,zY _,ay⟩ ?_)))))))))
 rintro m9 σ10 Q ⟨k,ρl1,rfl,rfl,hkk,p⟩
 refine za (za (R0 fun _=>st (mV (Iw k) (st (mV vl (st (zS mT rfl hl.sl (st (zI rfl rfl (zb ?_))))))))))
 cases q:decide (((k:Nat):Int)<((l.length:Nat):Int))
 have q:=fD q
 refine zf rfl (yh (zX (za ?_)))
 have az:k=l.length:=by omega
 rw[az,List.take_length]at p
 have ac:Sep G W ((RefS j n (yX n l))::(Blk b2 (d.cells dd0 dd1).toArray 25)::Rs) Q:=p
 obtain⟨H,I,J,ad,ae⟩:=ac.lend
 obtain⟨vl20,hb21,af⟩:=RefS.sh I
 refine WD4 ((fun K=>WF [fun vals x=>Sep H Q (K::Rs) x,fun vals x=> ∃g,(vals 3=g)∧Sep H Q ((RowE own 44 g (yX n l))::K::Rs) x,fun vals x=> ∃g c,(vals 3=g)∧(vals 4=(Ix c 0:Value))∧Sep H Q ((RowE own 44 g (yX n l))::(RefV c d (zq d (yX n l)))::K::Rs) x]) (Blk b2 (d.cells dd0 dd1).toArray 25)) (AF [Vl 0 (Ix j 0),Vl 1 (.agg (d.cells dd0 dd1).toArray),Vl 2 (Ix j 0),fun _=>True,fun _=>True,Vl 5 (Ix j 0),fun vals=> ∀(c:Nat),vals 4=(Ix c 0:Value)→vals 6=(Ix c 0:Value)]) [[],[],[],[2],[1,2,3],(rg 5),(rg 6)] [3,4] [(0,2),(0,1),(0,0),(0,0),(1,1),(2,2),(2,2)] ad ⟨fun _ _ _ _ _ _ _=>obl rfl (mV (Ix j 0) dR),?_,fun _ _ _ _ _ _ _=>obl rfl (mV (Ix j 0) dR),?_,?_,fun _ _ _ _ _ _ R=>obl rfl (ya (R 0 dc) dR),?_,zj⟩ ?_ (hlocA:=xd ⟨dA,dA,dA,dT,dT,dA,fun vals s u h=>fun c y=>(u 6 (.inl rfl)).trans (h c ((u 4 (.inr dc)).symm.trans y)),zj⟩)
 refine fun z _ _ ag ah L _=>?_
 have hkk:=xz ag ah
 rcases hkk with rfl|rfl
 have S:=L
 exact obl rfl (ze qT rT rfl rfl (zi (S.b0)) dR)
 obtain⟨g,m,T⟩:=L
 exact obl rfl (ze qT rT rfl rfl (zi (T.b1)) dR)
 refine ob1 0 fun vals _ (ai:Sep _ _ _ _) aj=>(obl rfl ((zO (vals:=[Ix j 0]) rfl (yK ⟨(aj 2 dc),zj⟩) lY (JE I ai) ?_)))
 rintro g w52 ⟨_,rfl,M⟩
 have ak:=M.r0
 exact fun s u A=>⟨(exiA g (zG u M)),zj⟩
 refine ob1 1 fun vals _ al am=>?_
 obtain⟨g,m,an⟩:=al
 refine obl rfl ?_
 obtain⟨G64,ao,N,ap,aq⟩:=an.lend
 have B:=RowE.rd ao
 refine(zO (vals:=[.agg (d.cells dd0 dd1).toArray,g]) rfl (yK ⟨(am 1 dc),m,zj⟩) Tryz.call33 (KV (zk (zk hdd0 J) N) (zk (zk hdd1 J) N) od B ap hd ((Nat.le_trans Zm om))) ?_)
 rintro _ w72 ⟨c,rfl,ar⟩
 have au:=aq _ _ ar
 exact fun s u A=>⟨(exiA g (exiA c (zG ((A 3 dc).trans m) (zG u au)))),zj⟩
 refine ob1 2 fun _ _ U _=>?_
 obtain⟨g,c,m,t,hS123⟩:=U
 refine obl rfl (ya t (fun s u A=>⟨rfl,?_⟩))
 intro b71q y
 rw[A 4 (by decide)]at y;cases t.symm.trans y
 exact u
 intro vals w124 V C
 obtain⟨g,c,m,t,X⟩:=V
 have av:=C 5 dc
 have aw:=C 6 dc c t
 refine yd (kv:=[(1,Iw n),(2,vl),(3,Ix b2 0),(8,Ix j 0),(9,Iw k),(12,Iw k),(13,vl),(14,Iw l.length),(15,.bool false),(6,Ix j 0),(7,Ix c 0)]) ⟨rfl,rfl,rfl,rfl,rfl,rfl,rfl,rfl,rfl,(by exact av),(by exact aw),zj⟩ (fun ρw124=>(zb (zo (zbW Tryz.results10 (show _=(Ix j 0:Value)from rfl) (show _=(Ix c 0:Value)from rfl) ?_))))
 have Y:=ae _ _ X
 refine⟨j,c,rfl,(Y.s4_ac)⟩
 have q:=tD q
 refine zg rfl (zp (za (zu (R0 fun _=>st (mV (Ix j 0) (st (mV vl (st (mV (Iw k) ?_)))))))))
 have Z:k<l.length:=bo
 refine st (zn (k:=10) mT kT rfl hl.sl rfl Z ?_)
 have D:k<l.length:=bo
 obtain⟨O,o,F⟩:=hl.evD D
 have P:=p.cells O (hl.foot (ne_of_lt D))
 refine st (ze lT kT rfl rfl P (st (cL Tryz.call32 (zaK o F p laidL_good hn ((Nat.le_trans Um om))) ?_)))
 rintro _ w137 ⟨rfl,E⟩
 refine zb (R0 fun _=>st (mV (Iw k) ?_))
 have aa:InR ((k+1:Nat):Int):=bo
 refine st (zU (r:=((k+1:Nat):Int)) rfl rfl (by rw[show(((k:Nat):Int)+1:Int)=((k+1:Nat):Int)from bo];exact zJ aa) (st (aS (Iw (k+1)) (zb ?_))))
 have ab:(yX n (l.take (k+1)))=(addL n (yX n (l.take k)) (l.gd k)):=(Ui om).symm
 rw[←ab]at E
 exact⟨_,by omega,k+1,_,rfl,sSf,by omega,E⟩
abbrev zW (d:Dcl)(j:Nat)(g:List Ev)(m:Nat)(s:Int):=exR d (1+j) g (zq d g) ((m:Nat):Int) s
set_option maxHeartbeats 8000000 in
theorem Vo {d:Dcl}{dd0:Value}(hdd0:RdS W G dd0 d.types){dd1:Value}(hdd1:RdS W G dd1 d.projs)(od:d.Ok){n:Int}(hn:InR n){vl:Value}{l:List Ev}(hl:RdS W G vl l){o:Int}(ho:InR o){start:Int}(hstart:InR start){vcm:Value}{cm:List Cmd}(hcm:RdS W G vcm cm)(hKN:RdS W G (.slice (some ⟨0,0,none⟩) 6 6) kindsL)(hS0:Sep G W Rs w):Ret Tryz.prog 3 [.agg (d.cells dd0 dd1).toArray,.int .i64 (n),vl,.int .i64 (o),.int .i64 (start),vcm] w (fun r w'=>r=(.bool true:Value)∧Sep G W Rs w'):=by
 have hdd0s:_*24≤_:=hdd0.small
 have hdd1s:_*40≤_:=hdd1.small
 have hls:_*96≤_:=hl.small
 have hcms:_*56≤_:=hcm.small
 have hKNs:_*8≤_:=hKN.small
 refine zm (args:=[.agg (d.cells dd0 dd1).toArray,Iv n,vl,Iv o,Iv start,vcm]) Tryz.func3 rfl rfl ?_
 refine za (R0 fun _=>st (zT (v:=.agg (d.cells dd0 dd1).toArray) rfl ?_))
 intro w3 b2 gL
 let hh:=Blk b2 (d.cells dd0 dd1).toArray 25
 have fs:=hS0.new gL
 refine st (aS (.bool false) (zb (za (za (R0 fun _=>st (ze (k:=2) qT rT rfl rfl (zi (fs.b0)) (st (cL Tryz.call5 (Ww (d:=d) hdd0 hdd1 od fs) ?_))))))))
 rintro _ w7 ⟨b5,rfl,gN,ft⟩
 refine st (yw (a:=b5) rfl (zb ?_))
 cases bD: !b5
 have hc9r:=bD
 try simp only[zh]at bD
 have aa:=gN (by simpa using bD)
 refine zf rfl (zp (za (R0 fun _=>st (mV (Iv n) ?_))))
 refine st (cL mY (YM (x:=n) (n:=64) hn yqe ft) ?_)
 rintro _ w12 ⟨j,rfl,hq11,fu⟩
 have cw:InR ((1+j:Nat):Int):=bo
 refine st (zU (r:=((1+j:Nat):Int)) (k:=.i64) (a:=1) (b:=((j:Nat):Int)) rfl rfl (by rw[show(1+((j:Nat):Int):Int)=((1+j:Nat):Int)from bo];exact zJ cw) (st (aS (Iw (1+j)) (zb (za (yy (by kernel_rfl) (fun _=>(st (mV (Iw (1+j)) (st (mV vl (st (cL Tryz.call8 (XJ (n:=((1+j:Nat):Int)) (l:=l) (vl:=vl) cw hl fu) ?_)))))))))))))
 rintro T w19 ⟨_,S,rfl,cV,hft18,cx⟩
 have fv:=cx.r0
 have hr21s:_*96≤_:=fv.2
 refine st (aS T (zb (za (R0 fun _=>st (mV (Iv o) (st (mV (Iw (1+j)) ?_)))))))
 refine st (cL mY (YM (x:=o) (n:=1+j) ho yqe cx) ?_)
 rintro _ w24 ⟨m,rfl,hq23,cy⟩
 refine st (aS (Iw m) (zb (za (R0 fun _=>st (ze (k:=2) qT rT rfl rfl (zi (cy.b1)) (st (mV (Iw (1+j)) (st (mV T ?_)))))))))
 obtain⟨G26,fw,al,fx,fy⟩:=cy.lend
 have bE:=RowE.rdB fw al
 have hrd32s:_*96≤_:=bE.small
 refine st (cL Tryz.call9 (Xc (d:=d) (n:=1+j) (l:=S) (vl:=T) (zk hdd0 al) (zk hdd1 al) od yqe bE (zk hKN al) fx (aa.1) om) ?_)
 rintro _ w35 ⟨H,I,rfl,fz⟩
 have cz:=fy _ _ fz
 refine st (mV (.tuple #[Ix H 0,Ix I 0]) (st (zl (vs:=[Ix H 0,Ix I 0]) (i:=0) (v:=Ix H 0) rfl rfl (st (zl (vs:=[Ix H 0,Ix I 0]) (i:=1) (v:=Ix I 0) rfl rfl (st (aS (Ix H 0) (st (aS (Ix I 0) (zb (za (R0 fun _=>st (ze (k:=2) qT rT rfl rfl (zi (cz.b3)) (st (mV (Iw (1+j)) (st (mV T ?_)))))))))))))))))
 obtain⟨G38,fA,bB,fB,fC⟩:=cz.lend
 have bF:=RowE.rdB fA bB
 have hrd44s:_*96≤_:=bF.small
 refine st (cL Tryz.call10 (zev (d:=d) (n:=1+j) (l:=S) (vl:=T) (zk hdd0 bB) (zk hdd1 bB) od yqe bF fB (aa.1) om) ?_)
 rintro _ gO ⟨M,N,rfl,fE⟩
 have cC:=fC _ _ fE
 refine st (mV (.tuple #[Ix M 0,Ix N 0]) (st (zl (vs:=[Ix M 0,Ix N 0]) (i:=0) (v:=Ix M 0) rfl rfl (st (zl (vs:=[Ix M 0,Ix N 0]) (i:=1) (v:=Ix N 0) rfl rfl (st (aS (Ix M 0) (st (aS (Ix N 0) (zb (za (za ?_))))))))))))
 obtain⟨g,cD⟩: ∃z,(yX (1+j) S)=z:=⟨_,rfl⟩
 let hi:=ViewO I d (zq d g) (zq d g)
 have U:Good (1+j) g:=by rw[←cD];exact laidL_good
 have hLl9:g.length≤60:=by rw[←cD];exact Nat.le_trans Zm cV
 rw[cD]at cC
 have cE:Sep G W ((RowE (α:=Ev) (shr G W) 44 T S)::(RefS M (1+j) g)::(RefV N d (zq d g))::(SetO H (1+j) g)::hi::hh::Rs) gO:=cC
 have bC: ∀e∈g,e.Ok:=(cE).setOks (i:=3) rfl U.ids
 have htp9:=XN bC
 have hrl9:=xH d g
 refine zy kr (st (mV (Ix H 0) (st (xx (b:=H) (o:=0) Tryz.underlying32 rfl (st (mV (.bool false) (sty rfl rfl (mV (Ix I 0) (sty rfl rfl (xx (b:=I) (o:=0) Tryz.underlying33 rfl (st (yb (v:=.bool false) rfl rfl (zb (zf rfl (zp (za (za (R0 fun _=>st (aS (Iv 0) (zb (zu ?_)))))))))))))))))))))
 refine yf (fun mq σ Q=> ∃(k:Nat) (ρ:Env),mq=cm.length-k∧σ=yo ρ [(3,Iw m),(4,Iv start),(5,vcm),(6,Ix b2 0),(13,Ix H 0),(14,Ix I 0),(15,Ix M 0),(16,Ix N 0),(17,Iw k)]∧(k≤cm.length)∧Sep G W ((RowE (α:=Ev) (shr G W) 44 T S)::(RefS M (1+j) g)::(RefV N d (zq d g))::(SetO H (1+j) g)::(ViewO I d (zq d g) (zq d g))::(Blk b2 (d.cells dd0 dd1).toArray 25)::Rs) Q) ⟨0,_,rfl,sSf,zY _,cE⟩ ?_
 rintro m52 σ53 w51 ⟨k,ρl1,rfl,rfl,hkk,cF⟩
 refine za (za (zy kr (st (mV (Iw k) (st (mV vcm (st (zS (n:=cm.length) wT rfl hcm.sl (st (zI (k:=.i64) (a:=((k:Nat):Int)) (b:=((cm.length:Nat):Int)) rfl rfl (st (mV (.bool (decide (((k:Nat):Int)<((cm.length:Nat):Int)))) (stc (V:=Iw k) rfl rfl (fun fF=>?_) ?_)))))))))))))
 have hl56:=tD fF
 exact mV (Iw k) rflB
 refine stc (V:=.bool (decide (((k:Nat):Int)<30))) rfl rfl (fun cG=>?_) ?_
 have hl58:=tD cG
 exact zI (k:=.i64) (a:=((k:Nat):Int)) (b:=30) (ifpC cG) rfl rflB
 refine st (zF (b:=decide (((k:Nat):Int)<((cm.length:Nat):Int))) (b':=decide (((k:Nat):Int)<30)) rfl (fun hbp=>(ifpC hbp)) (zb ?_))
 cases am:(decide (((k:Nat):Int)<((cm.length:Nat):Int)))&&(decide (((k:Nat):Int)<30))
 have bG:=am
 try simp only[zh]at am
 refine zf rfl (yh (zX (za (zy kr (st (mV (Ix H 0) ?_))))))
 obtain⟨G61,cH,hB64,fG,fH⟩:=(cF.mv3).lend
 obtain⟨vv67,m68,R69,hb70,fI,hr72⟩:=SetO.sh cH
 have hsm73:(zw (1+j) g).length*8≤140737488355328:=fI.small
 refine st (cL Tryz.call16 (KY cH fG (U.ids) (U.srt) om) ?_)
 rintro gP w75 ⟨_,rfl,cI⟩
 have fJ:=cI.r0
 have hr77s:_*96≤_:=fJ.2
 have fK:=fH _ _ cI
 refine st (mV (Ix M 0) ?_)
 obtain⟨G80,cJ,hB83,fL,fM⟩:=(fK.mv3).lend
 obtain⟨vl86,hb87,fN⟩:=RefS.sh cJ
 have hsm89:g.length*96≤140737488355328:=fN.small
 refine st (cL lY (JE cJ fL) ?_)
 rintro gQ w91 ⟨_,rfl,cK⟩
 have fO:=cK.r0
 have hr93s:_*96≤_:=fO.2
 have fP:=fM _ _ cK
 obtain⟨G96,fQ,hB99,cW,cX⟩:=(fP.mv3).lend
 have aM:=RowE.rd fQ
 have hrd102s:_*96≤_:=aM.small
 obtain⟨G104,cY,cZ,da,db⟩:=(cW.mv1).lend
 have aN:=RowE.rd cY
 have hrd110s:_*96≤_:=aN.small
 refine st (cL Tryz.call15 (Qo (a:=g) (va:=gP) (b:=g) (vb:=gQ) (zk aM cZ) aN da) ?_)
 rintro _ w111 ⟨rfl,dd⟩
 have de:=db _ _ dd
 have df:=cX _ _ de
 have cM:(decide (g=g))=true:=(decide_eq_true rfl)
 rw[cM]
 refine st (mV (.bool true) (sty rfl rfl (mV (Ix I 0) (sty rfl rfl (cL Tryz.call19 (zar (df.mv6)) ?_)))))
 rintro fR w118 ⟨_,rfl,bH⟩
 have dg:=bH.r1
 have hr120s:_*120≤_:=dg.2
 refine sty rfl rfl (mV (Ix N 0) ?_)
 obtain⟨G122,bI,hB125,dh,di⟩:=(bH.mv7).lend
 obtain⟨vt128,vp129,ve130,hb131,dj,dk,dl⟩:=RefV.sh bI
 have hsm135:d.types.length*24≤140737488355328:=dj.small
 have hsm136:d.projs.length*40≤140737488355328:=dk.small
 have hsm137:(zq d g).length*120≤140737488355328:=dl.small
 refine sty rfl rfl (cL Tryz.call20 (UJ bI dh) ?_)
 rintro fS w139 ⟨_,rfl,bJ⟩
 have dm:=bJ.r0
 have hr141s:_*120≤_:=dm.2
 have dp:=di _ _ bJ
 obtain⟨G144,dq,hB147,dr,ds⟩:=(dp.mv3).lend
 have aO:=RowE.rd dq
 have hrd150s:_*120≤_:=aO.small
 obtain⟨G152,dt,du,dv,dw⟩:=(dr.mv1).lend
 have aP:=RowE.rd dt
 have hrd158s:_*120≤_:=aP.small
 refine sty rfl rfl (cL Tryz.call18 (VT (a:=(zq d g)) (va:=fR) (b:=(zq d g)) (vb:=fS) (zk aO du) aP dv) ?_)
 rintro _ w159 ⟨rfl,dx⟩
 have dy:=dw _ _ dx
 have dz:=ds _ _ dy
 have cN:(decide ((zq d g)=(zq d g)))=true:=(decide_eq_true rfl)
 rw[cN]
 refine st (yc (v:=.bool true) rfl rfl (st (mV (.bool true) (sty rfl rfl (cL nY (xf hKN dz) ?_)))))
 rintro _ fT ⟨rfl,dB⟩
 refine st (yc (v:=.bool true) rfl rfl (st (aS (.bool true) (zb (zo (zN oY (show _=(.bool true:Value)from rfl) ?_))))))
 have dC:Sep G W Rs fT:=dB.sel 10 [] (yL _ _) rfl rfl
 refine⟨rfl,dC⟩
 have bG:=am
 try simp only[zh]at am
 have hk9:k<cm.length:=by have h9:=bG;simp only[Bool.and_eq_true,decide_eq_true_eq]at h9;omega
 refine zg rfl (zp (za (zu (za ?_))))
 refine WD6 ((fun TT R aQ aR aT aU=>WF [fun vals Q=>Sep G W (R::aQ::aR::aT::aU::TT) Q,fun vals Q=> ∃(p:Value),(vals 9=(.tuple #[.agg ((zW d j g m start (cm.gd k)).1.cells p).toArray,.bool ((zW d j g m start (cm.gd k)).2.1),Iv ((zW d j g m start (cm.gd k)).2.2)]:Value))∧Sep G W (aT::aU::(DepO p ((zW d j g m start (cm.gd k)).1.deps))::R::aQ::aR::TT) Q,fun vals Q=> ∃(u:Nat),(vals 14=(Ix u 0:Value))∧Sep G W ((Blk u #[Iv 0,Iv 0,Iv 0,(Iz),Iv 0,Iv 0,Iv 0,Iv 0,Iv 0,Iv 0] 44)::R::aQ::aR::aT::aU::TT) Q,fun vals Q=> ∃(p:Value) (u:Nat),(vals 9=(.tuple #[.agg ((zW d j g m start (cm.gd k)).1.cells p).toArray,.bool ((zW d j g m start (cm.gd k)).2.1),Iv ((zW d j g m start (cm.gd k)).2.2)]:Value))∧(vals 14=(Ix u 0:Value))∧Sep G W ((Blk u #[Iv 0,Iv 0,Iv 0,(Iz),Iv 0,Iv 0,Iv 0,Iv 0,Iv 0,Iv 0] 44)::aT::aU::(DepO p ((zW d j g m start (cm.gd k)).1.deps))::R::aQ::aR::TT) Q,fun _ _=>True,fun _ _=>True,fun _ _=>True,fun vals Q=> ∃(p:Value) (u:Nat),(vals 9=(.tuple #[.agg ((zW d j g m start (cm.gd k)).1.cells p).toArray,.bool ((zW d j g m start (cm.gd k)).2.1),Iv ((zW d j g m start (cm.gd k)).2.2)]:Value))∧(vals 14=(Ix u 0:Value))∧Sep G W ((Blk u ((zW d j g m start (cm.gd k)).1.cells p).toArray 44)::aT::aU::(DepO p ((zW d j g m start (cm.gd k)).1.deps))::R::aQ::aR::TT) Q]) (hh::Rs) (RowE (α:=Ev) (shr G W) 44 T S) (RefS M (1+j) g) (RefV N d (zq d g)) (SetO H (1+j) g) hi) (AF [Vl 0 (.agg (d.cells dd0 dd1).toArray),Vl 1 (Ix H 0),Vl 2 (Ix I 0),Vl 3 (Iw m),Vl 4 (Iv start),Vl 5 vcm,Vl 6 (Iw k),Vl 7 (Ix (sb vcm) (so vcm+k*7)),Vl 8 (.agg ((cm.gd k).cells).toArray),fun _=>True,fun vals=> ∀(p:Value),vals 9=(.tuple #[.agg ((zW d j g m start (cm.gd k)).1.cells p).toArray,.bool ((zW d j g m start (cm.gd k)).2.1),Iv ((zW d j g m start (cm.gd k)).2.2)]:Value)→vals 10=(.tuple #[.agg ((zW d j g m start (cm.gd k)).1.cells p).toArray,.bool ((zW d j g m start (cm.gd k)).2.1),Iv ((zW d j g m start (cm.gd k)).2.2)]:Value),fun vals=> ∀(p:Value),vals 9=(.tuple #[.agg ((zW d j g m start (cm.gd k)).1.cells p).toArray,.bool ((zW d j g m start (cm.gd k)).2.1),Iv ((zW d j g m start (cm.gd k)).2.2)]:Value)→vals 11=(.agg ((zW d j g m start (cm.gd k)).1.cells p).toArray:Value),Vl 12 (.bool ((zW d j g m start (cm.gd k)).2.1)),Vl 13 (Iv ((zW d j g m start (cm.gd k)).2.2)),fun _=>True,fun _=>True,Vl 16 (.bool ((zW d j g m start (cm.gd k)).2.1)),Vl 17 (Iv ((zW d j g m start (cm.gd k)).2.2))]) [[],[],[],[],[],[],[],[5,6],[5,6,7],(rg 9),(rg 10),(rg 11),(rg 11),(rg 11),[],[0,1,2,3,4,5,6,7,8,9,10,11,14],[0,1,2,3,4,5,6,7,8,9,10,11,12,14,15],(rg 17)] [9,14,15] [[0,2],[0,2],[0,2],[0,2],[0,2],[0,2],[0,2],[0,2],[0,2],[0,2],[1,3],[1,3],[1,3,7],[1,3,7],[0,1],[3],[7],[7]] cF ⟨?_,fun _ _ _ _ _ _=>obl rfl (mV (Ix H 0) dR),fun _ _ _ _ _ _=>obl rfl (mV (Ix I 0) dR),fun _ _ _ _ _ _=>obl rfl (mV (Iw m) dR),fun _ _ _ _ _ _=>obl rfl (mV (Iv start) dR),fun _ _ _ _ _ _=>obl rfl (mV vcm dR),fun _ _ _ _ _ _=>obl rfl (mV (Iw k) dR),?_,?_,?_,?_,?_,?_,?_,?_,?_,fun _ _ _ _ _ dD=>obl rfl (ya (v:=.bool ((zW d j g m start (cm.gd k)).2.1)) (dD 12 dc) dR),fun _ _ _ _ _ dE=>obl rfl (ya (v:=Iv ((zW d j g m start (cm.gd k)).2.2)) (dE 13 dc) dR),zj⟩ ?_ (hlocA:=xd ⟨dA,dA,dA,dA,dA,dA,dA,dA,dA,dT,fun vals A E h=>fun p C=>(E 10 (.inl rfl)).trans (h p ((E 9 (.inr dc)).symm.trans C)),fun vals A E h=>fun p C=>(E 11 (.inl rfl)).trans (h p ((E 9 (.inr dc)).symm.trans C)),dA,dA,dT,dT,dA,dA,zj⟩)
 intro fU vals w323 dG bK hA324
 have aV:fU∈[0,2]:=dG
 simp only[yF]at aV
 rcases aV with rfl|rfl
 have dH:Sep _ _ _ _:=bK
 exact obl rfl (ze (k:=2) qT rT rfl rfl (zi (dH.b5)) dR)
 obtain⟨u,J,dI⟩:=bK
 exact obl rfl (ze (k:=2) qT rT rfl rfl (zi (dI.b6)) dR)
 intro fV vals w360 dJ bL ab
 have aW:fV∈[0,2]:=dJ
 simp only[yF]at aW
 rcases aW with rfl|rfl
 have hS364:Sep _ _ _ _:=bL
 refine obl rfl ?_
 have dK:k<cm.length:=bo
 exact zn wT pT (ab 5 dc) hcm.sl (ab 6 dc) dK dR
 obtain⟨u,J,hS368⟩:=bL
 refine obl rfl ?_
 have dL:k<cm.length:=bo
 exact zn wT pT (ab 5 dc) hcm.sl (ab 6 dc) dL dR
 intro fW vals w373 dM bM bN
 have aX:fW∈[0,2]:=dM
 simp only[yF]at aX
 rcases aX with rfl|rfl
 have dN:Sep _ _ _ _:=bM
 refine obl rfl ?_
 have an:k<cm.length:=bo
 obtain⟨aY,cs⟩:=hcm.cmd an
 rw[←zK default an]at aY cs
 have cO:=dN.cells aY (hcm.foot (ne_of_lt an))
 exact ze (k:=7) sT pT rfl (bN 7 dc) cO dR
 obtain⟨u,J,dO⟩:=bM
 refine obl rfl ?_
 have ao:k<cm.length:=bo
 obtain⟨aZ,ct⟩:=hcm.cmd ao
 rw[←zK default ao]at aZ ct
 have cP:=dO.cells aZ (hcm.foot (ne_of_lt ao))
 exact ze (k:=7) sT pT rfl (bN 7 dc) cP dR
 intro fX vals w388 dP bO O
 have ba:fX∈[0,2]:=dP
 simp only[yF]at ba
 rcases ba with rfl|rfl
 have dQ:Sep _ _ _ _:=bO
 refine obl rfl ?_
 obtain⟨G400,bP,X,bQ,dS⟩:=(dQ.mv3).lend
 obtain⟨vv406,m407,R408,hb409,dU,hr411⟩:=SetO.sh bP
 have hsm412:(zw (1+j) g).length*8≤140737488355328:=dU.small
 have ap:k<cm.length:=bo
 obtain⟨bb,ah⟩:=(zk hcm X).cmd ap
 rw[←zK default ap]at bb ah
 have hcw415:=bQ.cells bb ((zk hcm X).foot (ne_of_lt ap))
 refine(zO (f:=11) (vals:=[.agg (d.cells dd0 dd1).toArray,Ix H 0,Ix I 0,Iw m,Iv start,.agg ((cm.gd k).cells).toArray]) (cap:=[]) rfl (yK ⟨(O 0 dc),(O 1 dc),(O 2 dc),(O 3 dc),(O 4 dc),(O 8 dc),zj⟩) pY (xU (d:=d) (o:=((m:Nat):Int)) (start:=start) (c:=(cm.gd k)) (zk hdd0 X) (zk hdd1 X) od bP om om ah (zk hKN X) (bQ.mv3) (aa.1) ((Inv.run aa.1 _)) om (U.ids) (U.srt) om om) ?_)
 rintro _ w418 ⟨p,rfl,dV⟩
 have dW:=dS _ _ dV
 exact fun A E B=>⟨(exiA p (zG E dW)),zj⟩
 obtain⟨u,J,dX⟩:=bO
 refine obl rfl ?_
 obtain⟨G429,bR,Y,bS,dY⟩:=(dX.mv4).lend
 obtain⟨vv435,m436,R437,hb438,dZ,hr440⟩:=SetO.sh bR
 have hsm441:(zw (1+j) g).length*8≤140737488355328:=dZ.small
 have aq:k<cm.length:=bo
 obtain⟨bc,ai⟩:=(zk hcm Y).cmd aq
 rw[←zK default aq]at bc ai
 have hcw444:=bS.cells bc ((zk hcm Y).foot (ne_of_lt aq))
 refine(zO (f:=11) (vals:=[.agg (d.cells dd0 dd1).toArray,Ix H 0,Ix I 0,Iw m,Iv start,.agg ((cm.gd k).cells).toArray]) (cap:=[]) rfl (yK ⟨(O 0 dc),(O 1 dc),(O 2 dc),(O 3 dc),(O 4 dc),(O 8 dc),zj⟩) pY (xU (d:=d) (o:=((m:Nat):Int)) (start:=start) (c:=(cm.gd k)) (zk hdd0 Y) (zk hdd1 Y) od bR om om ai (zk hKN Y) (bS.mv4) (aa.1) ((Inv.run aa.1 _)) om (U.ids) (U.srt) om om) ?_)
 rintro _ w447 ⟨p,rfl,ea⟩
 have eb:=dY _ _ ea
 exact fun A E B=>⟨(exiA p (exiA u (zG E (zG ((B 14 dc).trans J) (eb.mv3))))),zj⟩
 intro fY vals w452 ec bT hA453
 have bd:fY∈[1,3]:=ec
 simp only[yF]at bd
 rcases bd with rfl|rfl
 obtain⟨p,s,hS456⟩:=bT
 refine obl rfl (yg (v:=.tuple #[.agg ((zW d j g m start (cm.gd k)).1.cells p).toArray,.bool ((zW d j g m start (cm.gd k)).2.1),Iv ((zW d j g m start (cm.gd k)).2.2)]) s (fun A E B=>⟨rfl,?_⟩))
 intro ad C
 rw[B 9 (by decide)]at C;cases s.symm.trans C
 exact E
 obtain⟨p,u,s,J,hS457⟩:=bT
 refine obl rfl (yg (v:=.tuple #[.agg ((zW d j g m start (cm.gd k)).1.cells p).toArray,.bool ((zW d j g m start (cm.gd k)).2.1),Iv ((zW d j g m start (cm.gd k)).2.2)]) s (fun A E B=>⟨rfl,?_⟩))
 intro ad C
 rw[B 9 (by decide)]at C;cases s.symm.trans C
 exact E
 intro fZ vals w459 ed bU bV
 have be:fZ∈[1,3]:=ed
 simp only[yF]at be
 rcases be with rfl|rfl
 obtain⟨p,s,hS463⟩:=bU
 let fD:=((zW d j g m start (cm.gd k)).1.cells p)
 have ga:vals 10=(.tuple #[.agg fD.toArray,.bool ((zW d j g m start (cm.gd k)).2.1),Iv ((zW d j g m start (cm.gd k)).2.2)]:Value):=bV 10 dc p s
 refine obl rfl (zl (vs:=[.agg fD.toArray,.bool ((zW d j g m start (cm.gd k)).2.1),Iv ((zW d j g m start (cm.gd k)).2.2)]) (i:=0) (v:=.agg fD.toArray) ga rfl (fun A E B=>⟨rfl,?_⟩))
 intro ad C
 rw[B 9 (by decide)]at C;cases s.symm.trans C
 exact E
 obtain⟨p,u,s,J,hS465⟩:=bU
 let gM:=((zW d j g m start (cm.gd k)).1.cells p)
 have gc:vals 10=(.tuple #[.agg gM.toArray,.bool ((zW d j g m start (cm.gd k)).2.1),Iv ((zW d j g m start (cm.gd k)).2.2)]:Value):=bV 10 dc p s
 refine obl rfl (zl (vs:=[.agg gM.toArray,.bool ((zW d j g m start (cm.gd k)).2.1),Iv ((zW d j g m start (cm.gd k)).2.2)]) (i:=0) (v:=.agg gM.toArray) gc rfl (fun A E B=>⟨rfl,?_⟩))
 intro ad C
 rw[B 9 (by decide)]at C;cases s.symm.trans C
 exact E
 intro gd vals w468 ee ar au
 have bf:gd∈[1,3,7]:=ee
 simp only[yF]at bf
 rcases bf with rfl|rfl|rfl
 obtain⟨p,s,hS472⟩:=ar
 let gV:=((zW d j g m start (cm.gd k)).1.cells p)
 have ge:vals 10=(.tuple #[.agg gV.toArray,.bool ((zW d j g m start (cm.gd k)).2.1),Iv ((zW d j g m start (cm.gd k)).2.2)]:Value):=au 10 dc p s
 exact obl rfl (zl (vs:=[.agg gV.toArray,.bool ((zW d j g m start (cm.gd k)).2.1),Iv ((zW d j g m start (cm.gd k)).2.2)]) (i:=1) (v:=.bool ((zW d j g m start (cm.gd k)).2.1)) ge rfl dR)
 obtain⟨p,u,s,J,hS474⟩:=ar
 let gW:=((zW d j g m start (cm.gd k)).1.cells p)
 have gf:vals 10=(.tuple #[.agg gW.toArray,.bool ((zW d j g m start (cm.gd k)).2.1),Iv ((zW d j g m start (cm.gd k)).2.2)]:Value):=au 10 dc p s
 exact obl rfl (zl (vs:=[.agg gW.toArray,.bool ((zW d j g m start (cm.gd k)).2.1),Iv ((zW d j g m start (cm.gd k)).2.2)]) (i:=1) (v:=.bool ((zW d j g m start (cm.gd k)).2.1)) gf rfl dR)
 obtain⟨p,u,s,J,hS476⟩:=ar
 let gX:=((zW d j g m start (cm.gd k)).1.cells p)
 have gg:vals 10=(.tuple #[.agg gX.toArray,.bool ((zW d j g m start (cm.gd k)).2.1),Iv ((zW d j g m start (cm.gd k)).2.2)]:Value):=au 10 dc p s
 exact obl rfl (zl (vs:=[.agg gX.toArray,.bool ((zW d j g m start (cm.gd k)).2.1),Iv ((zW d j g m start (cm.gd k)).2.2)]) (i:=1) (v:=.bool ((zW d j g m start (cm.gd k)).2.1)) gg rfl dR)
 intro gh vals w479 ef av aw
 have bg:gh∈[1,3,7]:=ef
 simp only[yF]at bg
 rcases bg with rfl|rfl|rfl
 obtain⟨p,s,hS483⟩:=av
 let gY:=((zW d j g m start (cm.gd k)).1.cells p)
 have gi:vals 10=(.tuple #[.agg gY.toArray,.bool ((zW d j g m start (cm.gd k)).2.1),Iv ((zW d j g m start (cm.gd k)).2.2)]:Value):=aw 10 dc p s
 exact obl rfl (zl (vs:=[.agg gY.toArray,.bool ((zW d j g m start (cm.gd k)).2.1),Iv ((zW d j g m start (cm.gd k)).2.2)]) (i:=2) (v:=Iv ((zW d j g m start (cm.gd k)).2.2)) gi rfl dR)
 obtain⟨p,u,s,J,hS485⟩:=av
 let gZ:=((zW d j g m start (cm.gd k)).1.cells p)
 have gj:vals 10=(.tuple #[.agg gZ.toArray,.bool ((zW d j g m start (cm.gd k)).2.1),Iv ((zW d j g m start (cm.gd k)).2.2)]:Value):=aw 10 dc p s
 exact obl rfl (zl (vs:=[.agg gZ.toArray,.bool ((zW d j g m start (cm.gd k)).2.1),Iv ((zW d j g m start (cm.gd k)).2.2)]) (i:=2) (v:=Iv ((zW d j g m start (cm.gd k)).2.2)) gj rfl dR)
 obtain⟨p,u,s,J,hS487⟩:=av
 let ha:=((zW d j g m start (cm.gd k)).1.cells p)
 have gk:vals 10=(.tuple #[.agg ha.toArray,.bool ((zW d j g m start (cm.gd k)).2.1),Iv ((zW d j g m start (cm.gd k)).2.2)]:Value):=aw 10 dc p s
 exact obl rfl (zl (vs:=[.agg ha.toArray,.bool ((zW d j g m start (cm.gd k)).2.1),Iv ((zW d j g m start (cm.gd k)).2.2)]) (i:=2) (v:=Iv ((zW d j g m start (cm.gd k)).2.2)) gk rfl dR)
 intro gl vals w490 eg bW hA491
 have bh:gl∈[0,1]:=eg
 simp only[yF]at bh
 rcases bh with rfl|rfl
 have eh:Sep _ _ _ _:=bW
 refine obl rfl ((zv oT ?_))
 intro w497 u ei
 exact fun A E B=>⟨(exiA u (zG E (eh.new ei))),zj⟩
 obtain⟨p,s,ej⟩:=bW
 refine obl rfl ((zv oT ?_))
 intro w502 u ek
 exact fun A E B=>⟨(exiA p (exiA u (zG ((B 9 dc).trans s) (zG E (ej.new ek))))),zj⟩
 intro gm vals w505 el em en
 have bi:gm∈[3]:=el
 simp only[yF]at bi
 subst bi
 obtain⟨p,u,s,J,ax⟩:=em
 let gR:=((zW d j g m start (cm.gd k)).1.cells p)
 refine obl rfl ?_
 have gn:vals 11=(.agg gR.toArray:Value):=en 11 dc p s
 refine(zr (v:=.agg gR.toArray) (c':=gR.toArray) kT J gn (ax.b0) (zZ ⟨rfl,rfl,rfl,(ax.depSl (i:=3) rfl).one,rfl,rfl,rfl,rfl,rfl,rfl,zj⟩) yqc rfl ?_)
 intro w511 eo
 exact fun A E B=>⟨(exiA p (exiA u (zG ((B 9 dc).trans s) (zG ((B 14 dc).trans J) (ax.pt0 eo))))),zj⟩
 intro vals ae er bX
 obtain⟨p,u,s,J,es⟩:=er
 have go:=bX 16 dc
 have gp:=bX 17 dc
 refine yd (kv:=[(3,Iw m),(4,Iv start),(5,vcm),(6,Ix b2 0),(13,Ix H 0),(14,Ix I 0),(15,Ix M 0),(16,Ix N 0),(17,Iw k),(57,Iw k),(58,vcm),(59,Iw cm.length),(60,.bool (decide (((k:Nat):Int)<((cm.length:Nat):Int)))),(61,.bool (decide (((k:Nat):Int)<((cm.length:Nat):Int)))),(64,.bool true),(18,Ix u 0),(19,.bool ((zW d j g m start (cm.gd k)).2.1)),(20,Iv ((zW d j g m start (cm.gd k)).2.2))]) ⟨rfl,rfl,rfl,rfl,rfl,rfl,rfl,rfl,rfl,rfl,rfl,rfl,rfl,rfl,rfl,(by exact J),(by exact go),(by exact gp),zj⟩ (fun ρw526=>(zb (za ?_)))
 obtain⟨G533,ay,F,et,eu⟩:=(es.mv5).lend
 obtain⟨vl539,hb540,ew⟩:=RefS.sh ay
 have hsm542:g.length*96≤140737488355328:=ew.small
 obtain⟨af,az,D,ex,ey⟩:=(et.mv5).lend
 obtain⟨vt550,vp551,ve552,hb553,ez,eA,eB⟩:=RefV.sh az
 have hsm557:d.types.length*24≤140737488355328:=ez.small
 have hsm558:d.projs.length*40≤140737488355328:=eA.small
 have hsm559:(zq d g).length*120≤140737488355328:=eB.small
 refine WD6 ((fun TT R=>WF [fun vals Q=>Sep af ae (R::TT) Q,fun vals Q=> ∃(q:Value),(vals 9=(.tuple #[.agg ((zW d j g m start (cm.gd k)).1.cells q).toArray,.bool ((zW d j g m start (cm.gd k)).2.1),Iv ((zW d j g m start (cm.gd k)).2.2)]:Value))∧Sep af ae ((RowE (α:=Int) own 3 q ((zW d j g m start (cm.gd k)).1.deps))::R::TT) Q,fun vals Q=> ∃(y:Nat),(vals 14=(Ix y 0:Value))∧Sep af ae ((Blk y #[Iv 0,Iv 0,Iv 0,(Iz),Iv 0,Iv 0,Iv 0,Iv 0,Iv 0,Iv 0] 44)::R::TT) Q,fun vals Q=> ∃(q:Value) (y:Nat),(vals 9=(.tuple #[.agg ((zW d j g m start (cm.gd k)).1.cells q).toArray,.bool ((zW d j g m start (cm.gd k)).2.1),Iv ((zW d j g m start (cm.gd k)).2.2)]:Value))∧(vals 14=(Ix y 0:Value))∧Sep af ae ((Blk y #[Iv 0,Iv 0,Iv 0,(Iz),Iv 0,Iv 0,Iv 0,Iv 0,Iv 0,Iv 0] 44)::(RowE (α:=Int) own 3 q ((zW d j g m start (cm.gd k)).1.deps))::R::TT) Q,fun _ _=>True,fun _ _=>True,fun _ _=>True,fun vals Q=> ∃(q:Value) (y:Nat),(vals 9=(.tuple #[.agg ((zW d j g m start (cm.gd k)).1.cells q).toArray,.bool ((zW d j g m start (cm.gd k)).2.1),Iv ((zW d j g m start (cm.gd k)).2.2)]:Value))∧(vals 14=(Ix y 0:Value))∧Sep af ae ((Blk y ((zW d j g m start (cm.gd k)).1.cells q).toArray 44)::(RowE (α:=Int) own 3 q ((zW d j g m start (cm.gd k)).1.deps))::R::TT) Q]) ((SetO H (1+j) g)::hi::(DepO p ((zW d j g m start (cm.gd k)).1.deps))::(RowE (α:=Ev) (shr G W) 44 T S)::hh::Rs) (Blk u ((zW d j g m start (cm.gd k)).1.cells p).toArray 44)) (AF [Vl 0 (.agg (d.cells dd0 dd1).toArray),Vl 1 (Ix M 0),Vl 2 (Ix N 0),Vl 3 (Iw m),Vl 4 (Iv start),Vl 5 vcm,Vl 6 (Iw k),Vl 7 (Ix (sb vcm) (so vcm+k*7)),Vl 8 (.agg ((cm.gd k).cells).toArray),fun _=>True,fun vals=> ∀(q:Value),vals 9=(.tuple #[.agg ((zW d j g m start (cm.gd k)).1.cells q).toArray,.bool ((zW d j g m start (cm.gd k)).2.1),Iv ((zW d j g m start (cm.gd k)).2.2)]:Value)→vals 10=(.tuple #[.agg ((zW d j g m start (cm.gd k)).1.cells q).toArray,.bool ((zW d j g m start (cm.gd k)).2.1),Iv ((zW d j g m start (cm.gd k)).2.2)]:Value),fun vals=> ∀(q:Value),vals 9=(.tuple #[.agg ((zW d j g m start (cm.gd k)).1.cells q).toArray,.bool ((zW d j g m start (cm.gd k)).2.1),Iv ((zW d j g m start (cm.gd k)).2.2)]:Value)→vals 11=(.agg ((zW d j g m start (cm.gd k)).1.cells q).toArray:Value),Vl 12 (.bool ((zW d j g m start (cm.gd k)).2.1)),Vl 13 (Iv ((zW d j g m start (cm.gd k)).2.2)),fun _=>True,fun _=>True,Vl 16 (.bool ((zW d j g m start (cm.gd k)).2.1)),Vl 17 (Iv ((zW d j g m start (cm.gd k)).2.2))]) [[],[],[],[],[],[],[],[5,6],[5,6,7],(rg 9),(rg 10),(rg 11),(rg 11),(rg 11),[],[0,1,2,3,4,5,6,7,8,9,10,11,14],[0,1,2,3,4,5,6,7,8,9,10,11,12,14,15],(rg 17)] [9,14,15] [[0,2],[0,2],[0,2],[0,2],[0,2],[0,2],[0,2],[0,2],[0,2],[0,2],[1,3],[1,3],[1,3,7],[1,3,7],[0,1],[3],[7],[7]] ex ⟨?_,fun _ _ _ _ _ _=>obl rfl (mV (Ix M 0) dR),fun _ _ _ _ _ _=>obl rfl (mV (Ix N 0) dR),fun _ _ _ _ _ _=>obl rfl (mV (Iw m) dR),fun _ _ _ _ _ _=>obl rfl (mV (Iv start) dR),fun _ _ _ _ _ _=>obl rfl (mV vcm dR),fun _ _ _ _ _ _=>obl rfl (mV (Iw k) dR),?_,?_,?_,?_,?_,?_,?_,?_,?_,fun _ _ _ _ _ eC=>obl rfl (ya (v:=.bool ((zW d j g m start (cm.gd k)).2.1)) (eC 12 dc) dR),fun _ _ _ _ _ eD=>obl rfl (ya (v:=Iv ((zW d j g m start (cm.gd k)).2.2)) (eD 13 dc) dR),zj⟩ ?_ (hlocA:=xd ⟨dA,dA,dA,dA,dA,dA,dA,dA,dA,dT,fun vals A E h=>fun q C=>(E 10 (.inl rfl)).trans (h q ((E 9 (.inr dc)).symm.trans C)),fun vals A E h=>fun q C=>(E 11 (.inl rfl)).trans (h q ((E 9 (.inr dc)).symm.trans C)),dA,dA,dT,dT,dA,dA,zj⟩)
 intro gq vals w702 eE bY hA703
 have bj:gq∈[0,2]:=eE
 simp only[yF]at bj
 rcases bj with rfl|rfl
 have eF:Sep _ _ _ _:=bY
 exact obl rfl (ze (k:=2) qT rT rfl rfl (zi (eF.b5)) dR)
 obtain⟨y,K,eG⟩:=bY
 exact obl rfl (ze (k:=2) qT rT rfl rfl (zi (eG.b6)) dR)
 intro gr vals w739 eH bZ ac
 have bk:gr∈[0,2]:=eH
 simp only[yF]at bk
 rcases bk with rfl|rfl
 have hS743:Sep _ _ _ _:=bZ
 refine obl rfl ?_
 have eI:k<cm.length:=bo
 exact zn wT pT (ac 5 dc) (zk (zk hcm F) D).sl (ac 6 dc) eI dR
 obtain⟨y,K,hS747⟩:=bZ
 refine obl rfl ?_
 have eJ:k<cm.length:=bo
 exact zn wT pT (ac 5 dc) (zk (zk hcm F) D).sl (ac 6 dc) eJ dR
 intro gs vals w752 eK ca cb
 have bl:gs∈[0,2]:=eK
 simp only[yF]at bl
 rcases bl with rfl|rfl
 have eL:Sep _ _ _ _:=ca
 refine obl rfl ?_
 have aA:k<cm.length:=bo
 obtain⟨bm,cu⟩:=(zk (zk hcm F) D).cmd aA
 rw[←zK default aA]at bm cu
 have cQ:=eL.cells bm ((zk (zk hcm F) D).foot (ne_of_lt aA))
 exact ze (k:=7) sT pT rfl (cb 7 dc) cQ dR
 obtain⟨y,K,eM⟩:=ca
 refine obl rfl ?_
 have aB:k<cm.length:=bo
 obtain⟨bn,cv⟩:=(zk (zk hcm F) D).cmd aB
 rw[←zK default aB]at bn cv
 have cR:=eM.cells bn ((zk (zk hcm F) D).foot (ne_of_lt aB))
 exact ze (k:=7) sT pT rfl (cb 7 dc) cR dR
 intro gt vals w767 eN cc P
 have bp:gt∈[0,2]:=eN
 simp only[yF]at bp
 rcases bp with rfl|rfl
 have cd:Sep _ _ _ _:=cc
 refine obl rfl ?_
 have aC:k<cm.length:=bo
 obtain⟨bq,aj⟩:=(zk (zk hcm F) D).cmd aC
 rw[←zK default aC]at bq aj
 have hcw780:=cd.cells bq ((zk (zk hcm F) D).foot (ne_of_lt aC))
 refine(zO (f:=12) (vals:=[.agg (d.cells dd0 dd1).toArray,Ix M 0,Ix N 0,Iw m,Iv start,.agg ((cm.gd k).cells).toArray]) (cap:=[]) rfl (yK ⟨(P 0 dc),(P 1 dc),(P 2 dc),(P 3 dc),(P 4 dc),(P 8 dc),zj⟩) qY (JH (d:=d) (sq:=M) (n:=(1+j)) (L:=g) (vb:=N) (V:=(zq d g)) (o:=((m:Nat):Int)) (start:=start) (c:=(cm.gd k)) (zk (zk hdd0 F) D) (zk (zk hdd1 F) D) od (HP.base ay D) az om om aj cd (aa.1) (⟨_,rfl⟩) om U om om) ?_)
 rintro _ w782 ⟨q,rfl,ce⟩
 have eO:=ce.r0
 have hr784s:_*8≤_:=eO.2
 exact fun A E B=>⟨(exiA q (zG E ce)),zj⟩
 obtain⟨y,K,cf⟩:=cc
 refine obl rfl ?_
 have aD:k<cm.length:=bo
 obtain⟨br,ak⟩:=(zk (zk hcm F) D).cmd aD
 rw[←zK default aD]at br ak
 have hcw794:=cf.cells br ((zk (zk hcm F) D).foot (ne_of_lt aD))
 refine(zO (f:=12) (vals:=[.agg (d.cells dd0 dd1).toArray,Ix M 0,Ix N 0,Iw m,Iv start,.agg ((cm.gd k).cells).toArray]) (cap:=[]) rfl (yK ⟨(P 0 dc),(P 1 dc),(P 2 dc),(P 3 dc),(P 4 dc),(P 8 dc),zj⟩) qY (JH (d:=d) (sq:=M) (n:=(1+j)) (L:=g) (vb:=N) (V:=(zq d g)) (o:=((m:Nat):Int)) (start:=start) (c:=(cm.gd k)) (zk (zk hdd0 F) D) (zk (zk hdd1 F) D) od (HP.base ay D) az om om ak cf (aa.1) (⟨_,rfl⟩) om U om om) ?_)
 rintro _ w796 ⟨q,rfl,cg⟩
 have eP:=cg.r0
 have hr798s:_*8≤_:=eP.2
 exact fun A E B=>⟨(exiA q (exiA y (zG E (zG ((B 14 dc).trans K) (cg.mv1))))),zj⟩
 intro gu vals w801 eQ ch hA802
 have bs:gu∈[1,3]:=eQ
 simp only[yF]at bs
 rcases bs with rfl|rfl
 obtain⟨q,t,hS805⟩:=ch
 refine obl rfl (yg (v:=.tuple #[.agg ((zW d j g m start (cm.gd k)).1.cells q).toArray,.bool ((zW d j g m start (cm.gd k)).2.1),Iv ((zW d j g m start (cm.gd k)).2.2)]) t (fun A E B=>⟨rfl,?_⟩))
 intro ag C
 rw[B 9 (by decide)]at C;cases t.symm.trans C
 exact E
 obtain⟨q,y,t,K,hS806⟩:=ch
 refine obl rfl (yg (v:=.tuple #[.agg ((zW d j g m start (cm.gd k)).1.cells q).toArray,.bool ((zW d j g m start (cm.gd k)).2.1),Iv ((zW d j g m start (cm.gd k)).2.2)]) t (fun A E B=>⟨rfl,?_⟩))
 intro ag C
 rw[B 9 (by decide)]at C;cases t.symm.trans C
 exact E
 intro gv vals w808 eR ci cj
 have bt:gv∈[1,3]:=eR
 simp only[yF]at bt
 rcases bt with rfl|rfl
 obtain⟨q,t,hS812⟩:=ci
 let gS:=((zW d j g m start (cm.gd k)).1.cells q)
 have gw:vals 10=(.tuple #[.agg gS.toArray,.bool ((zW d j g m start (cm.gd k)).2.1),Iv ((zW d j g m start (cm.gd k)).2.2)]:Value):=cj 10 dc q t
 refine obl rfl (zl (vs:=[.agg gS.toArray,.bool ((zW d j g m start (cm.gd k)).2.1),Iv ((zW d j g m start (cm.gd k)).2.2)]) (i:=0) (v:=.agg gS.toArray) gw rfl (fun A E B=>⟨rfl,?_⟩))
 intro ag C
 rw[B 9 (by decide)]at C;cases t.symm.trans C
 exact E
 obtain⟨q,y,t,K,hS814⟩:=ci
 let gT:=((zW d j g m start (cm.gd k)).1.cells q)
 have gx:vals 10=(.tuple #[.agg gT.toArray,.bool ((zW d j g m start (cm.gd k)).2.1),Iv ((zW d j g m start (cm.gd k)).2.2)]:Value):=cj 10 dc q t
 refine obl rfl (zl (vs:=[.agg gT.toArray,.bool ((zW d j g m start (cm.gd k)).2.1),Iv ((zW d j g m start (cm.gd k)).2.2)]) (i:=0) (v:=.agg gT.toArray) gx rfl (fun A E B=>⟨rfl,?_⟩))
 intro ag C
 rw[B 9 (by decide)]at C;cases t.symm.trans C
 exact E
 intro gy vals w817 eS aE aF
 have bu:gy∈[1,3,7]:=eS
 simp only[yF]at bu
 rcases bu with rfl|rfl|rfl
 obtain⟨q,t,hS821⟩:=aE
 let hb:=((zW d j g m start (cm.gd k)).1.cells q)
 have gz:vals 10=(.tuple #[.agg hb.toArray,.bool ((zW d j g m start (cm.gd k)).2.1),Iv ((zW d j g m start (cm.gd k)).2.2)]:Value):=aF 10 dc q t
 exact obl rfl (zl (vs:=[.agg hb.toArray,.bool ((zW d j g m start (cm.gd k)).2.1),Iv ((zW d j g m start (cm.gd k)).2.2)]) (i:=1) (v:=.bool ((zW d j g m start (cm.gd k)).2.1)) gz rfl dR)
 obtain⟨q,y,t,K,hS823⟩:=aE
 let hc:=((zW d j g m start (cm.gd k)).1.cells q)
 have gA:vals 10=(.tuple #[.agg hc.toArray,.bool ((zW d j g m start (cm.gd k)).2.1),Iv ((zW d j g m start (cm.gd k)).2.2)]:Value):=aF 10 dc q t
 exact obl rfl (zl (vs:=[.agg hc.toArray,.bool ((zW d j g m start (cm.gd k)).2.1),Iv ((zW d j g m start (cm.gd k)).2.2)]) (i:=1) (v:=.bool ((zW d j g m start (cm.gd k)).2.1)) gA rfl dR)
 obtain⟨q,y,t,K,hS825⟩:=aE
 let hd:=((zW d j g m start (cm.gd k)).1.cells q)
 have gB:vals 10=(.tuple #[.agg hd.toArray,.bool ((zW d j g m start (cm.gd k)).2.1),Iv ((zW d j g m start (cm.gd k)).2.2)]:Value):=aF 10 dc q t
 exact obl rfl (zl (vs:=[.agg hd.toArray,.bool ((zW d j g m start (cm.gd k)).2.1),Iv ((zW d j g m start (cm.gd k)).2.2)]) (i:=1) (v:=.bool ((zW d j g m start (cm.gd k)).2.1)) gB rfl dR)
 intro gC vals w828 eT aG aH
 have bv:gC∈[1,3,7]:=eT
 simp only[yF]at bv
 rcases bv with rfl|rfl|rfl
 obtain⟨q,t,hS832⟩:=aG
 let he:=((zW d j g m start (cm.gd k)).1.cells q)
 have gD:vals 10=(.tuple #[.agg he.toArray,.bool ((zW d j g m start (cm.gd k)).2.1),Iv ((zW d j g m start (cm.gd k)).2.2)]:Value):=aH 10 dc q t
 exact obl rfl (zl (vs:=[.agg he.toArray,.bool ((zW d j g m start (cm.gd k)).2.1),Iv ((zW d j g m start (cm.gd k)).2.2)]) (i:=2) (v:=Iv ((zW d j g m start (cm.gd k)).2.2)) gD rfl dR)
 obtain⟨q,y,t,K,hS834⟩:=aG
 let hf:=((zW d j g m start (cm.gd k)).1.cells q)
 have gE:vals 10=(.tuple #[.agg hf.toArray,.bool ((zW d j g m start (cm.gd k)).2.1),Iv ((zW d j g m start (cm.gd k)).2.2)]:Value):=aH 10 dc q t
 exact obl rfl (zl (vs:=[.agg hf.toArray,.bool ((zW d j g m start (cm.gd k)).2.1),Iv ((zW d j g m start (cm.gd k)).2.2)]) (i:=2) (v:=Iv ((zW d j g m start (cm.gd k)).2.2)) gE rfl dR)
 obtain⟨q,y,t,K,hS836⟩:=aG
 let hg:=((zW d j g m start (cm.gd k)).1.cells q)
 have gF:vals 10=(.tuple #[.agg hg.toArray,.bool ((zW d j g m start (cm.gd k)).2.1),Iv ((zW d j g m start (cm.gd k)).2.2)]:Value):=aH 10 dc q t
 exact obl rfl (zl (vs:=[.agg hg.toArray,.bool ((zW d j g m start (cm.gd k)).2.1),Iv ((zW d j g m start (cm.gd k)).2.2)]) (i:=2) (v:=Iv ((zW d j g m start (cm.gd k)).2.2)) gF rfl dR)
 intro gG vals w839 eU ck hA840
 have bw:gG∈[0,1]:=eU
 simp only[yF]at bw
 rcases bw with rfl|rfl
 have eV:Sep _ _ _ _:=ck
 refine obl rfl ((zv oT ?_))
 intro w846 y eW
 exact fun A E B=>⟨(exiA y (zG E (eV.new eW))),zj⟩
 obtain⟨q,t,eX⟩:=ck
 refine obl rfl ((zv oT ?_))
 intro w851 y eY
 exact fun A E B=>⟨(exiA q (exiA y (zG ((B 9 dc).trans t) (zG E (eX.new eY))))),zj⟩
 intro gH vals w854 eZ fa fb
 have bx:gH∈[3]:=eZ
 simp only[yF]at bx
 subst bx
 obtain⟨q,y,t,K,aI⟩:=fa
 let gU:=((zW d j g m start (cm.gd k)).1.cells q)
 refine obl rfl ?_
 have gI:vals 11=(.agg gU.toArray:Value):=fb 11 dc q t
 have cl:=aI.r1
 have hr862s:_*8≤_:=cl.2
 refine(zr (v:=.agg gU.toArray) (c':=gU.toArray) kT K gI (aI.b0) (zZ ⟨rfl,rfl,rfl,cl.1.one,rfl,rfl,rfl,rfl,rfl,rfl,zj⟩) yqc rfl ?_)
 intro w860 fc
 exact fun A E B=>⟨(exiA q (exiA y (zG ((B 9 dc).trans t) (zG ((B 14 dc).trans K) (aI.pt0 fc))))),zj⟩
 intro vals w876 fd cn
 obtain⟨q,y,t,K,aJ⟩:=fd
 have gJ:=cn 16 dc
 have gK:=cn 17 dc
 refine yd (kv:=[(3,Iw m),(4,Iv start),(5,vcm),(6,Ix b2 0),(13,Ix H 0),(14,Ix I 0),(15,Ix M 0),(16,Ix N 0),(17,Iw k),(57,Iw k),(58,vcm),(59,Iw cm.length),(60,.bool (decide (((k:Nat):Int)<((cm.length:Nat):Int)))),(61,.bool (decide (((k:Nat):Int)<((cm.length:Nat):Int)))),(64,.bool true),(18,Ix u 0),(19,.bool ((zW d j g m start (cm.gd k)).2.1)),(20,Iv ((zW d j g m start (cm.gd k)).2.2)),(21,Ix y 0),(22,.bool ((zW d j g m start (cm.gd k)).2.1)),(23,Iv ((zW d j g m start (cm.gd k)).2.2))]) ⟨rfl,rfl,rfl,rfl,rfl,rfl,rfl,rfl,rfl,rfl,rfl,rfl,rfl,rfl,rfl,rfl,rfl,rfl,(by exact K),(by exact gJ),(by exact gK),zj⟩ (fun ρw876=>?_)
 refine zb (za (za (zy kr (st (mV (.bool ((zW d j g m start (cm.gd k)).2.1)) (st (mV (.bool ((zW d j g m start (cm.gd k)).2.1)) (st (UV (a:=(zW d j g m start (cm.gd k)).2.1) (b:=(zW d j g m start (cm.gd k)).2.1) Tryz.underlying4 rfl rfl ?_)))))))))
 have cS:(!(((zW d j g m start (cm.getD k default)).2.1)== ((zW d j g m start (cm.getD k default)).2.1)))=false:=(by simp)
 rw[cS]
 refine st (mV (.bool false) (sty rfl rfl (mV (Iv ((zW d j g m start (cm.gd k)).2.2)) (sty rfl rfl (mV (Iv ((zW d j g m start (cm.gd k)).2.2)) (sty rfl rfl (yj (k:=.i64) (a:=(zW d j g m start (cm.gd k)).2.2) (b:=(zW d j g m start (cm.gd k)).2.2) rfl rfl ?_)))))))
 have cT:(!decide (((zW d j g m start (cm.getD k default)).2.2)=((zW d j g m start (cm.getD k default)).2.2)))=false:=(by simp)
 rw[cT]
 refine st (yb (v:=.bool false) rfl rfl (st (mV (.bool false) (sty rfl rfl (ze (k:=10) lT kT rfl rfl (zi (aJ.b2)) (sty rfl rfl (ze (k:=10) lT kT rfl rfl (zi (aJ.b0)) ?_)))))))
 obtain⟨G885,fe,co,ff,fg⟩:=(aJ.mv5).lend
 have cp:=DepO.rd fe
 have hsm892:((zW d j g m start (cm.gd k)).1.deps).length*8≤140737488355328:=cp.small
 obtain⟨G894,fh,aK,cq,fi⟩:=(ff.mv1).lend
 have bz:=RowE.rd fh
 have hrd900s:_*8≤_:=bz.small
 have aL:k<cm.length:=bo
 obtain⟨bA,Z⟩:=(zk (zk (zk (zk hcm F) D) co) aK).cmd aL
 rw[←zK default aL]at bA Z
 have hcw903:=cq.cells bA ((zk (zk (zk (zk hcm F) D) co) aK).foot (ne_of_lt aL))
 refine sty rfl rfl (cL kY (xw (a:=(zW d j g m start (cm.gd k)).1) (b:=(zW d j g m start (cm.gd k)).1) (zk cp aK) (ZT Z om hstart bC om) bz (ZT Z om hstart bC om) cq) ?_)
 rintro _ w904 ⟨rfl,fj⟩
 have fk:=fi _ _ fj
 have fl:=fg _ _ fk
 have cU:(decide (((zW d j g m start (cm.gd k)).1)=((zW d j g m start (cm.gd k)).1)))=true:=(decide_eq_true rfl)
 rw[cU]
 refine sty rfl rfl (yw (a:=true) rfl (st (yb (v:=.bool false) rfl rfl (zb (zf rfl (zp ?_))))))
 have fm:=ey _ _ fl
 have fn:=eu _ _ fm
 obtain⟨f912,fo,cr⟩:=(fn.mv2).depoML
 refine R0 fun _=>st (xg rfl (st (lD p Tryz.isAgg42 rfl (zd (cr.b5) rfl) (st (cL Tryz.call14 (Qk fo cr) ?_)))))
 rintro _ w915 ⟨rfl,fp⟩
 refine zb (R0 fun _=>st (mV (Iw k) ?_))
 have fq:InR ((k+1:Nat):Int):=bo
 refine st (zU (r:=((k+1:Nat):Int)) (k:=.i64) (a:=((k:Nat):Int)) (b:=1) rfl rfl (by rw[show(((k:Nat):Int)+1:Int)=((k+1:Nat):Int)from bo];exact zJ fq) (st (aS (Iw (k+1)) (zb ?_))))
 exact⟨_,by omega,k+1,_,rfl,sSf,by omega,(fp.s10_ibcghj)⟩
 try simp only[zh]at bD
 refine zg rfl (za (R0 fun _=>st (cL nY (xf hKN ft) ?_)))
 rintro _ w919 ⟨rfl,fr⟩
 refine st (aS (.bool true) (zb (zo (zN oY (show _=(.bool true:Value)from rfl) ?_))))
 refine⟨rfl,(fr.s1_)⟩
end
end Go.Proofs.YtbcdijeggfoabaaGreatDoor
