import Derived.Test.YtpdolkiohjdodaaGreatDoorM12
set_option maxRecDepth 8000
set_option maxHeartbeats 4000000
set_option linter.unusedSimpArgs false
set_option linter.unusedVariables false
set_option linter.unusedSectionVars false
set_option linter.deprecated false
open Go.Proofs.Tryz renaming sizeOf70→kT,isAgg3→lT,isAgg70→mT,isAgg67→nT,underlying67→oT,underlying26→pT,sizeOf55→qT,results87→rT,isAgg26→sT,sizeOf3→tT,isAgg25→uT,sizeOf25→vT,sizeOf73→wT,zeroValue70→kR,results72→lR,isAgg55→mR,sizeOf48→nR,call87→oR,isAgg52→pR,sizeOf52→qR,call68→rR,call69→sR,zeroValue48→tR,call45→uR,call50→vR,isAgg23→wR,underlying23→kY,isAgg73→lY,results47→mY,sizeOf57→nY,isAgg46→oY,underlying46→pY
namespace Go.Proofs.YtpdolkiohjdodaaGreatDoor
variable {G:Nat→Prop}{W w:World}{Rs:List HP}
section
open Go.Proofs Go.RowKit
theorem zbf {a:Nat}{p:Prj}{vx:Value}{q:Row}(oq:q.Ok){arg:Int}(harg:InR arg)(hS0:Sep G W ((Blk a #[.int .i64 (p.ptyp),.int .i64 (p.pfield),.int .i64 (p.pgroup),.int .i64 (p.pby),.int .i64 (p.pmake),vx] 149)::Rs) w)(hqc:0≤q.count∧q.count<4611686018427387904)(op:p.Ok):Ret Tryz.prog 87 [.pointer (some ⟨a,0,none⟩),.agg (q.cells).toArray,.int .i64 (arg)] w (fun r w'=>r=(.agg ((xb p q arg).cells).toArray:Value)∧((xb p q arg).Ok)∧Sep G W ((Blk a #[.int .i64 (p.ptyp),.int .i64 (p.pfield),.int .i64 (p.pgroup),.int .i64 (p.pby),.int .i64 (p.pmake),vx] 149)::Rs) w'):=by
 refine zn (args:=[Ix a 0,.agg (q.cells).toArray,Iv arg]) Tryz.func87 rfl rfl ?_
 let ak:=((⟨q.group,arg,q.count+1⟩:Row).cells)
 let aj:=((⟨q.group,q.value,q.count+1⟩:Row).cells)
 refine za (R0 fun _=>st (zX (v:=.agg (q.cells).toArray) rfl ?_))
 intro w3 b2 ah
 refine st (zG kR ?_)
 intro w7 l ai
 have z:=(hS0.new ah).new ai
 refine zb (za (R0 fun _=>st (WX rfl (st (lD (Iv (q.count)) lT rfl (zd (z.b1) rfl) ?_)))))
 have e:InR (q.count+1):=by omega
 refine st (zO (r:=q.count+1) (k:=.i64) (a:=q.count) (b:=1) rfl rfl (zw e) (st (WX rfl (stn (ym (v:=Iv (q.count+1)) (c:=[Iv (q.group),Iv (q.value),Iv (q.count)]) (c':=[Iv (q.group),Iv (q.value),Iv (q.count+1)]) tT rfl rfl (z.b1) rfl rfl rfl ?_)))))
 intro w10 N
 have ok12:Row.Ok (⟨q.group,q.value,q.count+1⟩:Row):=⟨(show InR (q.group)from oq.group),(show InR (q.value)from oq.value),(show InR (q.count+1)from e)⟩
 have d:=z.pt1 N
 refine zb (za (za (R0 fun _=>st (mV (Ix a 0) (st (zm (b:=a) (o:=0) rfl (st (Yf rfl (st (KF rfl (st (lD (Iv (p.pmake)) lT rfl (zd (d.b2) rfl) (zb (zt (za (R0 fun _=>st (zS (k:=.i64) (a:=p.pmake) (b:=1) rfl rfl (st (aS (.bool (decide (p.pmake=1))) (zb ?_))))))))))))))))))))
 cases f:decide (p.pmake=1)
 have f:=fD f
 refine ze rfl (za (R0 fun _=>st (zS (k:=.i64) (a:=p.pmake) (b:=2) rfl rfl (st (aS (.bool (decide (p.pmake=2))) (zb ?_))))))
 cases g:decide (p.pmake=2)
 have g:=fD g
 refine ze rfl (za (R0 fun _=>st (zS (k:=.i64) (a:=p.pmake) (b:=3) rfl rfl (st (aS (.bool (decide (p.pmake=3))) (zb ?_))))))
 cases h:decide (p.pmake=3)
 have h:=fD h
 refine ze rfl (za (R0 fun _=>st (zS (k:=.i64) (a:=p.pmake) (b:=4) rfl rfl (st (aS (.bool (decide (p.pmake=4))) (zb ?_))))))
 cases i:decide (p.pmake=4)
 have i:=fD i
 refine ze rfl (za (R0 fun _=>st (zS (k:=.i64) (a:=p.pmake) (b:=5) rfl rfl (st (aS (.bool (decide (p.pmake=5))) (zb ?_))))))
 cases j:decide (p.pmake=5)
 have j:=fD j
 refine ze rfl (zp (za (R0 fun _=>st (zh (k:=3) mT kT rfl rfl (zo (d.b1)) (stn (zy (v:=.agg aj.toArray) (c':=aj.toArray) kT rfl rfl (d.b0) (yo ⟨rfl,rfl,rfl,zl⟩) yqc rfl ?_))))))
 intro w19 O
 have A:=d.pt0 O
 refine zb (zq (Yd (b:=l) rT mT kT rfl rfl (zo (A.b0)) ?_))
 refine⟨?_,?_,(A.s3_c)⟩
 have hone:xb p q arg=⟨q.group,q.value,q.count+1⟩:=by
  unfold xb yV
  refine Row.eq_iff.2 ⟨rfl,?_,rfl⟩
  dsimp only
  first|omega|((repeat' split)<;>first|rfl|omega)
 rw[hone]
 try rfl
 exact ZN oq harg hqc
 have j:=tD j
 refine zg rfl (R0 fun _=>st (mV (Iv arg) (st (YF rfl (stn (ym (v:=Iv arg) (c:=[Iv (q.group),Iv (q.value),Iv (q.count+1)]) (c':=[Iv (q.group),Iv arg,Iv (q.count+1)]) tT rfl rfl (d.b1) rfl rfl rfl ?_))))))
 intro w23 P
 have ok25:Row.Ok (⟨q.group,arg,q.count+1⟩:Row):=⟨(show InR (q.group)from oq.group),(show InR (arg)from harg),(show InR (q.count+1)from e)⟩
 have m:=d.pt1 P
 refine zb (za (R0 fun _=>st (zh (k:=3) mT kT rfl rfl (zo (m.b1)) (stn (zy (v:=.agg ak.toArray) (c':=ak.toArray) kT rfl rfl (m.b0) (yo ⟨rfl,rfl,rfl,zl⟩) yqc rfl ?_)))))
 intro w27 Q
 have B:=m.pt0 Q
 refine zb (zq (Yd (b:=l) rT mT kT rfl rfl (zo (B.b0)) ?_))
 refine⟨?_,?_,(B.s3_c)⟩
 have hone:xb p q arg=⟨q.group,arg,q.count+1⟩:=by
  unfold xb yV
  refine Row.eq_iff.2 ⟨rfl,?_,rfl⟩
  dsimp only
  first|omega|((repeat' split)<;>first|rfl|omega)
 rw[hone]
 try rfl
 exact ZN oq harg hqc
 have i:=tD i
 refine zg rfl (za (zF kr (st (WX rfl (st (lD (Iv (q.count+1)) lT rfl (zd (d.b1) rfl) (st (zS (k:=.i64) (a:=q.count+1) (b:=1) rfl rfl (st (mV (.bool (decide ((q.count+1)=1))) (stc (V:=Iv arg) rfl rfl (fun R=>?_) ?_)))))))))))
 have hl32:=fD R
 exact mV (Iv arg) rflB
 refine stc (V:=Ix b2 1) rfl rfl (fun S=>?_) ?_
 have hl34:=fD S
 exact YF rfl rflB
 refine stc (V:=Iv (q.value)) rfl rfl (fun C=>?_) ?_
 have hl36:=fD C
 exact lD (Iv (q.value)) lT (ifpC C) (zd (d.b1) rfl) rflB
 refine stc (V:=.bool (decide (q.value<arg))) rfl rfl (fun n=>?_) ?_
 have hl38:=fD n
 exact xh (k:=.i64) (a:=arg) (b:=q.value) (ifpC n) (ifpC n) rflB
 refine st (zI (b:=decide ((q.count+1)=1)) (b':=decide (q.value<arg)) rfl (fun hbp=>(ifpC hbp)) (zb ?_))
 cases D:(decide ((q.count+1)=1))||(decide (q.value<arg))
 try simp only[zi]at D
 refine ze rfl (zp (za (R0 fun _=>st (zh (k:=3) mT kT rfl rfl (zo (d.b1)) (stn (zy (v:=.agg aj.toArray) (c':=aj.toArray) kT rfl rfl (d.b0) (yo ⟨rfl,rfl,rfl,zl⟩) yqc rfl ?_))))))
 intro w40 T
 have E:=d.pt0 T
 refine zb (zq (Yd (b:=l) rT mT kT rfl rfl (zo (E.b0)) ?_))
 refine⟨?_,?_,(E.s3_c)⟩
 have hone:xb p q arg=⟨q.group,q.value,q.count+1⟩:=by
  unfold xb yV
  refine Row.eq_iff.2 ⟨rfl,?_,rfl⟩
  dsimp only
  first|omega|((repeat' split)<;>first|rfl|omega)
 rw[hone]
 try rfl
 exact ZN oq harg hqc
 try simp only[zi]at D
 refine zg rfl (R0 fun _=>st (mV (Iv arg) (st (YF rfl (stn (ym (v:=Iv arg) (c:=[Iv (q.group),Iv (q.value),Iv (q.count+1)]) (c':=[Iv (q.group),Iv arg,Iv (q.count+1)]) tT rfl rfl (d.b1) rfl rfl rfl ?_))))))
 intro w44 U
 have ok46:Row.Ok (⟨q.group,arg,q.count+1⟩:Row):=⟨(show InR (q.group)from oq.group),(show InR (arg)from harg),(show InR (q.count+1)from e)⟩
 have s:=d.pt1 U
 refine zb (za (R0 fun _=>st (zh (k:=3) mT kT rfl rfl (zo (s.b1)) (stn (zy (v:=.agg ak.toArray) (c':=ak.toArray) kT rfl rfl (s.b0) (yo ⟨rfl,rfl,rfl,zl⟩) yqc rfl ?_)))))
 intro w48 X
 have F:=s.pt0 X
 refine zb (zq (Yd (b:=l) rT mT kT rfl rfl (zo (F.b0)) ?_))
 refine⟨?_,?_,(F.s3_c)⟩
 have hone:xb p q arg=⟨q.group,arg,q.count+1⟩:=by
  unfold xb yV
  refine Row.eq_iff.2 ⟨rfl,?_,rfl⟩
  dsimp only
  first|omega|((repeat' split)<;>first|rfl|omega)
 rw[hone]
 try rfl
 exact ZN oq harg hqc
 have h:=tD h
 refine zg rfl (za (zF kr (st (WX rfl (st (lD (Iv (q.count+1)) lT rfl (zd (d.b1) rfl) (st (zS (k:=.i64) (a:=q.count+1) (b:=1) rfl rfl (st (mV (.bool (decide ((q.count+1)=1))) (stc (V:=Iv arg) rfl rfl (fun Y=>?_) ?_)))))))))))
 have hl53:=fD Y
 exact mV (Iv arg) rflB
 refine stc (V:=Ix b2 1) rfl rfl (fun Z=>?_) ?_
 have hl55:=fD Z
 exact YF rfl rflB
 refine stc (V:=Iv (q.value)) rfl rfl (fun H=>?_) ?_
 have hl57:=fD H
 exact lD (Iv (q.value)) lT (ifpC H) (zd (d.b1) rfl) rflB
 refine stc (V:=.bool (decide (arg<q.value))) rfl rfl (fun t=>?_) ?_
 have hl59:=fD t
 exact zK (k:=.i64) (a:=arg) (b:=q.value) (ifpC t) (ifpC t) rflB
 refine st (zI (b:=decide ((q.count+1)=1)) (b':=decide (arg<q.value)) rfl (fun hbp=>(ifpC hbp)) (zb ?_))
 cases I:(decide ((q.count+1)=1))||(decide (arg<q.value))
 try simp only[zi]at I
 refine ze rfl (zp (za (R0 fun _=>st (zh (k:=3) mT kT rfl rfl (zo (d.b1)) (stn (zy (v:=.agg aj.toArray) (c':=aj.toArray) kT rfl rfl (d.b0) (yo ⟨rfl,rfl,rfl,zl⟩) yqc rfl ?_))))))
 intro w61 aa
 have J:=d.pt0 aa
 refine zb (zq (Yd (b:=l) rT mT kT rfl rfl (zo (J.b0)) ?_))
 refine⟨?_,?_,(J.s3_c)⟩
 have hone:xb p q arg=⟨q.group,q.value,q.count+1⟩:=by
  unfold xb yV
  refine Row.eq_iff.2 ⟨rfl,?_,rfl⟩
  dsimp only
  first|omega|((repeat' split)<;>first|rfl|omega)
 rw[hone]
 try rfl
 exact ZN oq harg hqc
 try simp only[zi]at I
 refine zg rfl (R0 fun _=>st (mV (Iv arg) (st (YF rfl (stn (ym (v:=Iv arg) (c:=[Iv (q.group),Iv (q.value),Iv (q.count+1)]) (c':=[Iv (q.group),Iv arg,Iv (q.count+1)]) tT rfl rfl (d.b1) rfl rfl rfl ?_))))))
 intro w65 ab
 have ok67:Row.Ok (⟨q.group,arg,q.count+1⟩:Row):=⟨(show InR (q.group)from oq.group),(show InR (arg)from harg),(show InR (q.count+1)from e)⟩
 have u:=d.pt1 ab
 refine zb (za (R0 fun _=>st (zh (k:=3) mT kT rfl rfl (zo (u.b1)) (stn (zy (v:=.agg ak.toArray) (c':=ak.toArray) kT rfl rfl (u.b0) (yo ⟨rfl,rfl,rfl,zl⟩) yqc rfl ?_)))))
 intro w69 ac
 have K:=u.pt0 ac
 refine zb (zq (Yd (b:=l) rT mT kT rfl rfl (zo (K.b0)) ?_))
 refine⟨?_,?_,(K.s3_c)⟩
 have hone:xb p q arg=⟨q.group,arg,q.count+1⟩:=by
  unfold xb yV
  refine Row.eq_iff.2 ⟨rfl,?_,rfl⟩
  dsimp only
  first|omega|((repeat' split)<;>first|rfl|omega)
 rw[hone]
 try rfl
 exact ZN oq harg hqc
 have g:=tD g
 refine zg rfl (R0 fun _=>st (YF rfl (st (lD (Iv (q.value)) lT rfl (zd (d.b1) rfl) (st (mV (Iv arg) (st (zO (r:=IntKind.i64.wrap (q.value+arg)) (k:=.i64) (a:=q.value) (b:=arg) rfl rfl rfl (st (YF rfl (stn (ym (v:=Iv (IntKind.i64.wrap (q.value+arg))) (c:=[Iv (q.group),Iv (q.value),Iv (q.count+1)]) (c':=[Iv (q.group),Iv (IntKind.i64.wrap (q.value+arg)),Iv (q.count+1)]) tT rfl rfl (d.b1) rfl rfl rfl ?_))))))))))))
 intro w73 ad
 have ok75:Row.Ok (⟨q.group,IntKind.i64.wrap (q.value+arg),q.count+1⟩:Row):=⟨(show InR (q.group)from oq.group),(show InR (IntKind.i64.wrap (q.value+arg))from(Ys _)),(show InR (q.count+1)from e)⟩
 have x:=d.pt1 ad
 refine zb (za (R0 fun _=>st (zh (k:=3) mT kT rfl rfl (zo (x.b1)) (stn (zy (v:=.agg ((⟨q.group,IntKind.i64.wrap (q.value+arg),q.count+1⟩:Row).cells).toArray) (c':=((⟨q.group,IntKind.i64.wrap (q.value+arg),q.count+1⟩:Row).cells).toArray) kT rfl rfl (x.b0) (yo ⟨rfl,rfl,rfl,zl⟩) yqc rfl ?_)))))
 intro w77 ae
 have L:=x.pt0 ae
 refine zb (zq (Yd (b:=l) rT mT kT rfl rfl (zo (L.b0)) ?_))
 refine⟨?_,?_,(L.s3_c)⟩
 have hone:xb p q arg=⟨q.group,IntKind.i64.wrap (q.value+arg),q.count+1⟩:=by
  unfold xb yV
  refine Row.eq_iff.2 ⟨rfl,?_,rfl⟩
  dsimp only
  first|omega|((repeat' split)<;>first|rfl|omega)
 rw[hone]
 try rfl
 exact ZN oq harg hqc
 have f:=tD f
 refine zg rfl (R0 fun _=>st (WX rfl (st (lD (Iv (q.count+1)) lT rfl (zd (d.b1) rfl) (st (YF rfl (stn (ym (v:=Iv (q.count+1)) (c:=[Iv (q.group),Iv (q.value),Iv (q.count+1)]) (c':=[Iv (q.group),Iv (q.count+1),Iv (q.count+1)]) tT rfl rfl (d.b1) rfl rfl rfl ?_))))))))
 intro w81 af
 have ok83:Row.Ok (⟨q.group,q.count+1,q.count+1⟩:Row):=⟨(show InR (q.group)from oq.group),(show InR (q.count+1)from e),(show InR (q.count+1)from e)⟩
 have y:=d.pt1 af
 refine zb (za (R0 fun _=>st (zh (k:=3) mT kT rfl rfl (zo (y.b1)) (stn (zy (v:=.agg ((⟨q.group,q.count+1,q.count+1⟩:Row).cells).toArray) (c':=((⟨q.group,q.count+1,q.count+1⟩:Row).cells).toArray) kT rfl rfl (y.b0) (yo ⟨rfl,rfl,rfl,zl⟩) yqc rfl ?_)))))
 intro w85 ag
 have M:=y.pt0 ag
 refine zb (zq (Yd (b:=l) rT mT kT rfl rfl (zo (M.b0)) ?_))
 refine⟨?_,?_,(M.s3_c)⟩
 have hone:xb p q arg=⟨q.group,q.count+1,q.count+1⟩:=by
  unfold xb yV
  refine Row.eq_iff.2 ⟨rfl,?_,rfl⟩
  dsimp only
  first|omega|((repeat' split)<;>first|rfl|omega)
 rw[hone]
 try rfl
 exact ZN oq harg hqc
set_option maxHeartbeats 4000000 in
theorem JD {a:Nat}{p:Prj}{l:List Row}{e:Ent}{de0:Value}(hde0:RdS W G de0 e.ev.deps)(oe:e.Ok){reg:Int}(hreg:InR reg)(hS0:Sep G W ((RefO a p l)::Rs) w)(hcnt: ∀j,j<l.length→0≤(l.getD j default).count∧(l.getD j default).count<4611686018427387904)(hll:l.length≤100000):Ret Tryz.prog 72 [.pointer (some ⟨a,0,none⟩),.agg (e.cells de0).toArray,.int .i64 (reg)] w (fun r w'=> ∃(l2:List Row),r=(.tuple #[]:Value)∧(Kt p l e reg l2)∧Sep G W ((RefO a p l2)::Rs) w'):=by
 have hde0s:_*8≤_:=hde0.small
 refine zn (args:=[Ix a 0,.agg (e.cells de0).toArray,Iv reg]) Tryz.func72 rfl rfl ?_
 obtain⟨aT,t,eV⟩:=RefO.open hS0
 let bi:=Blk a #[Iv (p.ptyp),Iv (p.pfield),Iv (p.pgroup),Iv (p.pby),Iv (p.pmake),t] 149
 have ax:=eV.r1
 have hr4s:_*24≤_:=ax.2
 have eW:Sep G W (bi::(RowE (α:=Row) own 70 t l)::Rs) w:=eV
 refine za (R0 fun _=>st (zX (v:=.agg (e.cells de0).toArray) rfl ?_))
 intro w7 x fb
 let cm:=Blk x (e.cells de0).toArray 57
 refine zb (za (za ?_))
 refine WD4 (WF [fun vals A=>Sep G W (cm::bi::(RowE (α:=Row) own 70 t l)::Rs) A]) (AF [Vl 0 (Ix x 10),Vl 1 (.bool (e.void)),Vl 2 (.bool (e.void)),Vl 3 (if e.void=false then Ix x 0 else undef),Vl 4 (if e.void=false then Ix x 4 else undef),Vl 5 (if e.void=false then Iv (e.ev.typ)else undef),Vl 6 (if e.void=false then Ix a 0 else undef),Vl 7 (if e.void=false then Ix a 0 else undef),Vl 8 (if e.void=false then Ix a 0 else undef),Vl 9 (if e.void=false then Ix a 0 else undef),Vl 10 (if e.void=false then Iv (p.ptyp)else undef),Vl 11 (if e.void=false then .bool (!decide (e.ev.typ=p.ptyp))else undef),Vl 12 (.bool (e.void||(!decide (e.ev.typ=p.ptyp)))),Vl 13 (.bool (e.void||(!decide (e.ev.typ=p.ptyp)))),Vl 14 (if(e.void||(!decide (e.ev.typ=p.ptyp)))=false then Ix x 0 else undef),Vl 15 (if(e.void||(!decide (e.ev.typ=p.ptyp)))=false then Ix x 6 else undef),Vl 16 (if(e.void||(!decide (e.ev.typ=p.ptyp)))=false then Iv (e.ev.field)else undef),Vl 17 (if(e.void||(!decide (e.ev.typ=p.ptyp)))=false then Ix a 0 else undef),Vl 18 (if(e.void||(!decide (e.ev.typ=p.ptyp)))=false then Ix a 0 else undef),Vl 19 (if(e.void||(!decide (e.ev.typ=p.ptyp)))=false then Ix a 0 else undef),Vl 20 (if(e.void||(!decide (e.ev.typ=p.ptyp)))=false then Ix a 1 else undef),Vl 21 (if(e.void||(!decide (e.ev.typ=p.ptyp)))=false then Iv (p.pfield)else undef),Vl 22 (if(e.void||(!decide (e.ev.typ=p.ptyp)))=false then .bool (!decide (e.ev.field=p.pfield))else undef),Vl 23 (.bool ((e.void||(!decide (e.ev.typ=p.ptyp)))||(!decide (e.ev.field=p.pfield)))),Vl 24 (.bool ((e.void||(!decide (e.ev.typ=p.ptyp)))||(!decide (e.ev.field=p.pfield)))),Vl 25 (if((e.void||(!decide (e.ev.typ=p.ptyp)))||(!decide (e.ev.field=p.pfield)))=false then Ix a 0 else undef),Vl 26 (if((e.void||(!decide (e.ev.typ=p.ptyp)))||(!decide (e.ev.field=p.pfield)))=false then Ix a 0 else undef),Vl 27 (if((e.void||(!decide (e.ev.typ=p.ptyp)))||(!decide (e.ev.field=p.pfield)))=false then Ix a 0 else undef),Vl 28 (if((e.void||(!decide (e.ev.typ=p.ptyp)))||(!decide (e.ev.field=p.pfield)))=false then Ix a 2 else undef),Vl 29 (if((e.void||(!decide (e.ev.typ=p.ptyp)))||(!decide (e.ev.field=p.pfield)))=false then Iv (p.pgroup)else undef),Vl 30 (if((e.void||(!decide (e.ev.typ=p.ptyp)))||(!decide (e.ev.field=p.pfield)))=false then .bool (decide (p.pgroup<1))else undef),Vl 31 (.bool (((e.void||(!decide (e.ev.typ=p.ptyp)))||(!decide (e.ev.field=p.pfield)))||(decide (p.pgroup<1)))),Vl 32 (.bool (((e.void||(!decide (e.ev.typ=p.ptyp)))||(!decide (e.ev.field=p.pfield)))||(decide (p.pgroup<1)))),Vl 33 (if(((e.void||(!decide (e.ev.typ=p.ptyp)))||(!decide (e.ev.field=p.pfield)))||(decide (p.pgroup<1)))=false then Ix a 0 else undef),Vl 34 (if(((e.void||(!decide (e.ev.typ=p.ptyp)))||(!decide (e.ev.field=p.pfield)))||(decide (p.pgroup<1)))=false then Ix a 0 else undef),Vl 35 (if(((e.void||(!decide (e.ev.typ=p.ptyp)))||(!decide (e.ev.field=p.pfield)))||(decide (p.pgroup<1)))=false then Ix a 0 else undef),Vl 36 (if(((e.void||(!decide (e.ev.typ=p.ptyp)))||(!decide (e.ev.field=p.pfield)))||(decide (p.pgroup<1)))=false then Ix a 2 else undef),Vl 37 (if(((e.void||(!decide (e.ev.typ=p.ptyp)))||(!decide (e.ev.field=p.pfield)))||(decide (p.pgroup<1)))=false then Iv (p.pgroup)else undef),Vl 38 (if(((e.void||(!decide (e.ev.typ=p.ptyp)))||(!decide (e.ev.field=p.pfield)))||(decide (p.pgroup<1)))=false then .bool (decide (3<p.pgroup))else undef),Vl 39 (.bool ((((e.void||(!decide (e.ev.typ=p.ptyp)))||(!decide (e.ev.field=p.pfield)))||(decide (p.pgroup<1)))||(decide (3<p.pgroup))))]) [[],[0],[0,1],[0,1,2],(rg 4),(rg 5),[0,1,2],[0,1,2,6],[0,1,2,6,7],[0,1,2,6,7,8],[0,1,2,6,7,8,9],(rg 11),(rg 12),(rg 13),(rg 14),(rg 15),(rg 16),(rg 14),[0,1,2,3,4,5,6,7,8,9,10,11,12,13,17],[0,1,2,3,4,5,6,7,8,9,10,11,12,13,17,18],[0,1,2,3,4,5,6,7,8,9,10,11,12,13,17,18,19],[0,1,2,3,4,5,6,7,8,9,10,11,12,13,17,18,19,20],(rg 22),(rg 23),(rg 24),(rg 25),(rg 26),(rg 27),(rg 28),(rg 29),(rg 30),(rg 31),(rg 32),(rg 33),(rg 34),(rg 35),(rg 36),(rg 37),(rg 38),(rg 39)] [] [(0,0),(0,0),(0,0),(0,0),(0,0),(0,0),(0,0),(0,0),(0,0),(0,0),(0,0),(0,0),(0,0),(0,0),(0,0),(0,0),(0,0),(0,0),(0,0),(0,0),(0,0),(0,0),(0,0),(0,0),(0,0),(0,0),(0,0),(0,0),(0,0),(0,0),(0,0),(0,0),(0,0),(0,0),(0,0),(0,0),(0,0),(0,0),(0,0),(0,0)] (eW.new fb) ⟨fun _ _ _ _ _ _ _=>obl rfl (Vp rfl dR),ob1 0 fun _ _ (dv:Sep _ _ _ _) dw=>obl rfl (lD (.bool (e.void)) Tryz.isAgg4 (dw 0 dc) (zd (dv.b0) rfl) dR),fun _ _ _ _ _ _ dx=>obl rfl (zP (v:=.bool (e.void)) (dx 1 dc) dR),?_,?_,?_,?_,?_,?_,?_,?_,?_,fun _ _ _ _ _ _ bl=>obl rfl (zI (b:=e.void) (b':= !decide (e.ev.typ=p.ptyp)) (bl 2 dc) (fun hbp=>(zr (bl 11 dc) (ifpC hbp))) dR),fun _ _ _ _ _ _ dy=>obl rfl (zP (v:=.bool (e.void||(!decide (e.ev.typ=p.ptyp)))) (dy 12 dc) dR),?_,?_,?_,?_,?_,?_,?_,?_,?_,fun _ _ _ _ _ _ bm=>obl rfl (zI (b:=e.void||(!decide (e.ev.typ=p.ptyp))) (b':= !decide (e.ev.field=p.pfield)) (bm 13 dc) (fun hbp=>(zr (bm 22 dc) (ifpC hbp))) dR),fun _ _ _ _ _ _ dz=>obl rfl (zP (v:=.bool ((e.void||(!decide (e.ev.typ=p.ptyp)))||(!decide (e.ev.field=p.pfield)))) (dz 23 dc) dR),?_,?_,?_,?_,?_,?_,fun _ _ _ _ _ _ bn=>obl rfl (zI (b:=(e.void||(!decide (e.ev.typ=p.ptyp)))||(!decide (e.ev.field=p.pfield))) (b':=decide (p.pgroup<1)) (bn 24 dc) (fun hbp=>(zr (bn 30 dc) (ifpC hbp))) dR),fun _ _ _ _ _ _ dB=>obl rfl (zP (v:=.bool (((e.void||(!decide (e.ev.typ=p.ptyp)))||(!decide (e.ev.field=p.pfield)))||(decide (p.pgroup<1)))) (dB 31 dc) dR),?_,?_,?_,?_,?_,?_,fun _ _ _ _ _ _ bp=>obl rfl (zI (b:=((e.void||(!decide (e.ev.typ=p.ptyp)))||(!decide (e.ev.field=p.pfield)))||(decide (p.pgroup<1))) (b':=decide (3<p.pgroup)) (bp 32 dc) (fun hbp=>(zr (bp 38 dc) (ifpC hbp))) dR),zl⟩ ?_
 refine fun _ _ _ _ _ _ dD=>(zN rfl rfl (dD 2 dc) (fun aD=>?_) yd)
 exact xx rfl (yc aD)
 refine fun _ _ _ _ _ _ bq=>(zN rfl rfl (bq 2 dc) (fun ae=>?_) yd)
 exact xm (zr (bq 3 dc) (ifpC ae)) (yc ae)
 refine ob1 0 fun _ _ (dE:Sep _ _ _ _) br=>(zN rfl rfl (br 2 dc) (fun af=>?_) yd)
 exact lD (Iv (e.ev.typ)) lT (zr (br 4 dc) (ifpC af)) (zd (dE.b0) rfl) (yc af)
 refine fun _ _ _ _ _ _ dF=>(zN rfl rfl (dF 2 dc) (fun aE=>?_) yd)
 exact mV (Ix a 0) (yc aE)
 refine fun _ _ _ _ _ _ bs=>(zN rfl rfl (bs 2 dc) (fun ag=>?_) yd)
 exact zm (b:=a) (o:=0) (zr (bs 6 dc) (ifpC ag)) (yc ag)
 refine fun _ _ _ _ _ _ bt=>(zN rfl rfl (bt 2 dc) (fun ah=>?_) yd)
 exact Yf (zr (bt 7 dc) (ifpC ah)) (yc ah)
 refine fun _ _ _ _ _ _ bu=>(zN rfl rfl (bu 2 dc) (fun ai=>?_) yd)
 exact Kg (zr (bu 8 dc) (ifpC ai)) (yc ai)
 refine ob1 0 fun _ _ (dG:Sep _ _ _ _) bv=>(zN rfl rfl (bv 2 dc) (fun aj=>?_) yd)
 exact lD (Iv (p.ptyp)) lT (zr (bv 9 dc) (ifpC aj)) (zd (dG.b1) rfl) (yc aj)
 refine ob1 0 fun _ _ _ aF=>(zN rfl rfl (aF 2 dc) (fun H=>?_) yd)
 exact yy (k:=.i64) (a:=e.ev.typ) (b:=p.ptyp) (zr (aF 5 dc) (ifpC H)) (zr (aF 10 dc) (ifpC H)) (yc H)
 refine fun _ _ _ _ _ _ dH=>(zN rfl rfl (dH 13 dc) (fun ak=>?_) yd)
 have dI:=ak
 try simp only[zi]at dI
 exact xx rfl (yc ak)
 refine fun _ _ _ _ _ _ bw=>(zN rfl rfl (bw 13 dc) (fun I=>?_) yd)
 have dJ:=I
 try simp only[zi]at dJ
 exact xM (zr (bw 14 dc) (ifpC I)) (yc I)
 refine ob1 0 fun _ _ (dK:Sep _ _ _ _) bx=>(zN rfl rfl (bx 13 dc) (fun J=>?_) yd)
 have dL:=J
 try simp only[zi]at dL
 exact lD (Iv (e.ev.field)) lT (zr (bx 15 dc) (ifpC J)) (zd (dK.b0) rfl) (yc J)
 refine fun _ _ _ _ _ _ dM=>(zN rfl rfl (dM 13 dc) (fun al=>?_) yd)
 have dN:=al
 try simp only[zi]at dN
 exact mV (Ix a 0) (yc al)
 refine fun _ _ _ _ _ _ bz=>(zN rfl rfl (bz 13 dc) (fun K=>?_) yd)
 have dO:=K
 try simp only[zi]at dO
 exact zm (b:=a) (o:=0) (zr (bz 17 dc) (ifpC K)) (yc K)
 refine fun _ _ _ _ _ _ bA=>(zN rfl rfl (bA 13 dc) (fun L=>?_) yd)
 have dP:=L
 try simp only[zi]at dP
 exact Yf (zr (bA 18 dc) (ifpC L)) (yc L)
 refine fun _ _ _ _ _ _ bB=>(zN rfl rfl (bB 13 dc) (fun M=>?_) yd)
 have dQ:=M
 try simp only[zi]at dQ
 exact zbn (zr (bB 19 dc) (ifpC M)) (yc M)
 refine ob1 0 fun _ _ (dS:Sep _ _ _ _) bC=>(zN rfl rfl (bC 13 dc) (fun N=>?_) yd)
 have dU:=N
 try simp only[zi]at dU
 exact lD (Iv (p.pfield)) lT (zr (bC 20 dc) (ifpC N)) (zd (dS.b1) rfl) (yc N)
 refine ob1 0 fun _ _ _ aG=>(zN rfl rfl (aG 13 dc) (fun D=>?_) yd)
 have dV:=D
 try simp only[zi]at dV
 exact yy (k:=.i64) (a:=e.ev.field) (b:=p.pfield) (zr (aG 16 dc) (ifpC D)) (zr (aG 21 dc) (ifpC D)) (yc D)
 refine fun _ _ _ _ _ _ dW=>(zN rfl rfl (dW 24 dc) (fun am=>?_) yd)
 have dX:=am
 try simp only[zi]at dX
 exact mV (Ix a 0) (yc am)
 refine fun _ _ _ _ _ _ bD=>(zN rfl rfl (bD 24 dc) (fun O=>?_) yd)
 have dY:=O
 try simp only[zi]at dY
 exact zm (b:=a) (o:=0) (zr (bD 25 dc) (ifpC O)) (yc O)
 refine fun _ _ _ _ _ _ bE=>(zN rfl rfl (bE 24 dc) (fun P=>?_) yd)
 have dZ:=P
 try simp only[zi]at dZ
 exact Yf (zr (bE 26 dc) (ifpC P)) (yc P)
 refine fun _ _ _ _ _ _ bF=>(zN rfl rfl (bF 24 dc) (fun Q=>?_) yd)
 have ea:=Q
 try simp only[zi]at ea
 exact YJ (zr (bF 27 dc) (ifpC Q)) (yc Q)
 refine ob1 0 fun _ _ (eb:Sep _ _ _ _) bG=>(zN rfl rfl (bG 24 dc) (fun R=>?_) yd)
 have ec:=R
 try simp only[zi]at ec
 exact lD (Iv (p.pgroup)) lT (zr (bG 28 dc) (ifpC R)) (zd (eb.b1) rfl) (yc R)
 refine ob1 0 fun _ _ _ bH=>(zN rfl rfl (bH 24 dc) (fun S=>?_) yd)
 have ed:=S
 try simp only[zi]at ed
 exact zK (k:=.i64) (a:=p.pgroup) (b:=1) (zr (bH 29 dc) (ifpC S)) rfl (yc S)
 refine fun _ _ _ _ _ _ ee=>(zN rfl rfl (ee 32 dc) (fun an=>?_) yd)
 have ef:=an
 try simp only[zi]at ef
 exact mV (Ix a 0) (yc an)
 refine fun _ _ _ _ _ _ bI=>(zN rfl rfl (bI 32 dc) (fun T=>?_) yd)
 have eg:=T
 try simp only[zi]at eg
 exact zm (b:=a) (o:=0) (zr (bI 33 dc) (ifpC T)) (yc T)
 refine fun _ _ _ _ _ _ bJ=>(zN rfl rfl (bJ 32 dc) (fun U=>?_) yd)
 have eh:=U
 try simp only[zi]at eh
 exact Yf (zr (bJ 34 dc) (ifpC U)) (yc U)
 refine fun _ _ _ _ _ _ bK=>(zN rfl rfl (bK 32 dc) (fun X=>?_) yd)
 have ei:=X
 try simp only[zi]at ei
 exact YJ (zr (bK 35 dc) (ifpC X)) (yc X)
 refine ob1 0 fun _ _ (ej:Sep _ _ _ _) bL=>(zN rfl rfl (bL 32 dc) (fun Y=>?_) yd)
 have ek:=Y
 try simp only[zi]at ek
 exact lD (Iv (p.pgroup)) lT (zr (bL 36 dc) (ifpC Y)) (zd (ej.b1) rfl) (yc Y)
 refine ob1 0 fun _ _ _ bM=>(zN rfl rfl (bM 32 dc) (fun Z=>?_) yd)
 have el:=Z
 try simp only[zi]at el
 exact xh (k:=.i64) (a:=p.pgroup) (b:=3) (zr (bM 37 dc) (ifpC Z)) rfl (yc Z)
 intro vals eX em en
 have aa:Sep _ _ _ _:=em
 have eY:=en 39 dc
 refine yg (kv:=[(0,Ix a 0),(1,.agg (e.cells de0).toArray),(2,Iv reg),(4,Ix x 0),(48,.bool ((((e.void||(!decide (e.ev.typ=p.ptyp)))||(!decide (e.ev.field=p.pfield)))||(decide (p.pgroup<1)))||(decide (3<p.pgroup))))]) ⟨rfl,rfl,rfl,rfl,(by exact eY),zl⟩ (fun ρw769=>(zb ?_))
 cases ab:(((e.void||(!decide (e.ev.typ=p.ptyp)))||(!decide (e.ev.field=p.pfield)))||(decide (p.pgroup<1)))||(decide (3<p.pgroup))
 try simp only[zi]at ab
 refine ze rfl (zp (za (R0 fun _=>st (mV (Iv reg) (st (aS (Iv reg) (zb (za (za (R0 fun _=>st (mV (Ix a 0) (st (zm (b:=a) (o:=0) rfl (st (Yf rfl (st (YJ rfl (st (lD (Iv (p.pgroup)) lT rfl (zd (aa.b1) rfl) (st (zS (k:=.i64) (a:=p.pgroup) (b:=1) rfl rfl (zb (Yu (fun σ A=> ∃(g1:Int) (ρ:Env),σ=yf ρ [(0,Ix a 0),(1,.agg (e.cells de0).toArray),(2,Iv reg),(4,Ix x 0),(6,Iv g1)]∧(g1=(if p.pgroup=1 then e.ev.agg else reg)∧InR g1)∧Sep G W (cm::bi::(RowE (α:=Row) own 70 t l)::Rs) A) ?_ ?_)))))))))))))))))))))))
 cases E:decide (p.pgroup=1)
 have E:=fD E
 refine ze rfl (zp ?_)
 exact⟨rfl,reg,_,yG ⟨(show _=(Ix a 0:Value)from rfl),(show _=(.agg (e.cells de0).toArray:Value)from rfl),(show _=(Iv reg:Value)from rfl),(show _=(Ix x 0:Value)from rfl),(show _=(Iv reg:Value)from rfl),zl⟩,⟨(ifnC E).symm,hreg⟩,aa⟩
 have E:=tD E
 refine zg rfl (R0 fun _=>st (xx rfl (st (Zc rfl (st (lD (Iv (e.ev.agg)) lT rfl (zd (aa.b0) rfl) (st (aS (Iv (e.ev.agg)) (zb ?_)))))))))
 exact⟨rfl,e.ev.agg,_,yG ⟨(show _=(Ix a 0:Value)from rfl),(show _=(.agg (e.cells de0).toArray:Value)from rfl),(show _=(Iv reg:Value)from rfl),(show _=(Ix x 0:Value)from rfl),(show _=(Iv (e.ev.agg):Value)from rfl),zl⟩,⟨(ifpC E).symm,oe.ev.agg⟩,aa⟩
 rintro _ w777 ⟨g1,ρj1,rfl,aH,ao⟩
 refine za (za (R0 fun _=>st (mV (Ix a 0) (st (zm (b:=a) (o:=0) rfl (st (Yf rfl (st (YJ rfl (st (lD (Iv (p.pgroup)) lT rfl (zd (ao.b1) rfl) (st (zS (k:=.i64) (a:=p.pgroup) (b:=2) rfl rfl (zb (Yu (fun σ A=> ∃(s:Int) (ρ:Env),σ=yf ρ [(0,Ix a 0),(1,.agg (e.cells de0).toArray),(2,Iv reg),(4,Ix x 0),(6,Iv s)]∧(s=(if p.pgroup=2 then e.ev.arg else g1)∧InR s)∧Sep G W (cm::bi::(RowE (α:=Row) own 70 t l)::Rs) A) ?_ ?_)))))))))))))))
 cases F:decide (p.pgroup=2)
 have F:=fD F
 refine ze rfl (zp ?_)
 exact⟨rfl,g1,_,yG ⟨(show _=(Ix a 0:Value)from rfl),(show _=(.agg (e.cells de0).toArray:Value)from rfl),(show _=(Iv reg:Value)from rfl),(show _=(Ix x 0:Value)from rfl),(show _=(Iv g1:Value)from rfl),zl⟩,⟨(ifnC F).symm,aH.2⟩,ao⟩
 have F:=tD F
 refine zg rfl (R0 fun _=>st (xx rfl (st (xy rfl (st (lD (Iv (e.ev.arg)) lT rfl (zd (ao.b0) rfl) (st (aS (Iv (e.ev.arg)) (zb ?_)))))))))
 exact⟨rfl,e.ev.arg,_,yG ⟨(show _=(Ix a 0:Value)from rfl),(show _=(.agg (e.cells de0).toArray:Value)from rfl),(show _=(Iv reg:Value)from rfl),(show _=(Ix x 0:Value)from rfl),(show _=(Iv (e.ev.arg):Value)from rfl),zl⟩,⟨(ifpC F).symm,oe.ev.arg⟩,ao⟩
 rintro _ w781 ⟨s,ρj2,rfl,ap,eo⟩
 refine za (R0 fun _=>st (aS (Iv 0) (zb (za (zt (zZ (fun mq σ A=> ∃(k:Nat) (ρ:Env),mq=l.length-k∧σ=yf ρ [(0,Ix a 0),(4,Ix x 0),(6,Iv s),(7,Iw k)]∧(k≤l.length)∧(∀j,j<k→(l.getD j default).group<s)∧Sep G W ((Blk x (e.cells de0).toArray 57)::(Blk a #[Iv (p.ptyp),Iv (p.pfield),Iv (p.pgroup),Iv (p.pby),Iv (p.pmake),t] 149)::(RowE (α:=Row) own 70 t l)::Rs) A) ⟨0,_,rfl,sSf,zY _,(fun j h=>absurd h (yO j)),eo⟩ ?_))))))
 rintro m784 σ785 w783 ⟨k,ρl1,rfl,rfl,hkk,hlt,z⟩
 refine za (za (zF kr (st (mV (Iw k) (st (mV (Ix a 0) (st (zm (b:=a) (o:=0) rfl (st (xH rfl (st (lD t nT rfl (zd (z.b1) rfl) (st (zC (n:=l.length) oT rfl ax.1 (st (zK (k:=.i64) (a:=((k:Nat):Int)) (b:=((l.length:Nat):Int)) rfl rfl (st (mV (.bool (decide (((k:Nat):Int)<((l.length:Nat):Int)))) (stc (V:=Ix a 0) rfl rfl (fun er=>?_) ?_)))))))))))))))))))
 have hl788:=tD er
 exact mV (Ix a 0) rflB
 refine stc (V:=Ix a 0) rfl rfl (fun bN=>?_) ?_
 have hl790:=tD bN
 exact zm (b:=a) (o:=0) (ifpC bN) rflB
 refine stc (V:=Ix a 5) rfl rfl (fun bO=>?_) ?_
 have hl792:=tD bO
 exact xH (ifpC bO) rflB
 refine stc (V:=t) rfl rfl (fun bP=>?_) ?_
 have hl794:=tD bP
 exact lD t nT (ifpC bP) (zd (z.b1) rfl) rflB
 refine stc (V:=Iw k) rfl rfl (fun es=>?_) ?_
 have hl796:=tD es
 exact mV (Iw k) rflB
 refine stc (V:=Ix (sb t) (so t+k*3)) rfl rfl (fun aI=>?_) ?_
 have hl798:=tD aI
 have et:k<l.length:=bo
 exact zf (k:=3) (i:=k) oT kT (ifpC aI) ax.1 (ifpC aI) et rflB
 refine stc (V:=Ix (sb t) (so t+k*3)) rfl rfl (fun bQ=>?_) ?_
 have hl801:=tD bQ
 exact zaq (ifpC bQ) rflB
 refine stc (V:=Iv ((l.getD k default).group)) rfl rfl (fun bR=>?_) ?_
 have hl803:=tD bR
 have eu:k<l.length:=bo
 obtain⟨_,_,cd,rfl,hoke804⟩:=z.rowAtD (i:=2) (j:=k) rfl eu
 exact lD (Iv ((l.getD k default).group)) lT (ifpC bR) (cd.get (j:=0) rfl) rflB
 refine stc (V:=Iv s) rfl rfl (fun ew=>?_) ?_
 have hl807:=tD ew
 exact mV (Iv s) rflB
 refine stc (V:=.bool (decide (((l.getD k default).group)<s))) rfl rfl (fun aJ=>?_) ?_
 have hl809:=tD aJ
 exact zK (k:=.i64) (a:=(l.getD k default).group) (b:=s) (ifpC aJ) (ifpC aJ) rflB
 refine st (zx (b:=decide (((k:Nat):Int)<((l.length:Nat):Int))) (b':=decide (((l.getD k default).group)<s)) rfl (fun hbp=>(ifpC hbp)) (zb ?_))
 cases aq:(decide (((k:Nat):Int)<((l.length:Nat):Int)))&&(decide (((l.getD k default).group)<s))
 try simp only[zi]at aq
 refine ze rfl (ya (zR (za (za (zF kr (st (mV (Iw k) (st (mV (Ix a 0) (st (zm (b:=a) (o:=0) rfl (st (xH rfl (st (lD t nT rfl (zd (z.b1) rfl) (st (zC (n:=l.length) oT rfl ax.1 (st (zK (k:=.i64) (a:=((k:Nat):Int)) (b:=((l.length:Nat):Int)) rfl rfl (st (mV (.bool (decide (((k:Nat):Int)<((l.length:Nat):Int)))) (stc (V:=Ix a 0) rfl rfl (fun ex=>?_) ?_))))))))))))))))))))))
 have hl812:=tD ex
 exact mV (Ix a 0) rflB
 refine stc (V:=Ix a 0) rfl rfl (fun bS=>?_) ?_
 have hl814:=tD bS
 exact zm (b:=a) (o:=0) (ifpC bS) rflB
 refine stc (V:=Ix a 5) rfl rfl (fun bT=>?_) ?_
 have hl816:=tD bT
 exact xH (ifpC bT) rflB
 refine stc (V:=t) rfl rfl (fun bU=>?_) ?_
 have hl818:=tD bU
 exact lD t nT (ifpC bU) (zd (z.b1) rfl) rflB
 refine stc (V:=Iw k) rfl rfl (fun ey=>?_) ?_
 have hl820:=tD ey
 exact mV (Iw k) rflB
 refine stc (V:=Ix (sb t) (so t+k*3)) rfl rfl (fun aK=>?_) ?_
 have hl822:=tD aK
 have ez:k<l.length:=bo
 exact zf (k:=3) (i:=k) oT kT (ifpC aK) ax.1 (ifpC aK) ez rflB
 refine stc (V:=Ix (sb t) (so t+k*3)) rfl rfl (fun bV=>?_) ?_
 have hl825:=tD bV
 exact zaq (ifpC bV) rflB
 refine stc (V:=Iv ((l.getD k default).group)) rfl rfl (fun bW=>?_) ?_
 have hl827:=tD bW
 have eA:k<l.length:=bo
 obtain⟨_,_,ce,rfl,hoke828⟩:=z.rowAtD (i:=2) (j:=k) rfl eA
 exact lD (Iv ((l.getD k default).group)) lT (ifpC bW) (ce.get (j:=0) rfl) rflB
 refine stc (V:=Iv s) rfl rfl (fun eB=>?_) ?_
 have hl831:=tD eB
 exact mV (Iv s) rflB
 refine stc (V:=.bool (decide (((l.getD k default).group)=s))) rfl rfl (fun aL=>?_) ?_
 have hl833:=tD aL
 exact zS (k:=.i64) (a:=(l.getD k default).group) (b:=s) (ifpC aL) (ifpC aL) rflB
 refine st (zx (b:=decide (((k:Nat):Int)<((l.length:Nat):Int))) (b':=decide (((l.getD k default).group)=s)) rfl (fun hbp=>(ifpC hbp)) (zb ?_))
 cases ar:(decide (((k:Nat):Int)<((l.length:Nat):Int)))&&(decide (((l.getD k default).group)=s))
 try simp only[zi]at ar
 refine ze rfl (zp (za (R0 fun _=>st (mV (Ix a 0) (st (mV (Ix a 0) (st (zm (b:=a) (o:=0) rfl (st (xH rfl (st (lD t nT rfl (zd (z.b1) rfl) ?_))))))))))))
 have eC:Row.Ok (⟨0,0,0⟩:Row):=⟨(show InR (0)from dc),(show InR (0)from dc),(show InR (0)from dc)⟩
 refine st (zV (parts':=[]) (v:=.agg ((⟨0,0,0⟩:Row).cells).toArray) rfl (by simp+zetaDelta [Instr.build,Instr.fill,go_sem,xA]) (st (zH (k:=3) (parts':=[(0,.agg ((⟨0,0,0⟩:Row).cells).toArray)]) (c:=((⟨0,0,0⟩:Row).cells).toArray) oT kT kR (by decide) rfl (by kernel_rfl) ?_)))
 intro w838 b837 eD
 have bX:=z.new eD
 have cf:=bX.b0
 refine st (yq (src:=own) (bytes:=24) (x1:=(⟨0,0,0⟩:Row)) ((bX.s4_dbc).emp1) el67 rfl rfl cf (fun _ _ _=>(show _ from⟨rfl,eC⟩)) yqb rfl ?_)
 intro m w840 aM
 have aN:=aM.r0
 have hr846s:_*24≤_:=aN.2
 refine st (zm (b:=a) (o:=0) rfl (st (xH rfl (stn (ym (v:=m) (c:=[Iv (p.ptyp),Iv (p.pfield),Iv (p.pgroup),Iv (p.pby),Iv (p.pmake),t]) (c':=[Iv (p.ptyp),Iv (p.pfield),Iv (p.pgroup),Iv (p.pby),Iv (p.pmake),m]) Tryz.sizeOf67 rfl rfl (aM.b2) aN.1.one rfl rfl ?_)))))
 intro w847 eE
 have aO:=aM.pt2 eE
 refine zb (za (za (R0 fun _=>st (mV (Ix a 0) (st (zm (b:=a) (o:=0) rfl (st (xH rfl (st (lD m nT rfl (zd (aO.b2) rfl) (st (zC (n:=(l++[(⟨0,0,0⟩:Row)]).length) oT rfl aN.1 ?_))))))))))))
 have eF:InR ((((l++[(⟨0,0,0⟩:Row)]).length)-1:Nat):Int):=bo
 refine st (xK (r:=((((l++[(⟨0,0,0⟩:Row)]).length)-1:Nat):Int)) (k:=.i64) (a:=(((l++[(⟨0,0,0⟩:Row)]).length:Nat):Int)) (b:=1) rfl rfl (by rw[show((((l++[(⟨0,0,0⟩:Row)]).length:Nat):Int)-1:Int)=((((l++[(⟨0,0,0⟩:Row)]).length)-1:Nat):Int)from bo];exact zw eF) (st (aS (Iw (((l++[(⟨0,0,0⟩:Row)]).length)-1)) (zb (zt ?_)))))
 have fc:((l++[(⟨0,0,0⟩:Row)]).length)-1=l.length:=by first|omega|(simp only[List.length_append,List.length_cons,List.length_nil];omega)
 rw[←zbC]at aO
 refine zZ (fun mq σ A=> ∃(q:Nat) (ρ:Env),mq=q-k∧σ=yf ρ [(0,Ix a 0),(4,Ix x 0),(6,Iv s),(7,Iw k),(8,Iw q)]∧(k≤q∧q≤l.length)∧Sep G W ((RowE (α:=Row) own 70 m (shl l q))::(Blk x (e.cells de0).toArray 57)::(Blk a #[Iv (p.ptyp),Iv (p.pfield),Iv (p.pgroup),Iv (p.pby),Iv (p.pmake),m] 149)::Rs) A) ⟨(((l++[(⟨0,0,0⟩:Row)]).length)-1),_,rfl,sSf,⟨by omega,by omega⟩,(by rw[fc];exact aO)⟩ ?_
 rintro m852 σ853 w851 ⟨q,ρl2,rfl,rfl,fd,aP⟩
 have au:=aP.r0
 have hr855s:_*24≤_:=au.2
 have hsl3:=KW fd.2
 refine za (za (R0 fun _=>st (mV (Iw q) (st (mV (Iw k) (st (xh (k:=.i64) (a:=((q:Nat):Int)) (b:=((k:Nat):Int)) rfl rfl (zb ?_))))))))
 cases av:decide (((k:Nat):Int)<((q:Nat):Int))
 have av:=fD av
 refine ze rfl (ya (zR ?_))
 refine WD4 ((fun aA ay aB=>WF [fun vals A=>Sep G W (aA::ay::aB::Rs) A,fun vals A=>(vals 11=(.agg ((xb p (⟨s,0,0⟩:Row) e.ev.arg).cells).toArray:Value))∧((xb p (⟨s,0,0⟩:Row) e.ev.arg).Ok)∧Sep G W (aB::aA::ay::Rs) A,fun vals A=>(vals 11=(.agg ((xb p (⟨s,0,0⟩:Row) e.ev.arg).cells).toArray:Value))∧((xb p (⟨s,0,0⟩:Row) e.ev.arg).Ok)∧Sep G W ((RowE (α:=Row) own 70 m ((shl l q).set k (xb p (⟨s,0,0⟩:Row) e.ev.arg)))::aB::ay::Rs) A]) (RowE (α:=Row) own 70 m (shl l q)) cm (Blk a #[Iv (p.ptyp),Iv (p.pfield),Iv (p.pgroup),Iv (p.pby),Iv (p.pmake),m] 149)) (AF [Vl 0 (Ix a 0),Vl 1 (Ix a 0),Vl 2 (Ix a 5),Vl 3 m,Vl 4 (Iw k),Vl 5 (Ix a 0),Vl 6 (Iv s),Vl 7 (.agg ((⟨s,0,0⟩:Row).cells).toArray),Vl 8 (Ix x 0),Vl 9 (Ix x 8),Vl 10 (Iv (e.ev.arg)),fun _=>True,Vl 12 (Ix (sb m) (so m+k*3)),fun _=>True]) [[],[0],[0,1],[0,1,2],[],[],[],[6],[],[8],[8,9],[5,6,7,8,9,10],(rg 12),(rg 13)] [11,13] [(0,1),(0,1),(0,1),(0,1),(0,1),(0,0),(0,0),(0,0),(0,0),(0,0),(0,0),(0,0),(1,1),(1,1)] aP ⟨fun _ _ _ _ _ _ _=>obl rfl (mV (Ix a 0) dR),fun _ _ _ _ _ _ eG=>obl rfl (zm (b:=a) (o:=0) (eG 0 dc) dR),fun _ _ _ _ _ _ eH=>obl rfl (xH (eH 1 dc) dR),?_,fun _ _ _ _ _ _ _=>obl rfl (mV (Iw k) dR),fun _ _ _ _ _ _ _=>obl rfl (mV (Ix a 0) dR),fun _ _ _ _ _ _ _=>obl rfl (mV (Iv s) dR),?_,fun _ _ _ _ _ _ _=>obl rfl (xx rfl dR),fun _ _ _ _ _ _ cg=>obl rfl (xy (cg 8 dc) dR),ob1 0 fun _ _ (ch:Sep _ _ _ _) ci=>obl rfl (lD (Iv (e.ev.arg)) lT (ci 9 dc) (zd (ch.b1) rfl) dR),?_,?_,?_,zl⟩ ?_
 refine fun aQ _ _ eZ fa bY bZ=>?_
 have hkk:=xE eZ fa
 rcases hkk with rfl|rfl
 have eI:Sep _ _ _ _:=bY
 exact obl rfl (lD m nT (bZ 2 dc) (zd (eI.b2) rfl) dR)
 obtain⟨ac,B,eJ⟩:=bY
 exact obl rfl (lD m nT (bZ 2 dc) (zd (eJ.b0) rfl) dR)
 refine fun _ _ _ _ _ _ cj=>(obl rfl ?_)
 have ok1026:Row.Ok (⟨s,0,0⟩:Row):=⟨(show InR (s)from ap.2),(show InR (0)from dc),(show InR (0)from dc)⟩
 exact zV (parts':=[(0,Iv s)]) (v:=.agg ((⟨s,0,0⟩:Row).cells).toArray) (Za ⟨rfl,(cj 6 (by decide)),zl⟩) (by simp+zetaDelta [Instr.build,Instr.fill,go_sem,xA]) dR
 refine ob1 0 fun vals _ (eK:Sep _ _ _ _) aR=>(obl rfl ?_)
 have eL:Row.Ok (⟨s,0,0⟩:Row):=⟨(show InR (s)from ap.2),(show InR (0)from dc),(show InR (0)from dc)⟩
 refine(zW (f:=87) (vals:=[Ix a 0,.agg ((⟨s,0,0⟩:Row).cells).toArray,Iv (e.ev.arg)]) (cap:=[]) rfl (yM ⟨(aR 5 dc),(aR 7 dc),(aR 10 dc),zl⟩) oR (zbf (q:=(⟨s,0,0⟩:Row)) (arg:=e.ev.arg) eL oe.ev.arg (eK.mv2) ((by first|exact hcnt _ om|exact(by decide:(0:Int)≤0∧(0:Int)<4611686018427387904))) aT) ?_)
 rintro _ w945 ⟨rfl,B,eM⟩
 exact fun d g aC=>⟨(zA g (zA B eM)),zl⟩
 refine ob1 1 fun _ _ ck aU=>?_
 obtain⟨ac,B,hS1054⟩:=ck
 refine obl rfl ?_
 have cl:k<(shl l q).length:=bo
 exact zf (k:=3) (i:=k) oT kT (aU 3 dc) au.1 (aU 4 dc) cl dR
 refine ob1 1 fun _ _ eN eO=>?_
 obtain⟨ac,B,eP⟩:=eN
 refine obl rfl ?_
 refine(yJ (α:=Row) (j:=k) (o:=0) (u:=.agg ((xb p (⟨s,0,0⟩:Row) e.ev.arg).cells).toArray) (us:=(xb p (⟨s,0,0⟩:Row) e.ev.arg).cells) (x1:=(xb p (⟨s,0,0⟩:Row) e.ev.arg)) ((eP.mv1).emp1) kT bo (eO 12 (by decide)) ac rfl (yQ rfl) (yo ⟨rfl,rfl,rfl,zl⟩) (fun _ _ ad hel _=>(by have aV:=Src.len _ hel;have e0:ad.take 0++((xb p (⟨s,0,0⟩:Row) e.ev.arg).cells)++ad.drop (0+((xb p (⟨s,0,0⟩:Row) e.ev.arg).cells).length)=((xb p (⟨s,0,0⟩:Row) e.ev.arg).cells):=(by rw[List.drop_eq_nil_of_le (by rw[aV];exact yQ rfl)];simp);rw[e0];exact(show _ from⟨rfl,B⟩))) ?_)
 intro w966 ca
 have eQ:=ca.r0
 have hr970s:_*24≤_:=eQ.2
 exact fun d g aC=>⟨(zA ((aC 11 dc).trans ac) (zA B ca)),zl⟩
 intro vals eR cn hA1060
 obtain⟨ac,B,co⟩:=cn
 refine yg (kv:=[(0,Ix a 0),(4,Ix x 0),(6,Iv s),(7,Iw k),(8,Iw q),(142,Iw q),(143,Iw k),(144,.bool false)]) sEv (fun ρw1058=>(zb (Xe lR ?_)))
 have cp:Sep G W ((RefO a p ((shl l q).set k (xb p (⟨s,0,0⟩:Row) e.ev.arg)))::cm::Rs) eR:=RefO.close (v:=m) aT (co.mv1)
 refine⟨(shl l q).set k (xb p (⟨s,0,0⟩:Row) e.ev.arg),rfl,?_,(cp.s2_a)⟩
 obtain⟨⟨⟨⟨cq,cr⟩,cs⟩,ct⟩,cu⟩:=ab
 have hg:zD p e.ev reg=some s:=by
  rw[ap.1,aH.1]
  unfold zD
  (repeat' split)<;>first|rfl|(congr 1;omega)
 have hqk:q=k:=by omega
 subst hqk
 exact .inr ⟨⟨cq,cr,cs,ct,cu⟩,s,q,hg,by omega,hlt,.inr ⟨(by first|omega|(rcases ar with h|h;exact .inl (by omega);have:=aq;first|omega|skip)),rfl⟩⟩
 have av:=tD av
 refine zg rfl (zp (za (zt ?_)))
 refine WD4 ((fun TT=>WF [fun vals A=>Sep G W ((RowE (α:=Row) own 70 m (shl l q))::TT) A,fun vals A=>Sep G W ((RowE (α:=Row) own 70 m ((shl l q).set q ((shl l q).getD (q-1) default)))::TT) A]) (cm::(Blk a #[Iv (p.ptyp),Iv (p.pfield),Iv (p.pgroup),Iv (p.pby),Iv (p.pmake),m] 149)::Rs)) (AF [Vl 0 (Ix a 0),Vl 1 (Ix a 0),Vl 2 (Ix a 5),Vl 3 m,Vl 4 (Iw q),Vl 5 (Ix a 0),Vl 6 (Ix a 0),Vl 7 (Ix a 5),Vl 8 m,Vl 9 (Iw q),Vl 10 (Iw (q-1)),Vl 11 (Ix (sb m) (so m+(q-1)*3)),Vl 12 (.agg (((shl l q).getD (q-1) default).cells).toArray),Vl 13 (Ix (sb m) (so m+q*3)),fun _=>True]) [[],[0],[0,1],[0,1,2],[],[],[5],[5,6],[5,6,7],[],[9],[5,6,7,8,9,10],[5,6,7,8,9,10,11],(rg 13),(rg 14)] [14] [(0,0),(0,0),(0,0),(0,0),(0,0),(0,0),(0,0),(0,0),(0,0),(0,0),(0,0),(0,0),(0,0),(0,0),(0,0)] aP ⟨fun _ _ _ _ _ _ _=>obl rfl (mV (Ix a 0) dR),fun _ _ _ _ _ _ cv=>obl rfl (zm (b:=a) (o:=0) (cv 0 dc) dR),fun _ _ _ _ _ _ cw=>obl rfl (xH (cw 1 dc) dR),ob1 0 fun _ _ (cx:Sep _ _ _ _) cy=>obl rfl (lD m nT (cy 2 dc) (zd (cx.b2) rfl) dR),fun _ _ _ _ _ _ _=>obl rfl (mV (Iw q) dR),fun _ _ _ _ _ _ _=>obl rfl (mV (Ix a 0) dR),fun _ _ _ _ _ _ cz=>obl rfl (zm (b:=a) (o:=0) (cz 5 dc) dR),fun _ _ _ _ _ _ cA=>obl rfl (xH (cA 6 dc) dR),ob1 0 fun _ _ (cB:Sep _ _ _ _) cC=>obl rfl (lD m nT (cC 7 dc) (zd (cB.b2) rfl) dR),fun _ _ _ _ _ _ _=>obl rfl (mV (Iw q) dR),?_,?_,?_,?_,?_,zl⟩ ?_
 refine ob1 0 fun _ _ _ cD=>(obl rfl ?_)
 have cE:InR ((q-1:Nat):Int):=bo
 exact xK (r:=((q-1:Nat):Int)) (k:=.i64) (a:=((q:Nat):Int)) (b:=1) (cD 9 (by decide)) rfl (by rw[show(((q:Nat):Int)-1:Int)=((q-1:Nat):Int)from bo];exact zw cE) dR
 refine ob1 0 fun _ _ _ aW=>(obl rfl ?_)
 have cF:q-1<(shl l q).length:=bo
 exact zf (k:=3) (i:=q-1) oT kT (aW 8 dc) au.1 (aW 10 dc) cF dR
 refine ob1 0 fun _ _ (cG:Sep _ _ _ _) cH=>(obl rfl ?_)
 have cI:q-1<(shl l q).length:=bo
 obtain⟨_,_,cb,rfl,hoke1282⟩:=cG.rowAtD (i:=0) (j:=q-1) rfl cI
 exact zh (k:=3) mT kT rfl (cH 11 dc) cb dR
 refine ob1 0 fun _ _ _ aX=>(obl rfl ?_)
 have cJ:q<(shl l q).length:=bo
 exact zf (k:=3) (i:=q) oT kT (aX 3 dc) au.1 (aX 4 dc) cJ dR
 refine ob1 0 fun _ _ (cK:Sep _ _ _ _) aY=>(obl rfl ?_)
 have aZ:=cK.emp1
 have cM:q-1<(shl l q).length:=bo
 obtain⟨_,_,hce1183,rfl,bj⟩:=aZ.rowAtD (i:=0) (j:=q-1) rfl cM
 refine(yJ (α:=Row) (j:=q) (o:=0) (u:=.agg (((shl l q).getD (q-1) default).cells).toArray) (us:=((shl l q).getD (q-1) default).cells) (x1:=((shl l q).getD (q-1) default)) aZ kT bo (aY 13 (by decide)) (aY 12 (by decide)) rfl (yQ rfl) (yo ⟨rfl,rfl,rfl,zl⟩) (fun _ _ ad hel _=>(by have aV:=Src.len _ hel;have e0:ad.take 0++(((shl l q).getD (q-1) default).cells)++ad.drop (0+(((shl l q).getD (q-1) default).cells).length)=(((shl l q).getD (q-1) default).cells):=(by rw[List.drop_eq_nil_of_le (by rw[aV];exact yQ rfl)];simp);rw[e0];exact(show _ from⟨rfl,bj⟩))) ?_)
 intro w1181 ba
 have cN:=ba.r0
 have hr1186s:_*24≤_:=cN.2
 exact fun d g aC=>⟨ba,zl⟩
 intro vals w1294 cO hA1296
 have bb:Sep _ _ _ _:=cO
 refine yg (kv:=[(0,Ix a 0),(4,Ix x 0),(6,Iv s),(7,Iw k),(8,Iw q),(142,Iw q),(143,Iw k),(144,.bool true)]) sEv (fun ρw1294=>(zb (R0 fun _=>st (mV (Iw q) ?_))))
 have cP:InR ((q-1:Nat):Int):=bo
 refine st (xK (r:=((q-1:Nat):Int)) (k:=.i64) (a:=((q:Nat):Int)) (b:=1) rfl rfl (by rw[show(((q:Nat):Int)-1:Int)=((q-1:Nat):Int)from bo];exact zw cP) (st (aS (Iw (q-1)) (zb ?_))))
 rw[zah (by omega) (by omega)]at bb
 exact⟨_,by omega,q-1,_,rfl,sSf,by omega,bb⟩
 try simp only[zi]at ar
 refine zg rfl (za ?_)
 refine WD4 ((fun aA ay aB=>WF [fun vals A=>Sep G W (aA::ay::aB::Rs) A,fun vals A=>(vals 16=(.agg ((xb p (l.getD k default) e.ev.arg).cells).toArray:Value))∧((xb p (l.getD k default) e.ev.arg).Ok)∧Sep G W (ay::aA::aB::Rs) A,fun vals A=>(vals 16=(.agg ((xb p (l.getD k default) e.ev.arg).cells).toArray:Value))∧((xb p (l.getD k default) e.ev.arg).Ok)∧Sep G W ((RowE (α:=Row) own 70 t (l.set k (xb p (l.getD k default) e.ev.arg)))::ay::aA::Rs) A]) cm bi (RowE (α:=Row) own 70 t l)) (AF [Vl 0 (Ix a 0),Vl 1 (Ix a 0),Vl 2 (Ix a 5),Vl 3 t,Vl 4 (Iw k),Vl 5 (Ix a 0),Vl 6 (Ix a 0),Vl 7 (Ix a 0),Vl 8 (Ix a 5),Vl 9 t,Vl 10 (Iw k),Vl 11 (Ix (sb t) (so t+k*3)),Vl 12 (.agg ((l.getD k default).cells).toArray),Vl 13 (Ix x 0),Vl 14 (Ix x 8),Vl 15 (Iv (e.ev.arg)),fun _=>True,Vl 17 (Ix (sb t) (so t+k*3)),fun _=>True]) [[],[0],[0,1],[0,1,2],[],[],[],[6],[6,7],[6,7,8],[],[6,7,8,9,10],[6,7,8,9,10,11],[],[13],[13,14],[5,6,7,8,9,10,11,12,13,14,15],(rg 17),(rg 18)] [16,18] [(0,1),(0,1),(0,1),(0,1),(0,1),(0,0),(0,0),(0,0),(0,0),(0,0),(0,0),(0,0),(0,0),(0,0),(0,0),(0,0),(0,0),(1,1),(1,1)] z ⟨fun _ _ _ _ _ _ _=>obl rfl (mV (Ix a 0) dR),fun _ _ _ _ _ _ cQ=>obl rfl (zm (b:=a) (o:=0) (cQ 0 dc) dR),fun _ _ _ _ _ _ cR=>obl rfl (xH (cR 1 dc) dR),?_,fun _ _ _ _ _ _ _=>obl rfl (mV (Iw k) dR),fun _ _ _ _ _ _ _=>obl rfl (mV (Ix a 0) dR),fun _ _ _ _ _ _ _=>obl rfl (mV (Ix a 0) dR),fun _ _ _ _ _ _ cS=>obl rfl (zm (b:=a) (o:=0) (cS 6 dc) dR),fun _ _ _ _ _ _ cT=>obl rfl (xH (cT 7 dc) dR),ob1 0 fun _ _ (cU:Sep _ _ _ _) cV=>obl rfl (lD t nT (cV 8 dc) (zd (cU.b1) rfl) dR),fun _ _ _ _ _ _ _=>obl rfl (mV (Iw k) dR),?_,?_,fun _ _ _ _ _ _ _=>obl rfl (xx rfl dR),fun _ _ _ _ _ _ cW=>obl rfl (xy (cW 13 dc) dR),ob1 0 fun _ _ (cX:Sep _ _ _ _) cY=>obl rfl (lD (Iv (e.ev.arg)) lT (cY 14 dc) (zd (cX.b0) rfl) dR),?_,?_,?_,zl⟩ ?_
 refine fun aw _ _ eS eT bc bd=>?_
 have hkk:=xE eS eT
 rcases hkk with rfl|rfl
 have cZ:Sep _ _ _ _:=bc
 exact obl rfl (lD t nT (bd 2 dc) (zd (cZ.b1) rfl) dR)
 obtain⟨C,y,da⟩:=bc
 exact obl rfl (lD t nT (bd 2 dc) (zd (da.b0) rfl) dR)
 refine ob1 0 fun _ _ _ be=>(obl rfl ?_)
 have db:k<l.length:=bo
 exact zf (k:=3) (i:=k) oT kT (be 9 dc) ax.1 (be 10 dc) db dR
 refine ob1 0 fun _ _ (dd:Sep _ _ _ _) de=>(obl rfl ?_)
 have df:k<l.length:=bo
 obtain⟨_,_,cc,rfl,hoke1548⟩:=dd.rowAtD (i:=2) (j:=k) rfl df
 exact zh (k:=3) mT kT rfl (de 11 dc) cc dR
 refine ob1 0 fun vals _ (bf:Sep _ _ _ _) az=>(obl rfl ?_)
 have dg:k<l.length:=bo
 obtain⟨_,_,hce1424,rfl,bk⟩:=bf.rowAtD (i:=2) (j:=k) rfl dg
 refine(zW (f:=87) (vals:=[Ix a 0,.agg ((l.getD k default).cells).toArray,Iv (e.ev.arg)]) (cap:=[]) rfl (yM ⟨(az 5 dc),(az 12 dc),(az 15 dc),zl⟩) oR (zbf (q:=(l.getD k default)) (arg:=e.ev.arg) bk oe.ev.arg (bf.mv1) ((by first|exact hcnt _ om|exact(by decide:(0:Int)≤0∧(0:Int)<4611686018427387904))) aT) ?_)
 rintro _ w1428 ⟨rfl,y,dh⟩
 exact fun d g aC=>⟨(zA g (zA y dh)),zl⟩
 refine ob1 1 fun _ _ di bg=>?_
 obtain⟨C,y,hS1577⟩:=di
 refine obl rfl ?_
 have dj:k<l.length:=bo
 exact zf (k:=3) (i:=k) oT kT (bg 3 dc) ax.1 (bg 4 dc) dj dR
 refine ob1 1 fun _ _ dk dl=>?_
 obtain⟨C,y,dm⟩:=dk
 refine obl rfl ?_
 refine(yJ (α:=Row) (j:=k) (o:=0) (u:=.agg ((xb p (l.getD k default) e.ev.arg).cells).toArray) (us:=(xb p (l.getD k default) e.ev.arg).cells) (x1:=(xb p (l.getD k default) e.ev.arg)) ((dm.mv2).emp1) kT bo (dl 17 (by decide)) C rfl (yQ rfl) (yo ⟨rfl,rfl,rfl,zl⟩) (fun _ _ ad hel _=>(by have aV:=Src.len _ hel;have e0:ad.take 0++((xb p (l.getD k default) e.ev.arg).cells)++ad.drop (0+((xb p (l.getD k default) e.ev.arg).cells).length)=((xb p (l.getD k default) e.ev.arg).cells):=(by rw[List.drop_eq_nil_of_le (by rw[aV];exact yQ rfl)];simp);rw[e0];exact(show _ from⟨rfl,y⟩))) ?_)
 intro w1449 bh
 have dp:=bh.r0
 have hr1453s:_*24≤_:=dp.2
 exact fun d g aC=>⟨(zA ((aC 16 dc).trans C) (zA y bh)),zl⟩
 intro vals eU dq hA1583
 obtain⟨C,y,dr⟩:=dq
 refine yg (kv:=[(0,Ix a 0),(4,Ix x 0),(6,Iv s),(7,Iw k),(68,Iw k),(69,Ix a 0),(70,Ix a 0),(71,Ix a 5),(72,t),(73,Iw l.length),(74,.bool (decide (((k:Nat):Int)<((l.length:Nat):Int)))),(75,.bool (decide (((k:Nat):Int)<((l.length:Nat):Int)))),(86,.bool false),(89,Iw k),(90,Ix a 0),(91,Ix a 0),(92,Ix a 5),(93,t),(94,Iw l.length),(95,.bool (decide (((k:Nat):Int)<((l.length:Nat):Int)))),(96,.bool (decide (((k:Nat):Int)<((l.length:Nat):Int)))),(107,.bool true)]) sEv (fun ρw1581=>(zb (zq (zaW lR ?_))))
 have ds:Sep G W ((RefO a p (l.set k (xb p (l.getD k default) e.ev.arg)))::cm::Rs) eU:=RefO.close (v:=t) aT (dr.mv1)
 refine⟨l.set k (xb p (l.getD k default) e.ev.arg),rfl,?_,(ds.s2_a)⟩
 obtain⟨⟨⟨⟨cq,cr⟩,cs⟩,ct⟩,cu⟩:=ab
 have hg:zD p e.ev reg=some s:=by
  rw[ap.1,aH.1]
  unfold zD
  (repeat' split)<;>first|rfl|(congr 1;omega)
 exact .inr ⟨⟨cq,cr,cs,ct,cu⟩,s,k,hg,by omega,hlt,.inl ⟨by omega,ar.2,rfl⟩⟩
 try simp only[zi]at aq
 refine zg rfl (zp (zt (R0 fun _=>st (mV (Iw k) ?_))))
 have dt:InR ((k+1:Nat):Int):=bo
 refine st (zO (r:=((k+1:Nat):Int)) (k:=.i64) (a:=((k:Nat):Int)) (b:=1) rfl rfl (by rw[show(((k:Nat):Int)+1:Int)=((k+1:Nat):Int)from bo];exact zw dt) (st (aS (Iw (k+1)) (zb ?_))))
 exact⟨_,by omega,k+1,_,rfl,sSf,by omega,(fun j hj=>by rcases Nat.lt_or_eq_of_le (Nat.le_of_lt_succ hj)with h|h;exact hlt j h;subst h;exact aq.2),z⟩
 try simp only[zi]at ab
 refine zg rfl (zq (zaW lR ?_))
 have du:Sep G W ((RefO a p l)::cm::Rs) eX:=RefO.close (v:=t) aT (aa.s3_bca)
 refine⟨l,rfl,?_,(du.s2_a)⟩
 exact .inl ⟨(by rcases ab with(((h|h)|h)|h)|h;exact .inl h;exact .inr (.inl h);exact .inr (.inr (.inl h));exact .inr (.inr (.inr (.inl h)));exact .inr (.inr (.inr (.inr h)))),rfl⟩
theorem zbT {i:Int}(hi:InR i)(hS0:Sep G W Rs w)(hi2:0≤i∧i≤1000000):Ret Tryz.prog 74 [.int .i64 (i)] w (fun r w'=>r=(.agg ((⟨77+i, -9,3⟩:Row).cells).toArray:Value)∧((⟨77+i, -9,3⟩:Row).Ok)∧Sep G W Rs w'):=by
 refine zn (args:=[Iv i]) Tryz.func74 rfl rfl ?_
 let h:=((⟨77+i, -9,3⟩:Row).cells)
 refine za (R0 fun _=>st (zG kR ?_))
 intro w3 b2 f
 have c:=hS0.new f
 refine zb (za (R0 fun _=>st (mV (Iv i) ?_)))
 have d:InR (77+i):=by omega
 refine st (zO (r:=77+i) (k:=.i64) (a:=77) (b:=i) rfl rfl (zw d) ?_)
 have ok6:Row.Ok (⟨77+i, -9,3⟩:Row):=⟨(show InR (77+i)from d),(show InR (-9)from dc),(show InR (3)from dc)⟩
 refine st (zV (parts':=[(0,Iv (77+i)),(1,Iv (-9)),(2,Iv 3)]) (v:=.agg h.toArray) rfl (by simp+zetaDelta [Instr.build,Instr.fill,go_sem,xA]) (stn (zy (v:=.agg h.toArray) (c':=h.toArray) kT rfl rfl (c.b0) (yo ⟨rfl,rfl,rfl,zl⟩) yqc rfl ?_)))
 intro w7 g
 have e:=c.pt0 g
 refine zb (zq (Yd (b:=b2) Tryz.results74 mT kT rfl rfl (zo (e.b0)) ?_))
 refine⟨rfl,?_,(e.s1_)⟩
 exact⟨(show InR (77+i) by omega),(show InR (-9) by decide),(show InR 3 by decide)⟩
theorem zau {vx:Value}{x:List Row}(hS0:Sep G W ((RowE (α:=Row) own 70 vx x)::Rs) w)(hxl:x.length≤100000):Ret Tryz.prog 48 [vx] w (fun r w'=>r=(.tuple #[]:Value)∧Sep G W Rs w'):=by
 refine zn (args:=[vx]) Tryz.func48 rfl rfl ?_
 have v:=hS0.r0
 have hr1s:_*24≤_:=v.2
 refine za (R0 fun _=>st (aS (Iv 0) (zb (zt (zZ (fun mq σ A=> ∃(k:Nat) (c:List Row) (ρ:Env),mq=x.length-k∧σ=yf ρ [(0,vx),(2,Iw k)]∧(k≤x.length)∧(c.length=x.length)∧Sep G W ((RowE (α:=Row) own 70 vx c)::Rs) A) ⟨0,x,_,rfl,sSf,zY _,rfl,hS0⟩ ?_)))))
 rintro m3 σ4 w2 ⟨k,c,ρl1,rfl,rfl,hk,y,e⟩
 have f:=e.r0
 have hr6s:_*24≤_:=f.2
 refine za (za (R0 fun _=>st (mV (Iw k) (st (mV vx (st (zC (n:=c.length) oT rfl f.1 (st (zK (k:=.i64) (a:=((k:Nat):Int)) (b:=((c.length:Nat):Int)) rfl rfl (zb ?_))))))))))
 cases d:decide (((k:Nat):Int)<((c.length:Nat):Int))
 have d:=fD d
 refine ze rfl (ya (zR (Xe Tryz.results48 ?_)))
 refine⟨rfl,(e.s1_)⟩
 have d:=tD d
 refine zg rfl (zp (za (zt (R0 fun _=>st (mV vx (st (mV (Iw k) (st (mV (Iw k) ?_)))))))))
 have l:InR ((k+7:Nat):Int):=bo
 refine st (zO (r:=((k+7:Nat):Int)) (k:=.i64) (a:=((k:Nat):Int)) (b:=7) rfl rfl (by rw[show(((k:Nat):Int)+7:Int)=((k+7:Nat):Int)from bo];exact zw l) ?_)
 refine st (cL Tryz.call74 (zbT (i:=((k+7:Nat):Int)) l e bo) ?_)
 rintro _ w11 ⟨rfl,h,p⟩
 have q:k<c.length:=bo
 refine st (zf (k:=3) (i:=k) oT kT rfl f.1 rfl q ?_)
 refine stn (yJ (α:=Row) (j:=k) (o:=0) (u:=.agg ((⟨77+((k+7:Nat):Int), -9,3⟩:Row).cells).toArray) (us:=(⟨77+((k+7:Nat):Int), -9,3⟩:Row).cells) (x1:=(⟨77+((k+7:Nat):Int), -9,3⟩:Row)) (p.emp1) kT bo rfl rfl rfl (yQ rfl) (yo ⟨rfl,rfl,rfl,zl⟩) (fun _ _ m hel _=>(by have z:=Src.len _ hel;have B:m.take 0++((⟨77+((k+7:Nat):Int), -9,3⟩:Row).cells)++m.drop (0+((⟨77+((k+7:Nat):Int), -9,3⟩:Row).cells).length)=((⟨77+((k+7:Nat):Int), -9,3⟩:Row).cells):=(by rw[List.drop_eq_nil_of_le (by rw[z];exact yQ rfl)];simp);rw[B];exact(show _ from⟨rfl,h⟩))) ?_)
 intro w14 g
 have s:=g.r0
 have hr17s:_*24≤_:=s.2
 refine zb (R0 fun _=>st (mV (Iw k) ?_))
 have t:InR ((k+1:Nat):Int):=bo
 refine st (zO (r:=((k+1:Nat):Int)) (k:=.i64) (a:=((k:Nat):Int)) (b:=1) rfl rfl (by rw[show(((k:Nat):Int)+1:Int)=((k+1:Nat):Int)from bo];exact zw t) (st (aS (Iw (k+1)) (zb ?_))))
 exact⟨_,by omega,k+1,c.set k (⟨77+((k+7:Nat):Int), -9,3⟩:Row),_,rfl,sSf,by omega,(by simp only[List.length_set];exact y),g⟩
def RBase (b:Nat)(d:Dcl)(every:Nat)(evs:List Ev):HP:=WC (1≤every∧every≤9223372036854775807) (Ex1 fun vt=>Ex1 fun vp=>Ex1 fun ve=>Star [Blk b #[vt,vp,.int .i64 ((every:Nat):Int),ve] 96,RowE (α:=Typ) own 83 vt d.types,RowE (α:=Prj) own 73 vp d.projs,RowE (α:=Ev) own 55 ve evs])
section
variable {G:Nat→Prop}{W w:World}{As:List HP}{b every:Nat}{d:Dcl}{evs:List Ev}
theorem RBase.open (h:Sep G W (RBase b d every evs::As) w):(1≤every∧every≤9223372036854775807)∧ ∃vt vp ve,Sep G W (Blk b #[vt,vp,.int .i64 ((every:Nat):Int),ve] 96::RowE (α:=Typ) own 83 vt d.types::RowE (α:=Prj) own 73 vp d.projs::RowE (α:=Ev) own 55 ve evs::As) w:=by
 obtain⟨h0,h⟩:=h.openAnd
 obtain⟨vt,h⟩:=h.openEx
 obtain⟨vp,h⟩:=h.openEx
 obtain⟨ve,h⟩:=h.openEx
 exact⟨h0,vt,vp,ve,h.openStar⟩
theorem RBase.close {vt vp ve:Value}(h0:1≤every∧every≤9223372036854775807)(h:Sep G W (Blk b #[vt,vp,.int .i64 ((every:Nat):Int),ve] 96::RowE (α:=Typ) own 83 vt d.types::RowE (α:=Prj) own 73 vp d.projs::RowE (α:=Ev) own 55 ve evs::As) w):Sep G W (RBase b d every evs::As) w:=by
 have h:=Sep.closeStar (Bs:=[Blk b #[vt,vp,.int .i64 ((every:Nat):Int),ve] 96,RowE (α:=Typ) own 83 vt d.types,RowE (α:=Prj) own 73 vp d.projs,RowE (α:=Ev) own 55 ve evs]) h
 exact Sep.closeAnd h0 (Sep.closeEx (A:=fun vt=>Ex1 fun vp=>Ex1 fun ve=>Star [Blk b #[vt,vp,.int .i64 ((every:Nat):Int),ve] 96,RowE (α:=Typ) own 83 vt d.types,RowE (α:=Prj) own 73 vp d.projs,RowE (α:=Ev) own 55 ve evs]) vt (Sep.closeEx (A:=fun vp=>Ex1 fun ve=>Star [Blk b #[vt,vp,.int .i64 ((every:Nat):Int),ve] 96,RowE (α:=Typ) own 83 vt d.types,RowE (α:=Prj) own 73 vp d.projs,RowE (α:=Ev) own 55 ve evs]) vp (Sep.closeEx (A:=fun ve=>Star [Blk b #[vt,vp,.int .i64 ((every:Nat):Int),ve] 96,RowE (α:=Typ) own 83 vt d.types,RowE (α:=Prj) own 73 vp d.projs,RowE (α:=Ev) own 55 ve evs]) ve h)))
theorem RBase.sh (h:(RBase b d every evs).p w G):(1≤every∧every≤9223372036854775807)∧ ∃vt vp ve,(Blk b #[vt,vp,.int .i64 ((every:Nat):Int),ve] 96).p w G∧RdS w G vt d.types∧RdS w G vp d.projs∧RdS w G ve evs:=by
 obtain⟨h0,vt,vp,ve,h⟩:=h
 exact⟨h0,vt,vp,ve,Star.at_ h (i:=0) rfl,RowE.rd (T:=83) (Star.at_ h (i:=1) rfl),RowE.rd (T:=73) (Star.at_ h (i:=2) rfl),RowE.rd (T:=55) (Star.at_ h (i:=3) rfl)⟩
end
theorem VZ (d:Dcl)(p:Prj)(l:List Ev):(Zn d l p).length≤l.length:=by
 unfold Zn
 rw[(ZT _).length_eq,List.length_map]
 exact(Zs d p l).len
theorem JP {d:Dcl}{p:Prj}{l:List Ev}(hl:l.length≤1000): ∀j,j<(Zn d l p).length→0≤((Zn d l p).getD j default).count∧((Zn d l p).getD j default).count<4611686018427387904:=by
 intro j hj
 have hm:(Zn d l p).getD j default∈Zn d l p:=by rw[zJ _ hj];exact List.getElem_mem hj
 have h1:=(WZ (Zs d p l)).1 hm
 have h2:=Kf (Zs d p l) ((Zn d l p).getD j default).group
 rw[h1,Option.getD_some]at h2
 omega
theorem QS {d:Dcl}{p:Prj}{l:List Ev}{k:Nat}{reg:Int}{l':List Row}(hk:k<l.length)(hp:VW p)(hr:reg=WT d p (zk d (l.take (k+1))) (l.getD k default))(h:Kt p (Zn d (l.take k) p) (ye d (zk d (l.take k)) (l.getD k default)) reg l'):l'=Zn d (l.take (k+1)) p:=by
 have hs:l.take (k+1)=l.take k++[l.getD k default]:=List.take_getD (d:=default) hk
 unfold Zn at h⊢
 rw[Qp (Zs d p (l.take k)) (fun hn=>absurd hp.2.2 hn) h,hr,hs,XX]
theorem XT {vl:Value}{l:List Ev}(hl:RdS W G vl l)(hS0:Sep G W Rs w):Ret Tryz.prog 12 [vl] w (fun r w'=> ∃(v:Value),r=(v:Value)∧Sep G W ((RowE (α:=Ev) own 55 v l)::Rs) w'):=by
 have hls:_*96≤_:=hl.small
 refine zn (args:=[vl]) Tryz.func12 rfl rfl ?_
 refine za (R0 fun _=>st (aS Iz (zb (za (R0 fun _=>st (aS Iz (zb (za (za (R0 fun _=>st (aS (Iv 0) (zb (zt ?_)))))))))))))
 have D:Sep G W ((RowE (α:=Ev) own 55 Iz ([]:List Ev))::Rs) w:=hS0.rowNil own 55
 refine zZ (fun mq σ H=> ∃(k:Nat) (vo:Value) (ρ:Env),mq=l.length-k∧σ=yf ρ [(0,vl),(4,Iw k),(3,vo)]∧(k≤l.length)∧Sep G W ((RowE (α:=Ev) own 55 vo (l.take k))::Rs) H) ⟨0,(Iz),_,rfl,sSf,zY _,D⟩ ?_
 rintro m3 σ4 w2 ⟨k,vo,ρl1,rfl,rfl,hkk,d⟩
 have E:=d.r0
 have hr6s:_*96≤_:=E.2
 refine za (za (R0 fun _=>st (mV (Iw k) (st (mV vl (st (zC (n:=l.length) pT rfl hl.sl (st (zK (k:=.i64) (a:=((k:Nat):Int)) (b:=((l.length:Nat):Int)) rfl rfl (zb ?_))))))))))
 cases h:decide (((k:Nat):Int)<((l.length:Nat):Int))
 have h:=fD h
 refine ze rfl (ya (zR (za (R0 fun _=>st (mV vo (st (aS vo (zb (zq (zU Tryz.results12 (show _=(vo:Value)from rfl) ?_))))))))))
 have hkn:k=l.length:=by omega
 rw[hkn,List.take_length]at d
 refine⟨vo,rfl,d⟩
 have h:=tD h
 refine zg rfl (zp (za (zt (R0 fun _=>st (mV vo (st (mV vl (st (mV (Iw k) ?_)))))))))
 have F:k<l.length:=bo
 refine st (zf (k:=10) (i:=k) pT qT rfl hl.sl rfl F ?_)
 have m:k<l.length:=bo
 obtain⟨x,f,j⟩:=hl.evD m
 have hsm11:((l.getD k default).deps).length*8≤140737488355328:=f.small
 have q:=d.cells x (hl.foot (ne_of_lt m))
 refine st (zh (k:=10) mR qT rfl rfl q (st (cL Tryz.call40 (Zu (e:=(l.getD k default)) f j d) ?_)))
 rintro _ w14 ⟨t,rfl,o⟩
 have y:=o.r0
 have hr16s:_*8≤_:=y.2
 refine st (zH (k:=10) (parts':=[(0,.agg ((l.getD k default).cells t).toArray)]) (c:=((l.getD k default).cells t).toArray) pT qT Tryz.zeroValue55 dc rfl kr ?_)
 intro w19 b18 z
 have p:=o.new z
 have s:=p.b0
 refine st (yq (src:=own) (bytes:=96) (x1:=(l.getD k default)) (p.s3_cb) Us rfl rfl s (fun _ _ I=>⟨_,rfl,RowE.soft I,j⟩) yqb rfl ?_)
 intro u w21 g
 have A:=g.r0
 have hr26s:_*96≤_:=A.2
 refine st (aS u (zb (R0 fun _=>st (mV (Iw k) ?_))))
 have B:InR ((k+1:Nat):Int):=bo
 refine st (zO (r:=((k+1:Nat):Int)) (k:=.i64) (a:=((k:Nat):Int)) (b:=1) rfl rfl (by rw[show(((k:Nat):Int)+1:Int)=((k+1:Nat):Int)from bo];exact zw B) (st (aS (Iw (k+1)) (zb ?_))))
 have C:(l.take (k+1))=(l.take k)++[(l.getD k default)]:=(List.take_getD om)
 rw[←C]at g
 exact⟨_,by omega,k+1,u,_,rfl,sSf,by omega,g⟩
theorem zdE {d:Dcl}{dd0:Value}(hdd0:RdS W G dd0 d.types){dd1:Value}(hdd1:RdS W G dd1 d.projs)(od:d.Ok){every:Int}(hevery:InR every)(hS0:Sep G W Rs w):Ret Tryz.prog 10 [.agg (d.cells dd0 dd1).toArray,.int .i64 (every)] w (fun r w'=> ∃(b:Nat) (ev:Nat),r=(.pointer (some ⟨b,0,none⟩):Value)∧(((ev:Nat):Int)=max 1 every)∧Sep G W ((RBase b d ev ([]:List Ev))::Rs) w'):=by
 have hdd0s:_*24≤_:=hdd0.small
 have hdd1s:_*40≤_:=hdd1.small
 refine zn (args:=[.agg (d.cells dd0 dd1).toArray,Iv every]) Tryz.func10 rfl rfl ?_
 refine za (R0 fun _=>st (zX (v:=.agg (d.cells dd0 dd1).toArray) rfl ?_))
 intro w3 b2 t
 have l:=hS0.new t
 refine st (aS (.pointer none) (zb (za (R0 fun _=>st (zh (k:=2) uT vT rfl rfl (zo (l.b0)) (st (cL Tryz.call39 (Wx (d:=d) hdd0 hdd1 od l) ?_)))))))
 rintro _ w7 ⟨e,g,rfl,m⟩
 have u:=m.r1
 have hr9s:_*40≤_:=u.2
 refine st (mV (Iv every) (st (Ul (k:=.i64) (a:=1) (b:=every) rfl rfl (st (zV (parts':=[(0,.agg (d.cells e g).toArray),(1,Iv (max 1 every))]) (v:=.agg #[e,g,Iv (max 1 every),(Iz)]) rfl yqe (st (zX (v:=.agg #[e,g,Iv (max 1 every),(Iz)]) rfl ?_)))))))
 intro x f o
 have h:=m.new o
 refine st (aS (Ix f 0) (zb (zq (zU Tryz.results10 (show _=(Ix f 0:Value)from rfl) ?_))))
 obtain⟨c,i⟩: ∃n:Nat,((n:Nat):Int)=max 1 every:=⟨(max 1 every).toNat,by omega⟩
 rw[←i]at h
 have j:1≤c∧c≤9223372036854775807:=by omega
 have p:Sep _ _ ((RowE (α:=Typ) own 83 e d.types)::_) _:=TypW.row (h.mv1)
 have q:Sep _ _ ((RowE (α:=Ev) own 55 Iz ([]:List Ev))::_) _:=p.rowNil own 55
 have s:Sep G W ((RBase f d c ([]:List Ev))::(Blk b2 (d.cells dd0 dd1).toArray 25)::Rs) x:=RBase.close (d:=d) (every:=c) (evs:=([]:List Ev)) j (q.s5_cbdae)
 refine⟨f,c,rfl,?_,(s.s2_a)⟩
 exact i
end
section
open Go.Proofs Go.RowKit
theorem JH {b:Nat}{d:Dcl}{every:Nat}{evs:List Ev}{vl:Value}{l:List Ev}(hl:RdS W G vl l)(hS0:Sep G W ((RBase b d every evs)::Rs) w)(hfew:evs.length≤1000):Ret Tryz.prog 14 [.pointer (some ⟨b,0,none⟩),vl] w (fun r w'=>r=(.int .i64 (((l.length-yv every l evs):Nat):Int):Value)∧Sep G W ((RBase b d every l)::Rs) w'):=by
 have hls:_*96≤_:=hl.small
 refine zn (args:=[Ix b 0,vl]) Tryz.func14 rfl rfl ?_
 obtain⟨bL,m,q,j,bT⟩:=RBase.open hS0
 have X:Sep G W ((Blk b #[m,q,Iw every,j] 96)::(RowE (α:=Typ) own 83 m d.types)::(RowE (α:=Prj) own 73 q d.projs)::(RowE (α:=Ev) own 55 j evs)::Rs) w:=bT
 have bU:=X.r1
 have hr6s:_*24≤_:=bU.2
 have bV:=X.r2
 have hr7s:_*40≤_:=bV.2
 have bW:=X.r3
 have hr8s:_*96≤_:=bW.2
 refine za (R0 fun _=>st (aS (Iv 0) (zb (za ?_))))
 obtain⟨ah,bM,Y,bN,bO⟩:=(X.mv3).lend
 have s:=RowE.rd bM
 have hrd16s:_*96≤_:=s.small
 refine R0 fun _=>st (aS (Iv 0) (zb (za (zt (zZ (fun mq σ wq=> ∃(p:Nat) (ρ:Env),mq=l.length-p∧σ=yf ρ [(0,Ix b 0),(1,vl),(4,Iv 0),(5,Iw p)]∧(p≤l.length∧p≤evs.length)∧(∀i,i<p→Zq (l.getD i default) (evs.getD i default))∧Sep ah w ((Blk b #[m,q,Iw every,j] 96)::(RowE (α:=Typ) own 83 m d.types)::(RowE (α:=Prj) own 73 q d.projs)::Rs) wq) ⟨0,_,rfl,sSf,⟨zY _,zY _⟩,(fun i h=>absurd h (yO i)),bN⟩ ?_)))))
 rintro m18 σ19 w17 ⟨p,ρl1,rfl,rfl,hpl,hsm,bP⟩
 refine za (za ?_)
 refine WD4 (WF [fun vals wq=>Sep ah w ((Blk b #[m,q,Iw every,j] 96)::(RowE (α:=Typ) own 83 m d.types)::(RowE (α:=Prj) own 73 q d.projs)::Rs) wq]) (AF [Vl 0 (Iw p),Vl 1 vl,Vl 2 (Iw l.length),Vl 3 (.bool (decide (((p:Nat):Int)<((l.length:Nat):Int)))),Vl 4 (.bool (decide (((p:Nat):Int)<((l.length:Nat):Int)))),Vl 5 (if(decide (((p:Nat):Int)<((l.length:Nat):Int)))=true then Iw p else undef),Vl 6 (if(decide (((p:Nat):Int)<((l.length:Nat):Int)))=true then Ix b 0 else undef),Vl 7 (if(decide (((p:Nat):Int)<((l.length:Nat):Int)))=true then Ix b 0 else undef),Vl 8 (if(decide (((p:Nat):Int)<((l.length:Nat):Int)))=true then Ix b 3 else undef),Vl 9 (if(decide (((p:Nat):Int)<((l.length:Nat):Int)))=true then j else undef),Vl 10 (if(decide (((p:Nat):Int)<((l.length:Nat):Int)))=true then Iw evs.length else undef),Vl 11 (if(decide (((p:Nat):Int)<((l.length:Nat):Int)))=true then .bool (decide (((p:Nat):Int)<((evs.length:Nat):Int)))else undef),Vl 12 (.bool ((decide (((p:Nat):Int)<((l.length:Nat):Int)))&&(decide (((p:Nat):Int)<((evs.length:Nat):Int))))),Vl 13 (.bool ((decide (((p:Nat):Int)<((l.length:Nat):Int)))&&(decide (((p:Nat):Int)<((evs.length:Nat):Int))))),Vl 14 (if((decide (((p:Nat):Int)<((l.length:Nat):Int)))&&(decide (((p:Nat):Int)<((evs.length:Nat):Int))))=true then vl else undef),Vl 15 (if((decide (((p:Nat):Int)<((l.length:Nat):Int)))&&(decide (((p:Nat):Int)<((evs.length:Nat):Int))))=true then Iw p else undef),Vl 16 (if((decide (((p:Nat):Int)<((l.length:Nat):Int)))&&(decide (((p:Nat):Int)<((evs.length:Nat):Int))))=true then Ix (sb vl) (so vl+p*10)else undef),Vl 17 (if((decide (((p:Nat):Int)<((l.length:Nat):Int)))&&(decide (((p:Nat):Int)<((evs.length:Nat):Int))))=true then Ix (sb vl) (so vl+p*10)else undef),Vl 18 (if((decide (((p:Nat):Int)<((l.length:Nat):Int)))&&(decide (((p:Nat):Int)<((evs.length:Nat):Int))))=true then .agg #[Iv ((l.getD p default).origin),Iv ((l.getD p default).seq)]else undef),Vl 19 (if((decide (((p:Nat):Int)<((l.length:Nat):Int)))&&(decide (((p:Nat):Int)<((evs.length:Nat):Int))))=true then Ix b 0 else undef),Vl 20 (if((decide (((p:Nat):Int)<((l.length:Nat):Int)))&&(decide (((p:Nat):Int)<((evs.length:Nat):Int))))=true then Ix b 0 else undef),Vl 21 (if((decide (((p:Nat):Int)<((l.length:Nat):Int)))&&(decide (((p:Nat):Int)<((evs.length:Nat):Int))))=true then Ix b 3 else undef),Vl 22 (if((decide (((p:Nat):Int)<((l.length:Nat):Int)))&&(decide (((p:Nat):Int)<((evs.length:Nat):Int))))=true then j else undef),Vl 23 (if((decide (((p:Nat):Int)<((l.length:Nat):Int)))&&(decide (((p:Nat):Int)<((evs.length:Nat):Int))))=true then Iw p else undef),Vl 24 (if((decide (((p:Nat):Int)<((l.length:Nat):Int)))&&(decide (((p:Nat):Int)<((evs.length:Nat):Int))))=true then Ix (sb j) (so j+p*10)else undef),Vl 25 (if((decide (((p:Nat):Int)<((l.length:Nat):Int)))&&(decide (((p:Nat):Int)<((evs.length:Nat):Int))))=true then Ix (sb j) (so j+p*10)else undef),Vl 26 (if((decide (((p:Nat):Int)<((l.length:Nat):Int)))&&(decide (((p:Nat):Int)<((evs.length:Nat):Int))))=true then .agg #[Iv ((evs.getD p default).origin),Iv ((evs.getD p default).seq)]else undef),Vl 27 (if((decide (((p:Nat):Int)<((l.length:Nat):Int)))&&(decide (((p:Nat):Int)<((evs.length:Nat):Int))))=true then .bool (decide ((l.getD p default).origin=(evs.getD p default).origin∧(l.getD p default).seq=(evs.getD p default).seq))else undef),Vl 28 (.bool (((decide (((p:Nat):Int)<((l.length:Nat):Int)))&&(decide (((p:Nat):Int)<((evs.length:Nat):Int))))&&(decide ((l.getD p default).origin=(evs.getD p default).origin∧(l.getD p default).seq=(evs.getD p default).seq))))]) [[],[],[1],[0,1,2],(rg 4),(rg 5),(rg 5),[0,1,2,3,4,6],[0,1,2,3,4,6,7],[0,1,2,3,4,6,7,8],[0,1,2,3,4,6,7,8,9],(rg 11),(rg 12),(rg 13),(rg 14),(rg 14),(rg 16),(rg 17),(rg 18),(rg 14),[0,1,2,3,4,5,6,7,8,9,10,11,12,13,19],[0,1,2,3,4,5,6,7,8,9,10,11,12,13,19,20],[0,1,2,3,4,5,6,7,8,9,10,11,12,13,19,20,21],(rg 14),[0,1,2,3,4,5,6,7,8,9,10,11,12,13,19,20,21,22,23],[0,1,2,3,4,5,6,7,8,9,10,11,12,13,19,20,21,22,23,24],[0,1,2,3,4,5,6,7,8,9,10,11,12,13,19,20,21,22,23,24,25],(rg 27),(rg 28)] [] [(0,0),(0,0),(0,0),(0,0),(0,0),(0,0),(0,0),(0,0),(0,0),(0,0),(0,0),(0,0),(0,0),(0,0),(0,0),(0,0),(0,0),(0,0),(0,0),(0,0),(0,0),(0,0),(0,0),(0,0),(0,0),(0,0),(0,0),(0,0),(0,0)] bP ⟨fun _ _ _ _ _ _ _=>obl rfl (mV (Iw p) dR),fun _ _ _ _ _ _ _=>obl rfl (mV vl dR),ob1 0 fun _ _ _ aK=>obl rfl (zC (n:=l.length) pT (aK 1 dc) (zv hl Y).sl dR),ob1 0 fun _ _ _ ai=>obl rfl (zK (k:=.i64) (a:=((p:Nat):Int)) (b:=((l.length:Nat):Int)) (ai 0 dc) (ai 2 dc) dR),fun _ _ _ _ _ _ aL=>obl rfl (zP (v:=.bool (decide (((p:Nat):Int)<((l.length:Nat):Int)))) (aL 3 dc) dR),?_,?_,?_,?_,?_,?_,?_,fun _ _ _ _ _ _ aj=>obl rfl (zx (b:=decide (((p:Nat):Int)<((l.length:Nat):Int))) (b':=decide (((p:Nat):Int)<((evs.length:Nat):Int))) (aj 4 dc) (fun hbp=>(zr (aj 11 dc) (ifpC hbp))) dR),fun _ _ _ _ _ _ aM=>obl rfl (zP (v:=.bool ((decide (((p:Nat):Int)<((l.length:Nat):Int)))&&(decide (((p:Nat):Int)<((evs.length:Nat):Int))))) (aM 12 dc) dR),?_,?_,?_,?_,?_,?_,?_,?_,?_,?_,?_,?_,?_,?_,fun _ _ _ _ _ _ ak=>obl rfl (zx (b:=(decide (((p:Nat):Int)<((l.length:Nat):Int)))&&(decide (((p:Nat):Int)<((evs.length:Nat):Int)))) (b':=decide ((l.getD p default).origin=(evs.getD p default).origin∧(l.getD p default).seq=(evs.getD p default).seq)) (ak 13 dc) (fun hbp=>(zr (ak 27 dc) (ifpC hbp))) dR),zl⟩ ?_
 refine fun _ _ _ _ _ _ aN=>(zN rfl rfl (aN 4 dc) (fun M=>?_) yd)
 have hl351:=tD M
 exact mV (Iw p) (yc M)
 refine fun _ _ _ _ _ _ aO=>(zN rfl rfl (aO 4 dc) (fun N=>?_) yd)
 have hl360:=tD N
 exact mV (Ix b 0) (yc N)
 refine fun _ _ _ _ _ _ al=>(zN rfl rfl (al 4 dc) (fun z=>?_) yd)
 have hl370:=tD z
 exact zm (b:=b) (o:=0) (zr (al 6 dc) (ifpC z)) (yc z)
 refine fun _ _ _ _ _ _ am=>(zN rfl rfl (am 4 dc) (fun A=>?_) yd)
 have hl380:=tD A
 exact YE (zr (am 7 dc) (ifpC A)) (yc A)
 refine ob1 0 fun _ _ (aP:Sep _ _ _ _) an=>(zN rfl rfl (an 4 dc) (fun B=>?_) yd)
 have hl391:=tD B
 exact lD j sT (zr (an 8 dc) (ifpC B)) (zd (aP.b0) rfl) (yc B)
 refine ob1 0 fun _ _ _ ao=>(zN rfl rfl (ao 4 dc) (fun C=>?_) yd)
 have hl402:=tD C
 exact zC (n:=evs.length) pT (zr (ao 9 dc) (ifpC C)) s.sl (yc C)
 refine ob1 0 fun _ _ _ Z=>(zN rfl rfl (Z 4 dc) (fun t=>?_) yd)
 have hl414:=tD t
 exact zK (k:=.i64) (a:=((p:Nat):Int)) (b:=((evs.length:Nat):Int)) (zr (Z 5 dc) (ifpC t)) (zr (Z 10 dc) (ifpC t)) (yc t)
 refine fun _ _ _ _ _ _ aQ=>(zN rfl rfl (aQ 13 dc) (fun O=>?_) yd)
 have aR:=O
 try simp only[zi]at aR
 exact mV vl (yc O)
 refine fun _ _ _ _ _ _ aT=>(zN rfl rfl (aT 13 dc) (fun P=>?_) yd)
 have aU:=P
 try simp only[zi]at aU
 exact mV (Iw p) (yc P)
 refine ob1 0 fun _ _ _ aa=>(zN rfl rfl (aa 13 dc) (fun u=>?_) yd)
 have aV:=u
 try simp only[zi]at aV
 have aW:p<l.length:=bo
 exact zf (k:=10) (i:=p) pT qT (zr (aa 14 dc) (ifpC u)) (zv hl Y).sl (zr (aa 15 dc) (ifpC u)) aW (yc u)
 refine fun _ _ _ _ _ _ ap=>(zN rfl rfl (ap 13 dc) (fun D=>?_) yd)
 have aX:=D
 try simp only[zi]at aX
 exact xe (zr (ap 16 dc) (ifpC D)) (yc D)
 refine ob1 0 fun _ _ (aY:Sep _ _ _ _) aq=>(zN rfl rfl (aq 13 dc) (fun E=>?_) yd)
 have aZ:=E
 try simp only[zi]at aZ
 have ar:p<l.length:=bo
 obtain⟨aD,af,hoke482⟩:=(zv hl Y).evD ar
 have hsm484:((l.getD p default).deps).length*8≤140737488355328:=af.small
 have aE:=aY.cells aD ((zv hl Y).foot (ne_of_lt ar))
 exact zh (k:=2) (cs:=[Iv ((l.getD p default).origin),Iv ((l.getD p default).seq)]) pR qR rfl (zr (aq 17 dc) (ifpC E)) (CellsAt.sub aE 0 (cs2:=[Iv ((l.getD p default).origin),Iv ((l.getD p default).seq)]) rfl) (yc E)
 refine fun _ _ _ _ _ _ ba=>(zN rfl rfl (ba 13 dc) (fun Q=>?_) yd)
 have bb:=Q
 try simp only[zi]at bb
 exact mV (Ix b 0) (yc Q)
 refine fun _ _ _ _ _ _ au=>(zN rfl rfl (au 13 dc) (fun F=>?_) yd)
 have bc:=F
 try simp only[zi]at bc
 exact zm (b:=b) (o:=0) (zr (au 19 dc) (ifpC F)) (yc F)
 refine fun _ _ _ _ _ _ av=>(zN rfl rfl (av 13 dc) (fun H=>?_) yd)
 have bd:=H
 try simp only[zi]at bd
 exact YE (zr (av 20 dc) (ifpC H)) (yc H)
 refine ob1 0 fun _ _ (be:Sep _ _ _ _) aw=>(zN rfl rfl (aw 13 dc) (fun I=>?_) yd)
 have bf:=I
 try simp only[zi]at bf
 exact lD j sT (zr (aw 21 dc) (ifpC I)) (zd (be.b0) rfl) (yc I)
 refine fun _ _ _ _ _ _ bg=>(zN rfl rfl (bg 13 dc) (fun R=>?_) yd)
 have bh:=R
 try simp only[zi]at bh
 exact mV (Iw p) (yc R)
 refine ob1 0 fun _ _ _ ab=>(zN rfl rfl (ab 13 dc) (fun x=>?_) yd)
 have bi:=x
 try simp only[zi]at bi
 have bj:p<evs.length:=bo
 exact zf (k:=10) (i:=p) pT qT (zr (ab 22 dc) (ifpC x)) s.sl (zr (ab 23 dc) (ifpC x)) bj (yc x)
 refine fun _ _ _ _ _ _ ax=>(zN rfl rfl (ax 13 dc) (fun J=>?_) yd)
 have bk:=J
 try simp only[zi]at bk
 exact xe (zr (ax 24 dc) (ifpC J)) (yc J)
 refine ob1 0 fun _ _ (bl:Sep _ _ _ _) ay=>(zN rfl rfl (ay 13 dc) (fun K=>?_) yd)
 have bm:=K
 try simp only[zi]at bm
 have az:p<evs.length:=bo
 obtain⟨aF,ag,hoke569⟩:=s.evD az
 have hsm571:((evs.getD p default).deps).length*8≤140737488355328:=ag.small
 have aG:=bl.cells aF (s.foot (ne_of_lt az))
 exact zh (k:=2) (cs:=[Iv ((evs.getD p default).origin),Iv ((evs.getD p default).seq)]) pR qR rfl (zr (ay 25 dc) (ifpC K)) (CellsAt.sub aG 0 (cs2:=[Iv ((evs.getD p default).origin),Iv ((evs.getD p default).seq)]) rfl) (yc K)
 refine ob1 0 fun _ _ _ ac=>(zN rfl rfl (ac 13 dc) (fun y=>?_) yd)
 have bn:=y
 try simp only[zi]at bn
 exact ZP (e:=decide ((l.getD p default).origin=(evs.getD p default).origin∧(l.getD p default).seq=(evs.getD p default).seq)) (xs:=#[Iv ((l.getD p default).origin),Iv ((l.getD p default).seq)]) (ys:=#[Iv ((evs.getD p default).origin),Iv ((evs.getD p default).seq)]) KP (zr (ac 18 dc) (ifpC y)) (zr (ac 26 dc) (ifpC y)) (yc y)
 intro vals w593 bp bq
 have S:Sep _ _ _ _:=bp
 have bQ:=bq 28 dc
 refine yg (kv:=[(0,Ix b 0),(1,vl),(4,Iv 0),(5,Iw p),(35,.bool (((decide (((p:Nat):Int)<((l.length:Nat):Int)))&&(decide (((p:Nat):Int)<((evs.length:Nat):Int))))&&(decide ((l.getD p default).origin=(evs.getD p default).origin∧(l.getD p default).seq=(evs.getD p default).seq))))]) ⟨rfl,rfl,rfl,rfl,(by exact bQ),zl⟩ (fun ρw593=>(zb ?_))
 cases T:((decide (((p:Nat):Int)<((l.length:Nat):Int)))&&(decide (((p:Nat):Int)<((evs.length:Nat):Int))))&&(decide ((l.getD p default).origin=(evs.getD p default).origin∧(l.getD p default).seq=(evs.getD p default).seq))
 have V:=T
 try simp only[zi]at T
 have aH:Zo l evs=p:=Yc hpl.1 hpl.2 hsm (fun h1 h2 h3=>by
  have h9:=V
  rw[decide_eq_true (show(p:Int)<((l.length:Nat):Int) by omega),decide_eq_true (show(p:Int)<((evs.length:Nat):Int) by omega),Bool.true_and,Bool.true_and]at h9
  exact fD h9 h3)
 have hdm9:p/every*every≤p:=Nat.div_mul_le_self ..
 have hdq9:p/every≤p:=Nat.div_le_self ..
 have hdz9:(0:Int)≤((p/every:Nat):Int):=Int.natCast_nonneg _
 have hdy9:(0:Int)≤((p/every*every:Nat):Int):=Int.natCast_nonneg _
 refine ze rfl (ya (zR (za (R0 fun _=>st (mV (Iw p) (st (aS (Iw p) (zb (za (za (R0 fun _=>st (mV (Iw p) (st (mV (Ix b 0) (st (zm (b:=b) (o:=0) rfl (st (YE rfl (st (lD j sT rfl (zd (S.b0) rfl) (st (zC (n:=evs.length) pT rfl s.sl (st (zK (k:=.i64) (a:=((p:Nat):Int)) (b:=((evs.length:Nat):Int)) rfl rfl (zb (Yu (fun σ wq=> ∃(L:Nat) (ρ:Env),σ=yf ρ [(0,Ix b 0),(1,vl),(4,Iv 0),(6,Iw L)]∧(L=yv every l evs∧L≤l.length)∧Sep ah w ((Blk b #[m,q,Iw every,j] 96)::(RowE (α:=Typ) own 83 m d.types)::(RowE (α:=Prj) own 73 q d.projs)::Rs) wq) ?_ ?_))))))))))))))))))))))))))
 cases U:decide (((p:Nat):Int)<((evs.length:Nat):Int))
 have U:=fD U
 refine ze rfl (zp ?_)
 exact⟨rfl,p,_,yG ⟨(show _=(Ix b 0:Value)from rfl),(show _=(vl:Value)from rfl),(show _=(Iv 0:Value)from rfl),(show _=(Iw p:Value)from rfl),zl⟩,⟨(VB aH om).symm,by omega⟩,S⟩
 have U:=tD U
 refine zg rfl ?_
 refine WD4 (WF [fun vals wq=>Sep ah w ((Blk b #[m,q,Iw every,j] 96)::(RowE (α:=Typ) own 83 m d.types)::(RowE (α:=Prj) own 73 q d.projs)::Rs) wq]) (AF [Vl 0 (Iw p),Vl 1 (Ix b 0),Vl 2 (Ix b 0),Vl 3 (Ix b 2),Vl 4 (Iw every),Vl 5 (Iw (p/every)),Vl 6 (Ix b 0),Vl 7 (Ix b 0),Vl 8 (Ix b 2),Vl 9 (Iw every),Vl 10 (Iw ((p/every)*every)),Vl 11 (Iw ((p/every)*every))]) [[],[],[1],[1,2],[1,2,3],(rg 5),[],[6],[6,7],[6,7,8],(rg 10),(rg 11)] [] [(0,0),(0,0),(0,0),(0,0),(0,0),(0,0),(0,0),(0,0),(0,0),(0,0),(0,0),(0,0)] S ⟨fun _ _ _ _ _ _ _=>obl rfl (mV (Iw p) dR),fun _ _ _ _ _ _ _=>obl rfl (mV (Ix b 0) dR),fun _ _ _ _ _ _ br=>obl rfl (zm (b:=b) (o:=0) (br 1 (by decide)) dR),fun _ _ _ _ _ _ bs=>obl rfl (zaa (bs 2 (by decide)) dR),ob1 0 fun _ _ (bt:Sep _ _ _ _) bu=>obl rfl (lD (Iw every) lT (bu 3 (by decide)) (zd (bt.b0) rfl) dR),ob1 0 fun _ _ _ aA=>obl rfl (Kj (r:=((p/every:Nat):Int)) (aA 0 (by decide)) (aA 4 (by decide)) (by omega) (by rw[show Int.tdiv (((p:Nat):Int)) (((every:Nat):Int))=((p/every:Nat):Int)from(Int.ofNat_tdiv _ _).symm];exact zw (by omega)) dR),fun _ _ _ _ _ _ _=>obl rfl (mV (Ix b 0) dR),fun _ _ _ _ _ _ bv=>obl rfl (zm (b:=b) (o:=0) (bv 6 (by decide)) dR),fun _ _ _ _ _ _ bw=>obl rfl (zaa (bw 7 (by decide)) dR),ob1 0 fun _ _ (bx:Sep _ _ _ _) bz=>obl rfl (lD (Iw every) lT (bz 8 (by decide)) (zd (bx.b0) rfl) dR),?_,fun _ _ _ _ _ _ bA=>obl rfl (zM (v:=Iw ((p/every)*every)) (bA 10 (by decide)) dR),zl⟩ ?_
 refine ob1 0 fun _ _ _ aB=>(obl rfl ?_)
 have bB:InR (((p/every)*every:Nat):Int):=bo
 exact Uw (r:=(((p/every)*every:Nat):Int)) (k:=.i64) (a:=((p/every:Nat):Int)) (b:=((every:Nat):Int)) (aB 5 (by decide)) (aB 9 (by decide)) (by rw[show(((p/every:Nat):Int)*((every:Nat):Int):Int)=(((p/every)*every:Nat):Int)from bo];exact zw bB) dR
 intro vals w776 bC bD
 have bE:Sep _ _ _ _:=bC
 have bR:=bD 11 dc
 refine yg (kv:=[(0,Ix b 0),(1,vl),(4,Iv 0),(5,Iw p),(35,.bool false),(38,Iw p),(6,Iw ((p/every)*every)),(39,Iw p),(40,Ix b 0),(41,Ix b 0),(42,Ix b 3),(43,j),(44,Iw evs.length),(45,.bool true)]) ⟨rfl,rfl,rfl,rfl,rfl,rfl,(by exact bR),rfl,rfl,rfl,rfl,rfl,rfl,rfl,zl⟩ (fun ρw776=>(zb ?_))
 exact⟨rfl,p/every*every,_,yG ⟨(show _=(Ix b 0:Value)from rfl),(show _=(vl:Value)from rfl),(show _=(Iv 0:Value)from rfl),(show _=(Iw ((p/every)*every):Value)from rfl),zl⟩,⟨(Xa aH om).symm,by omega⟩,bE⟩
 rintro _ w781 ⟨L,ρj1,rfl,bX,bF⟩
 refine za ?_
 have bG:=bO _ _ bF
 refine R0 fun _=>st (mV (Ix b 0) (st (mV vl (st (cL Tryz.call12 (XT (l:=l) (vl:=vl) hl bG) ?_)))))
 rintro aJ w785 ⟨_,rfl,ad⟩
 have aC:=ad.r0
 have hr787s:_*96≤_:=aC.2
 refine st (zm (b:=b) (o:=0) rfl (st (YE rfl (stn (ym (v:=aJ) (c:=[m,q,Iw every,j]) (c':=[m,q,Iw every,aJ]) Tryz.sizeOf26 rfl rfl (ad.b2) aC.1.one rfl rfl ?_)))))
 intro bS bH
 refine zb (za (R0 fun _=>st (mV vl (st (zC (n:=l.length) pT rfl hl.sl (st (mV (Iw L) ?_)))))))
 have bI:InR ((l.length-L:Nat):Int):=bo
 refine st (xK (r:=((l.length-L:Nat):Int)) (k:=.i64) (a:=((l.length:Nat):Int)) (b:=((L:Nat):Int)) rfl rfl (by rw[show(((l.length:Nat):Int)-((L:Nat):Int):Int)=((l.length-L:Nat):Int)from bo];exact zw bI) (st (aS (Iw (l.length-L)) (zb (zq (zU Tryz.results14 (show _=(Iw (l.length-L):Value)from rfl) ?_))))))
 have bJ:Sep G W ((RBase b d every l)::(RowE (α:=Ev) own 55 j evs)::Rs) bS:=RBase.close (d:=d) (every:=every) (evs:=l) bL ((ad.pt2 bH).s5_cdeab)
 refine⟨?_,(bJ.s2_a)⟩
 rw[bX.1]
 have V:=T
 try simp only[zi]at T
 refine zg rfl (zp (zt (R0 fun _=>st (mV (Iw p) ?_))))
 have bK:InR ((p+1:Nat):Int):=bo
 refine st (zO (r:=((p+1:Nat):Int)) (k:=.i64) (a:=((p:Nat):Int)) (b:=1) rfl rfl (by rw[show(((p:Nat):Int)+1:Int)=((p+1:Nat):Int)from bo];exact zw bK) (st (aS (Iw (p+1)) (zb ?_))))
 exact⟨_,by omega,p+1,_,rfl,sSf,⟨by omega,by omega⟩,(xf hsm (by have h9:=V;simp only[Bool.and_eq_true,decide_eq_true_eq]at h9;exact h9.2)),S⟩
theorem Vd (d:Dcl)(l:List Ev):Ran d (zk d l):=⟨l,rfl⟩
theorem Vs {d:Dcl}{dd0:Value}(hdd0:RdS W G dd0 d.types){dd1:Value}(hdd1:RdS W G dd1 d.projs)(od:d.Ok){vl:Value}{l:List Ev}(hl:RdS W G vl l)(hS0:Sep G W Rs w)(hd:DclOk d)(hfew:l.length≤1000):Ret Tryz.prog 45 [.agg (d.cells dd0 dd1).toArray,vl] w (fun r w'=> ∃(b:Nat),r=(.pointer (some ⟨b,0,none⟩):Value)∧Sep G W ((RefV b d (zk d l))::Rs) w'):=by
 refine zn Tryz.func45 rfl rfl ?_
 refine za (R0 fun _=>st (zX rfl ?_))
 intro w3 b2 B
 have u:=hS0.new B
 refine st (aS (.pointer none) (zb (za (R0 fun _=>st (zh uT vT rfl rfl (zo (u.b0)) (st (cL rR (Vc hdd0 hdd1 od u) ?_)))))))
 rintro _ w6 ⟨g,rfl,C⟩
 refine st (aS (Ix g 0) (zb (za (za (R0 fun _=>st (aS (Iv 0) (zb (zt (zZ (fun mq σ D=> ∃k ρ,mq=l.length-k∧σ=yf ρ [(1,vl),(2,Ix b2 0),(5,Ix g 0),(6,Iw k)]∧(k≤l.length)∧Sep G W ((RefV g d (zk d (l.take k)))::(Blk b2 (d.cells dd0 dd1).toArray 25)::Rs) D) ⟨0,_,rfl,sSf,zY _,C⟩ ?_)))))))))
 rintro m9 σ10 w8 ⟨k,ρl1,rfl,rfl,hkk,h⟩
 refine za (za (R0 fun _=>st (mV (Iw k) (st (mV vl (st (zC pT rfl hl.sl (st (zK rfl rfl (zb ?_))))))))))
 cases f:decide (((k:Nat):Int)<((l.length:Nat):Int))
 have f:=fD f
 refine ze rfl (ya (zR (za (R0 fun _=>st (mV (Ix g 0) (st (aS (Ix g 0) (zb (zq (zU Tryz.results45 (show _=(Ix g 0:Value)from rfl) ?_))))))))))
 have j:=h.s2_a
 have hkn:k=l.length:=by omega
 rw[hkn,List.take_length]at j
 refine⟨g,rfl,j⟩
 have f:=tD f
 refine zg rfl (zp (za (zt (R0 fun _=>st (mV (Ix g 0) (st (mV vl (st (mV (Iw k) ?_)))))))))
 have x:k<l.length:=bo
 refine st (zf (k:=10) pT qT rfl hl.sl rfl x ?_)
 have m:k<l.length:=bo
 obtain⟨s,c,o⟩:=hl.evD m
 have t:=h.cells s (hl.foot (ne_of_lt m))
 refine st (zh mR qT rfl rfl t (st (cL sR (Qm c o h hd (⟨_,rfl⟩) ((by rw[xc,List.length_take];omega))) ?_)))
 rintro _ w21 ⟨v19,rfl,hok20,p⟩
 have y:=p.r1
 refine zb (R0 fun _=>st (mV (Iw k) ?_))
 have z:InR ((k+1:Nat):Int):=bo
 refine st (zO (r:=((k+1:Nat):Int)) rfl rfl (by rw[show(((k:Nat):Int)+1:Int)=((k+1:Nat):Int)from bo];exact zw z) (st (aS (Iw (k+1)) (zb ?_))))
 have q:=p.s3_ac
 have A:(zk d (l.take (k+1)))=((zk d (l.take k))++[ye d (zk d (l.take k)) (l.gd k)]):=(Wd om)
 rw[←A]at q
 exact⟨_,by omega,k+1,_,rfl,sSf,by omega,q⟩
theorem QH {b:Nat}{d:Dcl}{every:Nat}{evs:List Ev}(hb:(RBase b d every evs).p W G){ty:Int}(hty:InR ty){no:Int}(hno:InR no)(hS0:Sep G W Rs w)(hd:DclOk d)(hfew:evs.length≤1000):Ret Tryz.prog 21 [.pointer (some ⟨b,0,none⟩),.int .i64 (ty),.int .i64 (no)] w (fun r w'=> ∃(v:Value),r=(.tuple #[.agg ((yr d (ty,no) (zk d evs)).cells v).toArray,.bool ((zj d (zk d evs) (ty,no)).isSome)]:Value)∧Sep G W ((RowE (α:=Cel) own 105 v (stL d (ty,no) (zk d evs)))::Rs) w'):=by
 refine zn (args:=[Ix b 0,Iv ty,Iv no]) Tryz.func21 rfl rfl ?_
 obtain⟨hev1,t,u,x,aj,ak,al,am⟩:=RBase.sh hb
 have hsm9:d.types.length*24≤140737488355328:=ak.small
 have hsm10:d.projs.length*40≤140737488355328:=al.small
 have hsm11:evs.length*96≤140737488355328:=am.small
 refine za (R0 fun _=>st (zG tR ?_))
 intro w14 y an
 refine st (aS (.bool false) (zb (za ?_)))
 refine WD4 ((fun F=>WF [fun vals s=>Sep G W (F::Rs) s,fun vals s=> ∃(c:Nat),(vals 8=(Ix c 0:Value))∧Sep G W ((RefV c d (zk d evs))::F::Rs) s,fun vals s=> ∃(c:Nat) (a:Value),(vals 8=(Ix c 0:Value))∧(vals 11=(.tuple #[.agg ((yr d (ty,no) (zk d evs)).cells a).toArray,.bool ((zj d (zk d evs) (ty,no)).isSome)]:Value))∧Sep G W ((RefV c d (zk d evs))::(RowE (α:=Cel) own 105 a (stL d (ty,no) (zk d evs)))::F::Rs) s,fun vals s=> ∃(c:Nat) (a:Value),(vals 8=(Ix c 0:Value))∧(vals 11=(.tuple #[.agg ((yr d (ty,no) (zk d evs)).cells a).toArray,.bool ((zj d (zk d evs) (ty,no)).isSome)]:Value))∧Sep G W ((RefV c d (zk d evs))::(RowE (α:=Cel) own 105 a (stL d (ty,no) (zk d evs)))::(Blk y ((yr d (ty,no) (zk d evs)).cells a).toArray 48)::Rs) s]) (Blk y #[Iv 0,(Iz)] 48)) (AF [Vl 0 (Ix b 0),Vl 1 (Ix b 0),Vl 2 (Ix b 0),Vl 3 (.agg (d.cells t u).toArray),Vl 4 (Ix b 0),Vl 5 (Ix b 0),Vl 6 (Ix b 3),Vl 7 x,fun _=>True,Vl 9 (Iv ty),Vl 10 (Iv no),fun _=>True,fun vals=> ∀(a:Value),vals 11=(.tuple #[.agg ((yr d (ty,no) (zk d evs)).cells a).toArray,.bool ((zj d (zk d evs) (ty,no)).isSome)]:Value)→vals 12=(.agg ((yr d (ty,no) (zk d evs)).cells a).toArray:Value),Vl 13 (.bool ((zj d (zk d evs) (ty,no)).isSome)),fun _=>True,Vl 15 (.bool ((zj d (zk d evs) (ty,no)).isSome))]) [[],[0],[0,1],[0,1,2],[],[4],[4,5],[4,5,6],(rg 8),[],[],(rg 11),(rg 12),(rg 12),(rg 14),(rg 15)] [8,11,14] [(0,0),(0,0),(0,0),(0,0),(0,0),(0,0),(0,0),(0,0),(0,0),(0,1),(0,1),(1,1),(2,2),(2,2),(2,2),(3,3)] (hS0.new an) ⟨fun _ _ _ _ _ _ _=>obl rfl (mV (Ix b 0) dR),fun _ _ _ _ _ _ I=>obl rfl (zm (b:=b) (o:=0) (I 0 dc) dR),fun _ _ _ _ _ _ J=>obl rfl (Vq (J 1 dc) dR),?_,fun _ _ _ _ _ _ _=>obl rfl (mV (Ix b 0) dR),fun _ _ _ _ _ _ K=>obl rfl (zm (b:=b) (o:=0) (K 4 dc) dR),fun _ _ _ _ _ _ L=>obl rfl (YE (L 5 dc) dR),ob1 0 fun _ _ (M:Sep _ _ _ _) N=>obl rfl (lD x sT (N 6 dc) (zd (M.gblk aj) rfl) dR),?_,fun _ _ _ _ _ _ _=>obl rfl (mV (Iv ty) dR),fun _ _ _ _ _ _ _=>obl rfl (mV (Iv no) dR),?_,?_,?_,?_,fun _ _ _ _ _ _ O=>obl rfl (zM (v:=.bool ((zj d (zk d evs) (ty,no)).isSome)) (O 13 dc) dR),zl⟩ ?_ (hlocA:=xi ⟨dA,dA,dA,dA,dA,dA,dA,dA,dT,dA,dA,dT,fun vals j n h=>fun a z=>(n 12 (.inl rfl)).trans (h a ((n 11 (.inr dc)).symm.trans z)),dA,dT,dA,zl⟩)
 refine ob1 0 fun _ _ (P:Sep _ _ _ _) Q=>(obl rfl ?_)
 have ok190:Dcl.Ok d:=⟨⟩
 exact zh (k:=2) (cs:=[t,u]) uT vT rfl (Q 2 dc) (CellsAt.sub (zo (P.gblk aj)) 0 (cs2:=[t,u]) rfl) dR
 refine ob1 0 fun vals _ (ao:Sep _ _ _ _) H=>(obl rfl ((zW (f:=45) (vals:=[.agg (d.cells t u).toArray,x]) (cap:=[]) rfl (yM ⟨(H 3 dc),(H 7 dc),zl⟩) uR (Vs (d:=d) (l:=evs) (vl:=x) ak al (⟨⟩:Dcl.Ok d) am ao hd hfew) ?_)))
 rintro _ w83 ⟨c,rfl,ap⟩
 exact fun j n m=>⟨(exiA c (zA n ap)),zl⟩
 refine ob1 1 fun vals _ R A=>?_
 obtain⟨c,g,S⟩:=R
 refine obl rfl ?_
 obtain⟨G107,B,hB110,T,U⟩:=S.lend
 obtain⟨vt113,vp114,ve115,hb116,V,X,Y⟩:=RefV.sh B
 have hsm120:d.types.length*24≤140737488355328:=V.small
 have hsm121:d.projs.length*40≤140737488355328:=X.small
 have hsm122:(zk d evs).length*120≤140737488355328:=Y.small
 refine(zW (f:=50) (vals:=[Ix c 0,Iv ty,Iv no]) (cap:=[]) rfl (yM ⟨g,(A 9 (by decide)),(A 10 (by decide)),zl⟩) vR (Xu (ty:=ty) (no:=no) B (by omega) (by omega) T hd ((Vd _ _)) ((by rw[xc];omega))) ?_)
 rintro _ w124 ⟨a,rfl,C⟩
 have Z:=C.r0
 have hr126s:_*32≤_:=Z.2
 have aa:=U _ _ C
 exact fun j n m=>⟨(exiA c (exiA a (zA ((m 8 dc).trans g) (zA n aa)))),zl⟩
 refine ob1 2 fun _ _ ab _=>?_
 obtain⟨c,a,g,e,hS237⟩:=ab
 refine obl rfl (zz (vs:=[.agg ((yr d (ty,no) (zk d evs)).cells a).toArray,.bool ((zj d (zk d evs) (ty,no)).isSome)]) (i:=0) (v:=.agg ((yr d (ty,no) (zk d evs)).cells a).toArray) e rfl (fun j n m=>⟨rfl,?_⟩))
 intro v123q z
 rw[m 11 (by decide)]at z;cases e.symm.trans z
 exact n
 refine ob1 2 fun _ _ ac _=>?_
 obtain⟨c,a,g,e,hS244⟩:=ac
 exact obl rfl (zz (vs:=[.agg ((yr d (ty,no) (zk d evs)).cells a).toArray,.bool ((zj d (zk d evs) (ty,no)).isSome)]) (i:=1) (v:=.bool ((zj d (zk d evs) (ty,no)).isSome)) e rfl dR)
 refine ob1 2 fun vals _ ad ae=>?_
 obtain⟨c,a,g,e,q⟩:=ad
 let p:=(yr d (ty,no) (zk d evs)).cells a
 have aq:vals 12=(.agg p.toArray:Value):=ae 12 dc a e
 refine obl rfl ?_
 have D:=q.r1
 have hr153s:_*32≤_:=D.2
 refine(zy (v:=.agg p.toArray) (c':=p.toArray) nR rfl aq (q.b2) (yo ⟨rfl,D.1.one,zl⟩) yqc rfl ?_)
 intro w151 af
 exact fun j n m=>⟨(exiA c (exiA a (zA ((m 8 dc).trans g) (zA ((m 11 dc).trans e) (q.pt2 af))))),zl⟩
 intro vals ar ag ah
 obtain⟨c,a,g,e,E⟩:=ag
 have au:=ah 15 dc
 refine yg (kv:=[(0,Ix b 0),(1,Iv ty),(2,Iv no),(6,Ix y 0),(7,.bool ((zj d (zk d evs) (ty,no)).isSome))]) ⟨rfl,rfl,rfl,rfl,(by exact au),zl⟩ (fun ρw252=>(zb (zq (ZV (b:=y) Tryz.results21 Tryz.isAgg48 nR rfl rfl (zo (E.b2)) (show _=(.bool ((zj d (zk d evs) (ty,no)).isSome):Value)from rfl) ?_))))
 have ai:Sep G W ((RowE (α:=Cel) own 105 a (stL d (ty,no) (zk d evs)))::Rs) ar:=E.sel 3 [1] (xq _ _) rfl rfl
 refine⟨a,rfl,ai⟩
theorem Kq {b:Nat}{d:Dcl}{every:Nat}{evs:List Ev}(hb:(RBase b d every evs).p W G)(hS0:Sep G W Rs w)(hd:DclOk d)(hfew:evs.length≤1000):Ret Tryz.prog 18 [.pointer (some ⟨b,0,none⟩)] w (fun r w'=> ∃(v:Value),r=(v:Value)∧Sep G W ((RowE (α:=Ent) own 57 v (zk d evs))::Rs) w'):=by
 refine zn (args:=[Ix b 0]) Tryz.func18 rfl rfl ?_
 obtain⟨hev1,m,n,q,R,S,T,U⟩:=RBase.sh hb
 have hsm9:d.types.length*24≤140737488355328:=S.small
 have hsm10:d.projs.length*40≤140737488355328:=T.small
 have hsm11:evs.length*96≤140737488355328:=U.small
 refine za (R0 fun _=>st (aS Iz (zb (za ?_))))
 refine WD4 (WF [fun vals x=>Sep G W Rs x,fun vals x=> ∃(c:Nat),(vals 8=(Ix c 0:Value))∧Sep G W ((RefV c d (zk d evs))::Rs) x,fun vals x=> ∃(c:Nat) (a:Value),(vals 8=(Ix c 0:Value))∧(vals 9=(a:Value))∧Sep G W ((RefV c d (zk d evs))::(RowE (α:=Ent) own 57 a (zk d evs))::Rs) x]) (AF [Vl 0 (Ix b 0),Vl 1 (Ix b 0),Vl 2 (Ix b 0),Vl 3 (.agg (d.cells m n).toArray),Vl 4 (Ix b 0),Vl 5 (Ix b 0),Vl 6 (Ix b 3),Vl 7 q,fun _=>True,fun _=>True,fun vals=> ∀(a:Value),vals 9=(a:Value)→vals 10=(a:Value)]) [[],[0],[0,1],[0,1,2],[],[4],[4,5],[4,5,6],(rg 8),(rg 9),(rg 10)] [8,9] [(0,0),(0,0),(0,0),(0,0),(0,0),(0,0),(0,0),(0,0),(0,0),(1,1),(2,2)] hS0 ⟨fun _ _ _ _ _ _ _=>obl rfl (mV (Ix b 0) dR),fun _ _ _ _ _ _ A=>obl rfl (zm (b:=b) (o:=0) (A 0 dc) dR),fun _ _ _ _ _ _ B=>obl rfl (Vq (B 1 dc) dR),?_,fun _ _ _ _ _ _ _=>obl rfl (mV (Ix b 0) dR),fun _ _ _ _ _ _ C=>obl rfl (zm (b:=b) (o:=0) (C 4 dc) dR),fun _ _ _ _ _ _ D=>obl rfl (YE (D 5 dc) dR),ob1 0 fun _ _ (E:Sep _ _ _ _) F=>obl rfl (lD q sT (F 6 dc) (zd (E.gblk R) rfl) dR),?_,?_,?_,zl⟩ ?_ (hlocA:=xi ⟨dA,dA,dA,dA,dA,dA,dA,dA,dT,dT,fun vals g j h=>fun a s=>(j 10 (.inl rfl)).trans (h a ((j 9 (.inr dc)).symm.trans s)),zl⟩)
 refine ob1 0 fun _ _ (H:Sep _ _ _ _) I=>(obl rfl ?_)
 have ok146:Dcl.Ok d:=⟨⟩
 exact zh (k:=2) (cs:=[m,n]) uT vT rfl (I 2 dc) (CellsAt.sub (zo (H.gblk R)) 0 (cs2:=[m,n]) rfl) dR
 refine ob1 0 fun vals _ (V:Sep _ _ _ _) y=>(obl rfl ((zW (f:=45) (vals:=[.agg (d.cells m n).toArray,q]) (cap:=[]) rfl (yM ⟨(y 3 dc),(y 7 dc),zl⟩) uR (Vs (d:=d) (l:=evs) (vl:=q) S T (⟨⟩:Dcl.Ok d) U V hd hfew) ?_)))
 rintro _ w79 ⟨c,rfl,X⟩
 exact fun g j t=>⟨(exiA c (zA j X)),zl⟩
 refine ob1 1 fun vals _ Y _=>?_
 obtain⟨c,i,Z⟩:=Y
 refine obl rfl ?_
 obtain⟨G89,z,hB92,aa,ab⟩:=Z.lend
 obtain⟨vt95,vp96,ve97,hb98,ac,J,K⟩:=RefV.sh z
 have hsm102:d.types.length*24≤140737488355328:=ac.small
 have hsm103:d.projs.length*40≤140737488355328:=J.small
 have hsm104:(zk d evs).length*120≤140737488355328:=K.small
 refine(zW (f:=46) (vals:=[Ix c 0]) (cap:=[]) rfl (yM ⟨i,zl⟩) Tryz.call46 (Uv z aa) ?_)
 rintro a w106 ⟨_,rfl,u⟩
 have L:=u.r0
 have hr108s:_*120≤_:=L.2
 have M:=ab _ _ u
 exact fun g j t=>⟨(exiA c (exiA a (zA ((t 8 dc).trans i) (zA j M)))),zl⟩
 refine ob1 2 fun _ _ N _=>?_
 obtain⟨c,a,i,e,hS181⟩:=N
 refine obl rfl (zM (v:=a) e (fun g j t=>⟨rfl,?_⟩))
 intro v105q s
 rw[t 9 (by decide)]at s;cases e.symm.trans s
 exact j
 intro vals w182 O P
 obtain⟨c,a,i,e,Q⟩:=O
 have ad:vals 10=(a:Value):=P 10 dc a e
 refine yg (kv:=[(0,Ix b 0),(2,a)]) ⟨rfl,(by exact ad),zl⟩ (fun ρw182=>(zb (zq (zU Tryz.results18 (show _=(a:Value)from rfl) ?_))))
 refine⟨a,rfl,(Q.s2_b)⟩
theorem zcJ {d:Dcl}{p:Prj}{L:List Ent}{e:Ev}(hp:0≤p.pby)(h:(zj d L (e.typ,e.agg)).isSome=false∨(((stL d (e.typ,e.agg) L).length:Nat):Int)≤p.pby):WT d p L e=0:=by
 unfold WT
 rw[if_neg]
 intro hlt
 rcases h with h|h
 ·by_cases hv:yw (e.typ,e.agg) L=0
  ·rw[(ZK (d:=d) hv).2.2,List.length_nil]at hlt;omega
  ·rw[(XE (d:=d) hv).1]at h;cases h
 ·omega
theorem zbY {d:Dcl}{p:Prj}{L:List Ent}{e:Ev}(h:((zj d L (e.typ,e.agg)).isSome&&decide (p.pby<(((stL d (e.typ,e.agg) L).length:Nat):Int)))=true):WT d p L e=((stL d (e.typ,e.agg) L).getD p.pby.toNat default).n:=by
 unfold WT
 rw[if_pos]
 rw[Bool.and_eq_true,decide_eq_true_eq]at h
 exact h.2
set_option maxHeartbeats 8000000 in
theorem zbR {b:Nat}{d:Dcl}{every:Nat}{evs:List Ev}(hb:(RBase b d every evs).p W G){q:Int}(hq:InR q)(hS0:Sep G W Rs w)(hd:DclOk d)(hfew:evs.length≤1000)(hp:Xq d):Ret Tryz.prog 47 [.pointer (some ⟨b,0,none⟩),.int .i64 (q)] w (fun r w'=> ∃(v:Value),r=(v:Value)∧Sep G W ((RowE (α:=Row) own 70 v (yR d evs q))::Rs) w'):=by
 refine zn (args:=[Ix b 0,Iv q]) Tryz.func47 rfl rfl ?_
 let bw:=(d.projs.getD q.toNat default).cells
 obtain⟨hev1,aT,C,aU,D,aV,x,E⟩:=RBase.sh hb
 have hsm9:d.types.length*24≤140737488355328:=aV.small
 have hsm10:d.projs.length*40≤140737488355328:=x.small
 have hsm11:evs.length*96≤140737488355328:=E.small
 refine za (R0 fun _=>st (aS Iz (zb (za (za (zF kr (st (mV (Iv q) (st (zK (k:=.i64) (a:=q) (b:=0) rfl rfl (st (mV (.bool (decide (q<0))) (stc (V:=Iv q) rfl rfl (fun aW=>?_) ?_)))))))))))))
 have hl13:=fD aW
 exact mV (Iv q) rflB
 refine stc (V:=Ix b 0) rfl rfl (fun aX=>?_) ?_
 have hl15:=fD aX
 exact mV (Ix b 0) rflB
 refine stc (V:=Ix b 0) rfl rfl (fun U=>?_) ?_
 have hl17:=fD U
 exact zm (b:=b) (o:=0) (ifpC U) rflB
 refine stc (V:=Ix b 0) rfl rfl (fun X=>?_) ?_
 have hl19:=fD X
 exact Vq (ifpC X) rflB
 refine stc (V:=Ix b 1) rfl rfl (fun Y=>?_) ?_
 have hl21:=fD Y
 exact xJ (ifpC Y) rflB
 refine stc (V:=C) rfl rfl (fun Z=>?_) ?_
 have hl23:=fD Z
 exact lD C wR (ifpC Z) (zd (hS0.gblk D) rfl) rflB
 refine stc (V:=Iw d.projs.length) rfl rfl (fun aa=>?_) ?_
 have hl25:=fD aa
 exact zC (n:=d.projs.length) kY (ifpC aa) x.sl rflB
 refine stc (V:=.bool (decide (((d.projs.length:Nat):Int)≤q))) rfl rfl (fun I=>?_) ?_
 have hl27:=fD I
 exact xv (k:=.i64) (a:=q) (b:=((d.projs.length:Nat):Int)) (ifpC I) (ifpC I) rflB
 refine st (zI (b:=decide (q<0)) (b':=decide (((d.projs.length:Nat):Int)≤q)) rfl (fun hbp=>(ifpC hbp)) (zb ?_))
 cases J:(decide (q<0))||(decide (((d.projs.length:Nat):Int)≤q))
 have hc28r:=J
 try simp only[zi]at J
 refine ze rfl (zp (za (R0 fun _=>st (mV (Ix b 0) (st (zm (b:=b) (o:=0) rfl (st (Vq rfl (st (xJ rfl (st (lD C wR rfl (zd (hS0.gblk D) rfl) (st (mV (Iv q) ?_))))))))))))))
 have hi29:q.toNat<d.projs.length:=bo
 refine st (zB (k:=5) (i:=q) kY wT rfl x.sl rfl ⟨by omega,by omega⟩ ?_)
 have ab:q.toNat<d.projs.length:=bo
 obtain⟨ay,ac⟩:=x.prjD ab
 have az:=hS0.cells ay (x.foot (ne_of_lt ab))
 refine st (zh (k:=5) lY wT rfl rfl az (st (zG Tryz.zeroValue73 ?_)))
 intro w35 m aY
 have ad:=hS0.new aY
 refine stn (zy (v:=.agg bw.toArray) (c':=bw.toArray) wT rfl rfl (ad.b0) (yo ⟨rfl,rfl,rfl,rfl,rfl,zl⟩) yqc rfl ?_)
 intro w37 aZ
 have ae:=ad.pt0 aZ
 refine zb (za ?_)
 have af:VW (d.projs.getD q.toNat default):=hp.2 q.toNat om
 have hby9:0≤(d.projs.getD q.toNat default).pby:=af.1
 refine R0 fun _=>st (zh (k:=5) lY wT rfl rfl (zo (ae.b0)) (st (cL Tryz.call71 (Jh (p:=(d.projs.getD q.toNat default)) ac ae) ?_)))
 rintro _ w41 ⟨f,rfl,ag⟩
 refine st (aS (Ix f 0) (zb (za (R0 fun _=>st (mV (Ix b 0) (st (zm (b:=b) (o:=0) rfl (st (Vq rfl ?_)))))))))
 have ba:Dcl.Ok d:=⟨⟩
 refine st (zh (k:=2) (cs:=[aT,C]) uT vT rfl rfl (CellsAt.sub (zo (ag.gblk D)) 0 (cs2:=[aT,C]) rfl) (st (cL rR (Vc (d:=d) aV x ba ag) ?_)))
 rintro _ w45 ⟨g,rfl,bb⟩
 refine st (aS (Ix g 0) (zb (za (za (R0 fun _=>st (aS (Iv 0) (zb (zt (zZ (fun mq σ wq=> ∃(k:Nat) (ρ:Env),mq=evs.length-k∧σ=yf ρ [(0,Ix b 0),(4,(Iz)),(5,Ix m 0),(6,Ix f 0),(7,Ix g 0),(8,Iw k)]∧(k≤evs.length)∧Sep G W ((RefV g d (zk d (evs.take k)))::(RefO f (d.projs.getD q.toNat default) (Zn d (evs.take k) (d.projs.getD q.toNat default)))::(Blk m ((d.projs.getD q.toNat default).cells).toArray 73)::Rs) wq) ⟨0,_,rfl,sSf,zY _,bb⟩ ?_)))))))))
 rintro m48 σ49 bt ⟨k,ρl1,rfl,rfl,hkk,s⟩
 refine za (za (R0 fun _=>st (mV (Iw k) (st (mV (Ix b 0) (st (zm (b:=b) (o:=0) rfl (st (YE rfl (st (lD aU sT rfl (zd (s.gblk D) rfl) (st (zC (n:=evs.length) pT rfl E.sl (st (zK (k:=.i64) (a:=((k:Nat):Int)) (b:=((evs.length:Nat):Int)) rfl rfl (zb ?_))))))))))))))))
 cases u:decide (((k:Nat):Int)<((evs.length:Nat):Int))
 have hc51r:=u
 have u:=fD u
 have hkn:k=evs.length:=by omega
 rw[hkn,List.take_length]at s
 have bd:Sep G W ((RefV g d (zk d evs))::(RefO f (d.projs.getD q.toNat default) (Zn d evs (d.projs.getD q.toNat default)))::(Blk m bw.toArray 73)::Rs) bt:=s
 refine ze rfl (ya (zR (za (R0 fun _=>st (mV (Ix f 0) (st (cL Tryz.call73 (Kl (bd.mv1)) ?_)))))))
 rintro ah w55 ⟨_,rfl,ai⟩
 have be:=ai.r1
 have hr57s:_*24≤_:=be.2
 refine st (aS ah (zb (zq (zU mY (show _=(ah:Value)from rfl) ?_))))
 have K:yR d evs q=Zn d evs (d.projs.getD q.toNat default):=by unfold yR;rw[ifnC (by omega)]
 rw[K]
 refine⟨ah,rfl,(ai.s4_b)⟩
 have u:=tD u
 refine zg rfl (zp (za (zt (za (R0 fun _=>st (mV (Ix g 0) (st (mV (Ix b 0) (st (zm (b:=b) (o:=0) rfl (st (YE rfl (st (lD aU sT rfl (zd (s.gblk D) rfl) (st (mV (Iw k) ?_))))))))))))))))
 have bf:k<evs.length:=bo
 refine st (zf (k:=10) (i:=k) pT qT rfl E.sl rfl bf ?_)
 have aj:k<evs.length:=bo
 obtain⟨aA,y,ak⟩:=E.evD aj
 have hsm62:((evs.getD k default).deps).length*8≤140737488355328:=y.small
 have aB:=s.cells aA (E.foot (ne_of_lt aj))
 refine st (zh (k:=10) mR qT rfl rfl aB (st (cL sR (Qm (e:=(evs.getD k default)) y ak s hd ((Vd _ _)) ((by rw[xc,List.length_take];omega))) ?_)))
 rintro _ w66 ⟨z,rfl,B,al⟩
 let bv:=(ye d (zk d (evs.take k)) (evs.getD k default)).cells z
 have am:=al.r1
 have hr68s:_*8≤_:=am.2
 refine st (zG Tryz.zeroValue57 ?_)
 intro w71 F bg
 have an:=al.new bg
 refine stn (zy (v:=.agg bv.toArray) (c':=bv.toArray) nY rfl rfl (an.b0) (yo ⟨rfl,rfl,rfl,am.1.one,rfl,rfl,rfl,rfl,rfl,rfl,rfl,rfl,rfl,zl⟩) yqc rfl ?_)
 intro bu bh
 have ao:=an.pt0 bh
 refine zb (za ?_)
 have bi:(zk d (evs.take (k+1)))=((zk d (evs.take k))++[ye d (zk d (evs.take k)) (evs.getD k default)]):=Wd om
 rw[←bi]at ao
 have L:Sep G W ((Blk F bv.toArray 57)::(RefV g d (zk d (evs.take (k+1))))::(RowE (α:=Int) own 3 z ((evs.getD k default).deps))::(RefO f (d.projs.getD q.toNat default) (Zn d (evs.take k) (d.projs.getD q.toNat default)))::(Blk m bw.toArray 73)::Rs) bu:=ao
 refine R0 fun _=>st (aS (Iv 0) (zb (za (R0 fun _=>st (mV (Ix g 0) (st (xx rfl (st (xm rfl (st (lD (Iv ((ye d (zk d (evs.take k)) (evs.getD k default)).ev.typ)) lT rfl (zd (L.b0) rfl) (st (xx rfl (st (Zc rfl (st (lD (Iv ((ye d (zk d (evs.take k)) (evs.getD k default)).ev.agg)) lT rfl (zd (L.b0) rfl) ?_)))))))))))))))))
 obtain⟨G78,ap,hB81,bj,bk⟩:=(L.mv1).lend
 obtain⟨vt84,vp85,ve86,hb87,bl,bm,bn⟩:=RefV.sh ap
 have hsm91:d.types.length*24≤140737488355328:=bl.small
 have hsm92:d.projs.length*40≤140737488355328:=bm.small
 have hsm93:(zk d (evs.take (k+1))).length*120≤140737488355328:=bn.small
 refine st (cL vR (Xu (ty:=(ye d (zk d (evs.take k)) (evs.getD k default)).ev.typ) (no:=(ye d (zk d (evs.take k)) (evs.getD k default)).ev.agg) ap B.ev.typ B.ev.agg bj hd ((Vd _ _)) ((by rw[xc,List.length_take];omega))) ?_)
 rintro _ w95 ⟨l,rfl,aq⟩
 let bc:=(yr d (((ye d (zk d (evs.take k)) (evs.getD k default)).ev.typ),((ye d (zk d (evs.take k)) (evs.getD k default)).ev.agg)) (zk d (evs.take (k+1)))).cells l
 have ar:=aq.r0
 have hr97s:_*32≤_:=ar.2
 have bp:=bk _ _ aq
 refine st (mV (.tuple #[.agg bc.toArray,.bool ((zj d (zk d (evs.take (k+1))) (((ye d (zk d (evs.take k)) (evs.getD k default)).ev.typ),((ye d (zk d (evs.take k)) (evs.getD k default)).ev.agg))).isSome)]) (st (zz (vs:=[.agg bc.toArray,.bool ((zj d (zk d (evs.take (k+1))) (((ye d (zk d (evs.take k)) (evs.getD k default)).ev.typ),((ye d (zk d (evs.take k)) (evs.getD k default)).ev.agg))).isSome)]) (i:=0) (v:=.agg bc.toArray) rfl rfl ?_)))
 refine st (zz (vs:=[.agg bc.toArray,.bool ((zj d (zk d (evs.take (k+1))) (((ye d (zk d (evs.take k)) (evs.getD k default)).ev.typ),((ye d (zk d (evs.take k)) (evs.getD k default)).ev.agg))).isSome)]) (i:=1) (v:=.bool ((zj d (zk d (evs.take (k+1))) (((ye d (zk d (evs.take k)) (evs.getD k default)).ev.typ),((ye d (zk d (evs.take k)) (evs.getD k default)).ev.agg))).isSome)) rfl rfl (st (zG tR ?_)))
 intro w101 au bq
 have N:=bp.new bq
 refine stn (zy (v:=.agg bc.toArray) (c':=bc.toArray) nR rfl rfl (N.b0) (yo ⟨rfl,ar.1.one,zl⟩) yqc rfl ?_)
 intro br aC
 refine st (aS (.bool ((zj d (zk d (evs.take (k+1))) (((ye d (zk d (evs.take k)) (evs.getD k default)).ev.typ),((ye d (zk d (evs.take k)) (evs.getD k default)).ev.agg))).isSome)) (zb (za (za ?_))))
 obtain⟨bs,aD,hB110,c,aE⟩:=((N.pt0 aC).mv2).lend
 have h:=RowE.rd aD
 have hrd113s:_*32≤_:=h.small
 refine zF kr (st (mV (.bool ((zj d (zk d (evs.take (k+1))) (((ye d (zk d (evs.take k)) (evs.getD k default)).ev.typ),((ye d (zk d (evs.take k)) (evs.getD k default)).ev.agg))).isSome)) (st (mV (.bool ((zj d (zk d (evs.take (k+1))) (((ye d (zk d (evs.take k)) (evs.getD k default)).ev.typ),((ye d (zk d (evs.take k)) (evs.getD k default)).ev.agg))).isSome)) (stc (V:=Ix m 3) rfl rfl (fun hb114=>?_) ?_)))))
 exact Wk rfl rflB
 refine stc (V:=Iv ((d.projs.getD q.toNat default).pby)) rfl rfl (fun aF=>?_) ?_
 exact lD (Iv ((d.projs.getD q.toNat default).pby)) lT (ifpC aF) (zd (c.b5) rfl) rflB
 refine stc (V:=Ix au 1) rfl rfl (fun hb118=>?_) ?_
 exact xo rfl rflB
 refine stc (V:=l) rfl rfl (fun aG=>?_) ?_
 exact lD l oY (ifpC aG) (zd (c.b0) rfl) rflB
 refine stc (V:=Iw ((stL d (((ye d (zk d (evs.take k)) (evs.getD k default)).ev.typ),((ye d (zk d (evs.take k)) (evs.getD k default)).ev.agg)) (zk d (evs.take (k+1)))).length)) rfl rfl (fun aH=>?_) ?_
 exact zC (n:=(stL d (((ye d (zk d (evs.take k)) (evs.getD k default)).ev.typ),((ye d (zk d (evs.take k)) (evs.getD k default)).ev.agg)) (zk d (evs.take (k+1)))).length) pY (ifpC aH) h.sl rflB
 refine stc (V:=.bool (decide (((d.projs.getD q.toNat default).pby)<(((stL d (((ye d (zk d (evs.take k)) (evs.getD k default)).ev.typ),((ye d (zk d (evs.take k)) (evs.getD k default)).ev.agg)) (zk d (evs.take (k+1)))).length:Nat):Int)))) rfl rfl (fun O=>?_) ?_
 exact zK (k:=.i64) (a:=(d.projs.getD q.toNat default).pby) (b:=(((stL d (((ye d (zk d (evs.take k)) (evs.getD k default)).ev.typ),((ye d (zk d (evs.take k)) (evs.getD k default)).ev.agg)) (zk d (evs.take (k+1)))).length:Nat):Int)) (ifpC O) (ifpC O) rflB
 refine st (zx (b:=(zj d (zk d (evs.take (k+1))) (((ye d (zk d (evs.take k)) (evs.getD k default)).ev.typ),((ye d (zk d (evs.take k)) (evs.getD k default)).ev.agg))).isSome) (b':=decide (((d.projs.getD q.toNat default).pby)<(((stL d (((ye d (zk d (evs.take k)) (evs.getD k default)).ev.typ),((ye d (zk d (evs.take k)) (evs.getD k default)).ev.agg)) (zk d (evs.take (k+1)))).length:Nat):Int))) rfl (fun hbp=>(ifpC hbp)) (zb ?_))
 refine Yu (fun σ wq=> ∃(A:Int) (ρ:Env),σ=yf ρ [(0,Ix b 0),(4,(Iz)),(5,Ix m 0),(6,Ix f 0),(7,Ix g 0),(8,Iw k),(9,Ix F 0),(10,Iv A)]∧(A=(WT d (d.projs.getD q.toNat default) (zk d (evs.take (k+1))) (evs.getD k default))∧InR A)∧Sep bs br ((Blk au bc.toArray 48)::(RefV g d (zk d (evs.take (k+1))))::(Blk F bv.toArray 57)::(RowE (α:=Int) own 3 z ((evs.getD k default).deps))::(RefO f (d.projs.getD q.toNat default) (Zn d (evs.take k) (d.projs.getD q.toNat default)))::(Blk m bw.toArray 73)::Rs) wq) ?_ ?_
 cases t:((zj d (zk d (evs.take (k+1))) (((ye d (zk d (evs.take k)) (evs.getD k default)).ev.typ),((ye d (zk d (evs.take k)) (evs.getD k default)).ev.agg))).isSome)&&(decide (((d.projs.getD q.toNat default).pby)<(((stL d (((ye d (zk d (evs.take k)) (evs.getD k default)).ev.typ),((ye d (zk d (evs.take k)) (evs.getD k default)).ev.agg)) (zk d (evs.take (k+1)))).length:Nat):Int)))
 try simp only[zi]at t
 refine ze rfl (zp ?_)
 exact⟨rfl,0,_,yG ⟨(show _=(Ix b 0:Value)from rfl),(show _=((Iz):Value)from rfl),(show _=(Ix m 0:Value)from rfl),(show _=(Ix f 0:Value)from rfl),(show _=(Ix g 0:Value)from rfl),(show _=(Iw k:Value)from rfl),(show _=(Ix F 0:Value)from rfl),(show _=(Iv 0:Value)from rfl),zl⟩,⟨(zcJ (hp.2 q.toNat om).1 t).symm,dc⟩,c⟩
 try simp only[zi]at t
 refine zg rfl (R0 fun _=>st (xo rfl (st (lD l oY rfl (zd (c.b0) rfl) (st (Wk rfl (st (lD (Iv ((d.projs.getD q.toNat default).pby)) lT rfl (zd (c.b5) rfl) ?_))))))))
 have hi127:((d.projs.getD q.toNat default).pby).toNat<(stL d (((ye d (zk d (evs.take k)) (evs.getD k default)).ev.typ),((ye d (zk d (evs.take k)) (evs.getD k default)).ev.agg)) (zk d (evs.take (k+1)))).length:=bo
 refine st (zB (k:=2) (i:=(d.projs.getD q.toNat default).pby) pY Tryz.sizeOf105 rfl h.sl rfl ⟨by omega,by omega⟩ (st (xa rfl ?_)))
 have P:((d.projs.getD q.toNat default).pby).toNat<(stL d (((ye d (zk d (evs.take k)) (evs.getD k default)).ev.typ),((ye d (zk d (evs.take k)) (evs.getD k default)).ev.agg)) (zk d (evs.take (k+1)))).length:=bo
 obtain⟨av,M,S⟩:=h.celD P
 have hsm130:(((stL d (((ye d (zk d (evs.take k)) (evs.getD k default)).ev.typ),((ye d (zk d (evs.take k)) (evs.getD k default)).ev.agg)) (zk d (evs.take (k+1)))).getD (((d.projs.getD q.toNat default).pby).toNat) default).set).length*8≤140737488355328:=M.small
 have aw:=c.cells av (h.foot (ne_of_lt P))
 refine st (lD (Iv (((stL d (((ye d (zk d (evs.take k)) (evs.getD k default)).ev.typ),((ye d (zk d (evs.take k)) (evs.getD k default)).ev.agg)) (zk d (evs.take (k+1)))).getD (((d.projs.getD q.toNat default).pby).toNat) default).n)) lT rfl (aw.get (j:=0) rfl) (st (aS (Iv (((stL d (((ye d (zk d (evs.take k)) (evs.getD k default)).ev.typ),((ye d (zk d (evs.take k)) (evs.getD k default)).ev.agg)) (zk d (evs.take (k+1)))).getD (((d.projs.getD q.toNat default).pby).toNat) default).n)) (zb ?_))))
 exact⟨rfl,((stL d (((ye d (zk d (evs.take k)) (evs.getD k default)).ev.typ),((ye d (zk d (evs.take k)) (evs.getD k default)).ev.agg)) (zk d (evs.take (k+1)))).getD (((d.projs.getD q.toNat default).pby).toNat) default).n,_,yG ⟨(show _=(Ix b 0:Value)from rfl),(show _=((Iz):Value)from rfl),(show _=(Ix m 0:Value)from rfl),(show _=(Ix f 0:Value)from rfl),(show _=(Ix g 0:Value)from rfl),(show _=(Iw k:Value)from rfl),(show _=(Ix F 0:Value)from rfl),(show _=(Iv (((stL d (((ye d (zk d (evs.take k)) (evs.getD k default)).ev.typ),((ye d (zk d (evs.take k)) (evs.getD k default)).ev.agg)) (zk d (evs.take (k+1)))).getD (((d.projs.getD q.toNat default).pby).toNat) default).n):Value)from rfl),zl⟩,⟨(zbY (by simpa using t)).symm,S.n⟩,c⟩
 rintro _ w132 ⟨A,ρj1,rfl,ax,aI⟩
 have Q:=aE _ _ aI
 refine R0 fun _=>st (mV (Ix f 0) (st (zh (k:=13) Tryz.isAgg57 nY rfl rfl (zo (Q.b3)) (st (mV (Iv A) ?_)))))
 obtain⟨G136,aJ,hB139,aK,aL⟩:=(Q.mv4).lend
 have H:=RowE.rd aJ
 have hrd142s:_*8≤_:=H.small
 refine st (cL Tryz.call72 (JD (e:=(ye d (zk d (evs.take k)) (evs.getD k default))) (reg:=A) H B ax.2 (aK.mv4) ((JP (by rw[List.length_take];omega))) ((Nat.le_trans (VZ ..) (by rw[List.length_take];omega)))) ?_)
 rintro _ w146 ⟨aM,rfl,T,aN⟩
 have aO:=aL _ _ aN
 refine zb (R0 fun _=>st (mV (Iw k) ?_))
 have aP:InR ((k+1:Nat):Int):=bo
 refine st (zO (r:=((k+1:Nat):Int)) (k:=.i64) (a:=((k:Nat):Int)) (b:=1) rfl rfl (by rw[show(((k:Nat):Int)+1:Int)=((k+1:Nat):Int)from bo];exact zw aP) (st (aS (Iw (k+1)) (zb ?_))))
 have R:=aO.s7_ebg
 have aQ:(Zn d (evs.take (k+1)) (d.projs.getD q.toNat default))=aM:=(QS om af ax.1 T).symm
 rw[←aQ]at R
 exact⟨_,by omega,k+1,_,rfl,sSf,by omega,R⟩
 try simp only[zi]at J
 refine zg rfl (za (R0 fun _=>st (aS Iz (zb (zq (zU mY (show _=((Iz):Value)from rfl) ?_))))))
 have aR:Sep G W ((RowE (α:=Row) own 70 Iz ([]:List Row))::Rs) w:=hS0.rowNil own 70
 have K:yR d evs q=[]:=by unfold yR;rw[ifpC (by omega)]
 rw[K]
 refine⟨(Iz),rfl,aR⟩
theorem Kn (d:Dcl)(l:List Ev)(i:Int):(yR d l i).length≤l.length:=by
 unfold yR
 split
 ·exact Nat.zero_le _
 ·exact VZ ..
theorem Qb {b:Nat}{d:Dcl}{every:Nat}{evs:List Ev}{yb:Nat}(hyb:(RBase yb d every evs).p W G){n:Nat}(hn:n≤1000)(hS0:Sep G W ((BaseO b d every evs)::Rs) w)(hd:DclOk d)(hfew:evs.length≤1000)(hp:Xq d):Ret Tryz.prog 19 [.pointer (some ⟨b,0,none⟩),.pointer (some ⟨yb,0,none⟩),.int .i64 ((n:Nat):Int)] w (fun r w'=>r=(.bool true:Value)∧Sep G W ((BaseO b d every evs)::Rs) w'):=by
 refine zn (args:=[Ix b 0,Ix yb 0,Iw n]) Tryz.func19 rfl rfl ?_
 refine za ?_
 obtain⟨hev1,vt2,vp3,ve4,hb5,H,I,J⟩:=RBase.sh hyb
 have hsm9:d.types.length*24≤140737488355328:=H.small
 have hsm10:d.projs.length*40≤140737488355328:=I.small
 have hsm11:evs.length*96≤140737488355328:=J.small
 refine R0 fun _=>st (aS (.bool false) (zb (za (za (R0 fun _=>st (aS (Iv (-1)) (zb (zt (zZ (fun mq σ L=> ∃(c:Int) (ρ:Env),mq=(n+1-c).toNat∧σ=yf ρ [(0,Ix b 0),(1,Ix yb 0),(2,Iw n),(6,.bool false),(7,Iv c)]∧(-1≤c∧c≤((n:Nat):Int)+1)∧Sep G W ((BaseO b d every evs)::Rs) L) ⟨(-1),_,rfl,sSf,⟨by omega,by omega⟩,hS0⟩ ?_)))))))))
 rintro m13 σ14 w12 ⟨c,ρl1,rfl,rfl,hp9,i⟩
 refine za (za (R0 fun _=>st (mV (Iv c) (st (mV (Iw n) (st (Kv (k:=.i64) (a:=c) (b:=((n:Nat):Int)) rfl rfl (zb ?_))))))))
 cases e:decide (c≤((n:Nat):Int))
 have hc16r:=e
 have e:=fD e
 refine ze rfl (ya (zR (za (R0 fun _=>st (aS (.bool true) (zb (zq (zU Tryz.results19 (show _=(.bool true:Value)from rfl) ?_))))))))
 refine⟨rfl,i⟩
 have e:=tD e
 refine zg rfl (zp (za (zt (za (R0 fun _=>st (mV (Ix b 0) (st (mV (Iv c) (st (cL Tryz.call31 (XQ (q:=c) om i hfew) ?_))))))))))
 rintro f w18 ⟨_,rfl,j⟩
 have o:=j.r1
 have hr20s:_*24≤_:=o.2
 refine st (aS f (zb (za (za (R0 fun _=>st (mV f (st (mV (Ix yb 0) (st (mV (Iv c) (st (cL Tryz.call47 (zbR (q:=c) hyb om j hd hfew hp) ?_))))))))))))
 rintro K w22 ⟨_,rfl,l⟩
 have s:=l.r0
 have hr24s:_*24≤_:=s.2
 obtain⟨G26,t,hB29,u,v⟩:=(l.mv2).lend
 have g:=RowE.rd t
 have hrd32s:_*24≤_:=g.small
 obtain⟨G33,x,y,z,A⟩:=u.lend
 have h:=RowE.rd x
 have hrd39s:_*24≤_:=h.small
 refine st (cL Tryz.call30 (Xy (a:=(yR d evs c)) (va:=f) (b:=(yR d evs c)) (vb:=K) (zv g y) h z) ?_)
 rintro _ w40 ⟨rfl,B⟩
 have C:=A _ _ B
 have D:=v _ _ C
 refine st (yD (a:=decide ((yR d evs c)=(yR d evs c))) rfl ?_)
 have m:(!(decide ((yR d evs c)=(yR d evs c))))=false:=(by simp)
 rw[m]
 refine zb (ze rfl (zp (R0 fun _=>st (mV f (st (cL Tryz.call48 (zau D ((Nat.le_trans (Kn ..) om))) ?_))))))
 rintro _ w45 ⟨rfl,E⟩
 refine zb (R0 fun _=>st (mV (Iv c) ?_))
 have F:InR (c+1):=om
 refine st (zO (r:=c+1) (k:=.i64) (a:=c) (b:=1) rfl rfl (by rw[show(c+1:Int)=c+1 from rfl];exact zw F) (st (aS (Iv (c+1)) (zb ?_))))
 exact⟨_,by omega,c+1,_,rfl,sSf,⟨by omega,by omega⟩,(E.s2_b)⟩
end
section
open Go.RowKit
structure EntS where
 origin:Int
 seq:Int
 lam:Int
 dv:Value
 typ:Int
 agg:Int
 field:Int
 op:Int
 arg:Int
 key:Int
 void:Bool
 byO:Int
 byS:Int
 deriving Inhabited
structure EntS.Ok (e:EntS):Prop where
 origin:InR e.origin
 seq:InR e.seq
 lam:InR e.lam
 one:e.dv.oneCell'=true
 typ:InR e.typ
 agg:InR e.agg
 field:InR e.field
 op:InR e.op
 arg:InR e.arg
 key:InR e.key
 byO:InR e.byO
 byS:InR e.byS
def EntS.cells (e:EntS):List Value:=[.int .i64 e.origin,.int .i64 e.seq,.int .i64 e.lam,e.dv,.int .i64 e.typ,.int .i64 e.agg,.int .i64 e.field,.int .i64 e.op,.int .i64 e.arg,.int .i64 e.key,.bool e.void,.int .i64 e.byO,.int .i64 e.byS]
instance:Rep EntS where
 k:=13
 rd _ _ cs x:=cs=x.cells∧x.Ok
 bytes:=120
 bpos:=by decide
 kpos:=by decide
 len h:=by rw[h.1];rfl
 one h:=by rw[h.1];exact yo ⟨rfl,rfl,rfl,h.2.one,rfl,rfl,rfl,rfl,rfl,rfl,rfl,rfl,rfl,trivial⟩
 mono h _:=h
instance:Flat EntS:=⟨fun h=>h⟩
theorem KV {w:World}{F:Nat→Prop}: ∀{css:List (List Value)} {l:List Ent},EP (fun cs x=>Rep.rd w F cs x) css l→ ∃ps:List EntS,ps.length=l.length∧EP (fun cs (s:EntS)=>cs=s.cells∧s.Ok) css ps∧ ∀i,i<l.length→RdS w F (ps.getD i default).dv (l.getD i default).ev.deps
 |[],[],_=>⟨[],rfl,trivial,fun i h=>absurd h (Nat.not_lt_zero i)⟩
 |cs::css,x::l,h=>by
  obtain⟨ps,h1,h2,h3⟩:=KV h.2
  obtain⟨d,hc,hd,ho⟩:=h.1
  have o:=ho.ev
  refine⟨⟨x.ev.origin,x.ev.seq,x.ev.lam,d,x.ev.typ,x.ev.agg,x.ev.field,x.ev.op,x.ev.arg,x.ev.key,x.void,x.byO,x.byS⟩::ps,by simp[h1],⟨⟨hc,⟨o.origin,o.seq,o.lam,hd.sl.one,o.typ,o.agg,o.field,o.op,o.arg,o.key,ho.byO,ho.byS⟩⟩,h2⟩,fun i hi=>?_⟩
  cases i with
  |zero=>exact hd
  |succ i=>exact h3 i (by simpa using hi)
 |[],_::_,h=>h.elim
 |_::_,[],h=>h.elim
theorem Sep.entML {G:Nat→Prop}{W w:World}{As:List HP}{T:TypeId}{v:Value}{l:List Ent}(h:Sep G W (RowE (α:=Ent) own T v l::As) w): ∃(ps:List EntS) (f0:Nat→Prop),ps.length=l.length∧(∀i,i<l.length→RdS w f0 (ps.getD i default).dv (l.getD i default).ev.deps)∧Sep G W (RowE (α:=EntS) own T v ps::ML w f0 noX::As) w:=by
 obtain⟨f,hA,hl,hT⟩:=h.take (i:=0) rfl
 obtain⟨css,hE,hown,hrow,hsm⟩:=hA
 obtain⟨ps,h1,h2,h3⟩:=KV (F:=fun b=>(f b∧v.ownBlock≠some b)∧Soft w b) hE
 refine⟨ps,fun b=>(f b∧v.ownBlock≠some b)∧Soft w b,h1,h3,?_⟩
 have hB:(Star [RowE (α:=EntS) own T v ps,ML w (fun b=>(f b∧v.ownBlock≠some b)∧Soft w b) noX]).p w f:=by
  refine⟨fun i b=>(i=0∧v.ownBlock=some b)∨(i=1∧(f b∧v.ownBlock≠some b)∧Soft w b),fun i A hA=>?_,fun i j hi hj hne b hb hb2=>?_⟩
  ·match i,hA with
   |0,hA=>
    obtain rfl:=Option.some.inj hA
    refine⟨⟨css,h2.mono (fun cs x h=>h),by rw[h1];exact hown,fun b hb=>.inl ⟨rfl,hb⟩,by rw[h1];exact hsm⟩,fun b hb=>?_⟩
    rcases hb with⟨_,hb⟩|⟨h,_⟩
    ·exact⟨hrow b hb,(hown.lt b hb).2⟩
    ·cases h
   |1,hA=>
    obtain rfl:=Option.some.inj hA
    refine⟨fun b hb=>⟨.inr ⟨rfl,hb⟩,hb.2,fun o v hv=>⟨v,hv,.inr (.inl rfl)⟩⟩,fun b hb=>?_⟩
    rcases hb with⟨h,_⟩|⟨_,hb⟩
    ·cases h
    ·exact⟨hb.1.1,by obtain⟨c,T,hc⟩:=hb.2;exact xz hc⟩
   |i+2,hA=>simp at hA
  ·rcases hb with⟨e,hb⟩|⟨e,hb⟩<;>rcases hb2 with⟨e2,hb2⟩|⟨e2,hb2⟩
   ·exact hne (e.trans e2.symm)
   ·exact hb2.1.2 hb
   ·exact hb.1.2 hb2
   ·exact hne (e.trans e2.symm)
 exact(hT w _ f (Chg.refl _ _) hB (fun _ h=>.inl h)).openStar
end
end Go.Proofs.YtpdolkiohjdodaaGreatDoor
